/- Lemmas; conditions: as each states. -/
import Derived.Test.YtmclocdhcblbiaaGreatDoorZLayLaw
set_option maxHeartbeats 4000000
namespace Go.Proofs.YtmclocdhcblbiaaGreatDoor
open Go.RowKit Go.Shelf Go.Lib Tryz
def Blk(w:World)(b:Nat)(t:TypeId)(vals:List Value):Prop:=w.heap[b]? = some (.cells vals.toArray t (0,0))
theorem Blk.new(w:World)(t:TypeId)(A:List Value):Blk (w.alloc (.cells A.toArray t)) w.heap.size t A:=heap_alloc_new _ _
theorem Blk.lt{w:World}{b:Nat}{t:TypeId}{A:List Value}(h:Blk w b t A):b<w.heap.size:=(Array.getElem?_eq_some_iff.1 h).1
theorem Blk.step{w w':World}{b:Nat}{t:TypeId}{A:List Value}(h:Blk w b t A)(B:Below w.heap.size w w'):Blk w' b t A:=(B.block b h.lt).trans h
theorem Blk.cell{w:World}{b:Nat}{t:TypeId}{A:List Value}(h:Blk w b t A)(i:Nat):w.cell? ⟨b,i,none⟩=A[i]?:=by
 rw[cell_of_row w b i _ t _ h];simp
theorem Blk.frozen{w:World}{b:Nat}{t:TypeId}{A:List Value}(h:Blk w b t A)(i:Nat):w.frozen? ⟨b,i,none⟩=false:=frozen_of_row w b i _ t h
def Qw:List Value:=[.string ⟨#[]⟩,.string ⟨#[]⟩,.bool false,.bool false,.bool false,.int .i64 0,.slice none 0 0,.slice none 0 0]
theorem Blk.method{w:World}{b:Nat}(h:Blk w b 39 Qw):
 w.cell? ⟨b,0,none⟩=some (.string ⟨#[]⟩)/\w.cell? ⟨b,1,none⟩=some (.string ⟨#[]⟩)/\w.cell? ⟨b,2,none⟩=some (.bool false)/\w.cell? ⟨b,3,none⟩=some (.bool false)/\w.cell? ⟨b,4,none⟩=some (.bool false)/\w.cell? ⟨b,5,none⟩=some (.int .i64 0)/\w.cell? ⟨b,6,none⟩=some (.slice none 0 0)/\w.cell? ⟨b,7,none⟩=some (.slice none 0 0) :=
 ⟨h.cell 0,h.cell 1,h.cell 2,h.cell 3,h.cell 4,h.cell 5,h.cell 6,h.cell 7⟩
theorem Z9{B b:Nat}{a w:World}(h:Below B a w)(A:B<=b)(v0 C D E F G H I:Value):
 Below B a ((((((((w.setCell ⟨b,0,none⟩ v0).setCell ⟨b,1,none⟩ C).setCell ⟨b,2,none⟩ D).setCell ⟨b,3,none⟩ E).setCell ⟨b,4,none⟩ F).setCell ⟨b,5,none⟩ G).setCell ⟨b,6,none⟩ H).setCell ⟨b,7,none⟩ I) :=
 ((((((((h.setCell (p:=⟨b,0,none⟩) A v0).setCell (p:=⟨b,1,none⟩) A C).setCell (p:=⟨b,2,none⟩) A D).setCell (p:=⟨b,3,none⟩) A E).setCell (p:=⟨b,4,none⟩) A F).setCell (p:=⟨b,5,none⟩) A G).setCell (p:=⟨b,6,none⟩) A H).setCell (p:=⟨b,7,none⟩) A I)
theorem ZaF{B b:Nat}{a w:World}(h:Below B a w)(A:B<=b)(v0 C:Value):Below B a ((w.setCell ⟨b,0,none⟩ v0).setCell ⟨b,1,none⟩ C) :=
 (h.setCell (p:=⟨b,0,none⟩) A v0).setCell (p:=⟨b,1,none⟩) A C
def Q1(w:World)(m:qc)(v:Value):Prop:=∃pc kc ph kh,v=.agg #[.string m.name,.string m.type,.bool m.static,.bool m.abs,.bool m.priv,.int .i64 m.locals,.slice pc m.code.length kc,.slice ph m.handlers.length kh]/\Qe w 6 Zv (.slice pc m.code.length kc) m.code/\Qe w 4 Qp (.slice ph m.handlers.length kh) m.handlers
theorem Q1.none(w:World):Q1 w QH (.agg Qw.toArray):=⟨.none,0,.none,0,rfl,Or.inl ⟨rfl,rfl⟩,Or.inl ⟨rfl,rfl⟩⟩
theorem Q1.mono{w w':World}{m:qc}{v:Value}(A:Below w.heap.size w w'):Q1 w m v->Q1 w' m v
 |⟨pc,B,C,D,E,F,G⟩=>⟨pc,B,C,D,E,F.mono A (by decide) (fun _ _ h=>h),G.mono A (by decide) (fun _ _ h=>h)⟩
def Qd7(w0 w:World)(o:Option qc)(e:Ending)(w':World):Prop:=(∃v,e=.returned (.tuple #[v,.bool o.isSome])/\Q1 w0 (o.getD QH) v)/\Below w.heap.size w w'
set_option maxRecDepth 100000
theorem qe6(M w:World)(j:Below M.heap.size M w)(c:qa)(l p:Value)(Z:Option Addr)(d:Nat)(n t:Str)(T:Qe M 8 (zo M) (.slice Z c.methods.length d) c.methods):
 Calls prog 68 #[.agg #[.string c.name,.string c.super,l,.bool c.face,p,.slice Z c.methods.length d],.string n,.string t] w (Qd7 M w (Zal n t c.methods)):=by
 obtain⟨name,H,faces,L,f,D⟩:=c;dsimp only at *;obtain⟨pa,ca,he,e,h2,X⟩:=T.open;injection he with he1 he2 he3
 subst he1 he3;clear he2;have HC:=Xh X;have hlen:D.length<=9223372036854775807:=Xf e h2;have F:=Blk.new (w.alloc (.cells #[.string name,.string H,l,.bool L,p,.slice Z D.length d] 31)) 39 Qw;have E:=ZJ w (.cells #[.string name,.string H,l,.bool L,p,.slice Z D.length d] 31) (.cells Qw.toArray 39);simp only[World.size_alloc]at F;clear T X;go_enter func68,ntmps68;go_wp2_with fail;go_loopw [13] (fun x wr=>∃k:Nat,k<=D.length/\Hid (Zal n t (D.drop k)=Zal n t D)/\Below w.heap.size w wr/\Hid (Blk wr (w.heap.size+1) 39 Qw)/\x=.int .i64 k) (fun x _=>D.length-(intOf x).toNat)
 case atStart=>exact⟨0,by omega,rfl,E,F,rfl⟩
 case round =>
  clear E F;obtain⟨k,hk,I,E,B,rfl⟩:=hrel;by_cases r:k<D.length
  ·obtain⟨m,Y⟩:∃a,D[k]? = some a:=⟨D[k],by simp[r]⟩;obtain⟨b,o,vs,rfl,⟨cv,hv,rfl,g,h⟩,_,i⟩:=HC.out k m Y;have N:=Qa j Xl E;obtain⟨c0,c1,c2,c3,c4,c5,c6,c7,_⟩:=i.mono N i.lt;have O:=ZdL n t D k m Y;rw[I.out]at O;obtain⟨pc,P,rfl,_⟩:=g.open;obtain⟨R,S,rfl,_⟩:=h.open;have s:=Zay m.name n;have y:=Zay m.type t;have hlt:=B.out.lt;have HX:=Xh Y;have J:=E.alloc E.size (.cells #[.string m.name,.string m.type,.bool m.static,.bool m.abs,.bool m.priv,.int .i64 m.locals,.slice pc m.code.length P,.slice R m.handlers.length S] 39);have G:=B.out.step ((Below.refl wr.heap.size wr).alloc Xl (.cells #[.string m.name,.string m.type,.bool m.static,.bool m.abs,.bool m.priv,.int .i64 m.locals,.slice pc m.code.length P,.slice R m.handlers.length S] 39));by_cases A:m.name=n/\m.type=t
   ·rw[if_pos A]at O;rw[Xj A.1]at s;rw[Xj A.2]at y;obtain⟨q0,q1,q2,q3,q4,q5,q6,q7⟩:=B.out.method;have z:=B.out.frozen;have HS:=Xh O;have HM:Hid (Q1 M m (.agg #[.string m.name,.string m.type,.bool m.static,.bool m.abs,.bool m.priv,.int .i64 m.locals,.slice pc m.code.length P,.slice R m.handlers.length S])):=⟨pc,P,R,S,rfl,g,h⟩;have U:=Xh J;clear O A g h G J B N i I Y;have hE:=(Z9 E (show w.heap.size<=w.heap.size+1 by omega) (.string m.name) (.string m.type) (.bool m.static) (.bool m.abs) (.bool m.priv) (.int .i64 m.locals) (.slice pc m.code.length P) (.slice R m.handlers.length S)).alloc (Xf E.size (by simp)) (.cells #[.string m.name,.string m.type,.bool m.static,.bool m.abs,.bool m.priv,.int .i64 m.locals,.slice pc m.code.length P,.slice R m.handlers.length S] 39);have HE:=Xh hE;clear hE E;go_wp2_with fail;exact bodyPost_ret (v:=.tuple #[.agg #[.string m.name,.string m.type,.bool m.static,.bool m.abs,.bool m.priv,.int .i64 m.locals,.slice pc m.code.length P,.slice R m.handlers.length S],.bool true]) (by simp[results,results68,go_sem, *]) rfl (by rw[HS.out];exact⟨⟨_,rfl,HM⟩,HE⟩)
   ·rw[if_neg A]at O;have hst:=Xh O.symm;have C:(decide (m.name=n)&&decide (m.type=t))=false:=by
     rw[Bool.and_eq_false_iff,decide_eq_false_iff_not,decide_eq_false_iff_not];by_cases e:m.name=n
     ·exact Or.inr fun h2=>A ⟨e,h2⟩
     ·exact Or.inl e
    rw[<-s,<-y]at C;have U:=Xh J;have V:Hid (Blk _ _ _ _):=G;clear O A g h G J B E N i I Y s y;obtain⟨b1,g1⟩:∃q,(m.name.toList==n.toList)=q:=⟨_,rfl⟩;obtain⟨b2,g2⟩:∃q,(m.type.toList==t.toList)=q:=⟨_,rfl⟩;rw[g1,g2]at C;cases b1<;>cases b2
    all_goals first
     |(exact absurd C (by decide))
     |(
      clear C;go_wp2_with fail;go_roundw;case rel=>exact⟨k+1,by omega,hst.out,U,V,by simp⟩
      case measure=>simp[intOf];omega)
  ·obtain rfl:k=D.length:=(by omega);have C:Zal n t D=none:=(by rw[<-I.out,Xg Xl];rfl);obtain⟨q0,q1,q2,q3,q4,q5,q6,q7⟩:=B.out.method;have z:=B.out.frozen;have HS:=Xh C;have HE:=Xh (Z9 E (show w.heap.size<=w.heap.size+1 by omega) (.string ⟨#[]⟩) (.string ⟨#[]⟩) (.bool false) (.bool false) (.bool false) (.int .i64 0) (.slice none 0 0) (.slice none 0 0));clear C I B E;go_wp2_with fail;exact bodyPost_ret (v:=.tuple #[.agg Qw.toArray,.bool false]) (by simp[results,results68,go_sem, *,Qw]) rfl (by rw[HS.out];exact⟨⟨_,rfl,Q1.none M⟩,HE⟩)
def zc8:List Value:=[.string ⟨#[]⟩,.string ⟨#[]⟩]
theorem Blk.field{w:World}{b:Nat}(h:Blk w b 118 zc8):w.cell? ⟨b,0,none⟩=some (.string ⟨#[]⟩)/\w.cell? ⟨b,1,none⟩=some (.string ⟨#[]⟩):=⟨h.cell 0,h.cell 1⟩
def qbZ:Option (Str×QJ)->Value
 |some (c,f)=>.tuple #[.string c,.agg #[.string f.name,.string f.type],.bool true]
 |none=>.tuple #[.string ⟨#[]⟩,.agg #[.string ⟨#[]⟩,.string ⟨#[]⟩],.bool false]
theorem Qg.line_known{l:List qa}(h:Qg l){c d:Str}(A:(Qb (Za l) c).isSome=true)(B:d∈zm (Za l) c):(Qb (Za l) d).isSome=true:=h.tree.known c d A B
theorem Zca(w0 w:World)(B:Nat)(l:List qa)(P:qh w0 w B l)(c n:Str)(hk:(Qb (Za l) c).isSome=true):
 Calls prog 150 #[.map (some B),.string c,.string n] w fun e w'=>e=.returned (qbZ (zaM (Za l) c n))/\Below w.heap.size w w':=by
 have HL:Hid (∀wx,Below w.heap.size w wx->_):=fun wx hb=>qa7 w0 wx B l P.right (P.map.step hb) c hk
 have HKn:Hid (∀d∈zm (Za l) c,(Qb (Za l) d).isSome=true):=fun d hd=>P.right.line_known hk hd
 have HLk:Hid (∀d:Str,(Qb (Za l) d).isSome=true->_):=fun d hd=>P.map.look3 P.right.nodup d (P.map.names hd)
 have HB0:=Xh P.map.below;have hcf:=ZbR;have R:Blk (w.alloc (.cells #[.string ⟨#[]⟩,.string ⟨#[]⟩] 118)) w.heap.size 118 zc8:=Blk.new w _ zc8;have S:Below w.heap.size w (w.alloc (.cells #[.string ⟨#[]⟩,.string ⟨#[]⟩] 118)):=Xb.alloc Xl _;unfold zaM;clear P hk;generalize zm (Za l) c=L at *;go_enter func150,ntmps150;go_wp2_with (go_fit (HL.out _ S);rintro e w3⟨⟨v3,rfl,X⟩,Y⟩;obtain⟨pv,kv,rfl⟩:=Ze X)
 have i:=Zk X;obtain⟨pv',kv',he,h1,h2,r⟩:=i.open;injection he with Z g h
 subst Z h;clear g;have HC:=Xh r;have hlen:L.length<=9223372036854775807:=Xf h1 h2;have m:Hid (Blk w3 w.heap.size 118 zc8):=R.step Y;have H:=Xh (Qa S Xl Y);clear i r X R S Y HL;go_loopw [17] (fun x wr=>∃k:Nat,k<=L.length/\Hid (qab (Za l) n (L.drop k)=qab (Za l) n L)/\Below w3.heap.size w3 wr/\x=.int .i64 k) (fun x _=>L.length-(intOf x).toNat)
 case atStart=>exact⟨0,by omega,rfl,Xb,rfl⟩
 case round =>
  obtain⟨k,hk,M,E,rfl⟩:=hrel;by_cases hkl:k<L.length
  ·obtain⟨a,s⟩:∃a,L[k]? = some a:=⟨L[k],by simp[hkl]⟩;have p:=HKn.out a (Xe s);obtain⟨b,o,vs,rfl,t,_,V⟩:=HC.out k a s;unfold qt at t;subst t;have c0:=(V.mono E V.lt).1;rw[Nat.mul_one]at c0;have zd:=Zc8 (Za l) n L k a s;rw[M.out]at zd;obtain⟨p1,k1,p2,k2,p3,k3,_,N,_,y⟩:=HLk.out a p;have G:=(y wr (Qa H Xl E)).2;have q:(Qb (Za l) a).getD qg=Qd (Za l) a:=rfl;rw[q]at G N;have HX:=Xh s;clear s V M y q p;generalize Qd (Za l) a=d at *;obtain⟨n2,s2,f2,b2,J,m2⟩:=d;unfold Zu at G;dsimp only at G N zd;obtain⟨pd',kd',he,g1,g2,z⟩:=N.open;injection he with Z g h
   subst Z h;clear g N;have HD:=Xh z;have hlen2:J.length<=9223372036854775807:=Xf g1 g2;clear z;have HS:=Xh zd;clear zd;go_wp2_with fail;go_loopw [26] (fun x wy=>∃j:Nat,j<=J.length/\Hid (Z3 n (J.drop j)=Z3 n J)/\Below w3.heap.size w3 wy/\x=.int .i64 j) (fun x _=>J.length-(intOf x).toNat)
   case atStart=>exact⟨0,by omega,rfl,E,rfl⟩
   case round =>
    clear E c0 G;obtain⟨j,hj,O,E,rfl⟩:=hrel;by_cases hjl:j<J.length
    ·obtain⟨f,hf⟩:∃a,J[j]? = some a:=⟨J[j],by simp[hjl]⟩;obtain⟨bb,oo,vs,rfl,t,_,V⟩:=HD.out j f hf;unfold ZN at t;subst t;obtain⟨u0,u1,_⟩:=V.mono (Qa HB0 Xl (Qa H Xl E)) V.lt;have A:=qc8 n J j f hf;rw[O.out]at A;have HXf:=Xh hf;have e1:=Zay f.name n;have T:=E.alloc E.size (.cells #[.string f.name,.string f.type] 118);clear hf V O;by_cases C:f.name=n
     ·rw[if_pos C]at A;rw[Xj C]at e1;have F:=HS.out;rw[A]at F;have D:=m.out.step E;obtain⟨q0,q1⟩:=D.field;have hfz:=D.frozen;have hlt:=D.lt;have HF:=Xh F;have HE:=Xh ((ZaF (Qa H Xl E) (Nat.le_refl w.heap.size) (.string f.name) (.string f.type)).alloc (Xf (Qa H Xl E).size (by simp)) (.cells #[.string f.name,.string f.type] 118));clear A F C D E T;go_upto_region 8 with fail;go_region
      all_goals go_wp2
      all_goals exact bodyPost_ret (v:=.tuple #[.string a,.agg #[.string f.name,.string f.type],.bool true]) (by simp[results,results150,go_sem, *]) rfl ⟨by rw[HF.out];rfl,HE.out.drew⟩
     ·rw[if_neg C]at A;rw[Xi C]at e1;have U:=Xh A.symm;have HBa:=Xh T;clear A C T E;go_wp2_with fail;go_roundw;case rel=>exact⟨j+1,by omega,U.out,HBa,by simp⟩
      case measure=>simp[intOf];omega
    ·obtain rfl:j=J.length:=(by omega);have I:Z3 n J=none:=(by rw[<-O.out,Xg Xl];rfl);have F:=HS.out;rw[I]at F;have U:Hid (qab (Za l) n (L.drop (k+1))=qab (Za l) n L):=F.symm;clear I F O;go_wp2_with fail;go_roundw;case rel=>exact⟨k+1,by omega,U.out,E,by simp⟩
     case measure=>simp[intOf];omega
  ·obtain rfl:k=L.length:=(by omega);have I:qab (Za l) n L=none:=(by rw[<-M.out,Xg Xl];rfl);have D:=m.out.step E;obtain⟨q0,q1⟩:=D.field;have hfz:=D.frozen;have hlt:=D.lt;have HS:=Xh I;have HE:=Xh (ZaF (Qa H Xl E) (Nat.le_refl w.heap.size) (.string ⟨#[]⟩) (.string ⟨#[]⟩));clear I M D E;go_wp2_with fail;exact bodyPost_ret (v:=.tuple #[.string ⟨#[]⟩,.agg #[.string ⟨#[]⟩,.string ⟨#[]⟩],.bool false]) (by simp[results,results150,go_sem, *]) rfl ⟨by rw[HS.out];rfl,HE⟩
def Qbf(cs:List qa)(n t:Str)(E:List Str):List Bool->Option (Str×qc)
 |[]=>none
 |a::r=>match zI cs n t a E with
  |some x=>some x
  |none=>Qbf cs n t E r
theorem Zdn(cs:List qa)(n t:Str)(E:List Str)(l:List Bool)(k:Nat)(a:Bool)(h:l[k]? = some a):Qbf cs n t E (l.drop k)=match zI cs n t a E with
 |some x=>some x
 |none=>Qbf cs n t E (l.drop (k+1)):=by
 obtain⟨A,rfl⟩:=List.getElem?_eq_some_iff.1 h;rw[List.drop_eq_getElem_cons A];rfl
theorem qdL(cs:List qa)(n t:Str)(E:List Str):(match zI cs n t false E with
 |some x=>some x
 |none=>zI cs n t true E)=Qbf cs n t E [false,true]:=by
 unfold Qbf;cases zI cs n t false E with
 |some x=>rfl
 |none =>
  show zI cs n t true E=match zI cs n t true E with
   |some x=>some x
   |none=>none
  cases zI cs n t true E<;>rfl
def za7(v:Value):Option (Str×qc)->Value
 |some (c,_)=>.tuple #[.string c,v,.bool true]
 |none=>.tuple #[.string ⟨#[]⟩,v,.bool false]
def Qbm(w0 w:World)(o:Option (Str×qc))(e:Ending)(w':World):Prop:=(∃v,e=.returned (za7 v o)/\Q1 w0 ((o.map (·.2)).getD QH) v)/\Below w.heap.size w w'
theorem qbe(w0 w:World)(B:Nat)(l:List qa)(V:qh w0 w B l)(c n t:Str)(hk:(Qb (Za l) c).isSome=true):
 Calls prog 43 #[.map (some B),.string c,.string n,.string t] w (Qbm w0 w (qB (Za l) c n t)):=by
 have HL:Hid (∀wx,Below w.heap.size w wx->_):=fun wx hb=>qa7 w0 wx B l V.right (V.map.step hb) c hk
 have HEv:Hid (∀wx,Below w.heap.size w wx->_):=fun wx hb=>qbw w0 wx B (Za l) (V.map.step hb) V.right.nodup V.faces V.right.small V.right.closed c hk
 have HKn:Hid (∀d∈zm (Za l) c,(Qb (Za l) d).isSome=true):=fun d hd=>V.right.line_known hk hd
 have HKe:Hid (∀d∈Zad (qi (Za l) c),(Qb (Za l) d).isSome=true):=fun d hd=>(Zo V.right.closed hk).1.known d (by rw[<-QF]at hd ⊢;rwa [Za8]at hd)
 have HLk:Hid (∀d:Str,(Qb (Za l) d).isSome=true->_):=fun d hd=>V.map.look3 V.right.nodup d (V.map.names hd)
 have f:Hid (∀wx (d:qa) (fv dv:Value) (pm:Option Addr) (km:Nat),Below w0.heap.size w0 wx->Qe w0 8 (zo w0) (.slice pm d.methods.length km) d.methods->_):=fun wx d fv dv pm km hb h=>qe6 w0 wx hb d fv dv pm km n t h
 have HB0:=Xh V.map.below;have hcf:=qcq;have hblk:Blk (w.alloc (.cells #[.string ⟨#[]⟩,.string ⟨#[]⟩,.bool false,.bool false,.bool false,.int .i64 0,.slice none 0 0,.slice none 0 0] 39)) w.heap.size 39 Qw:=Blk.new w _ Qw;have hB1:Below w.heap.size w (w.alloc (.cells #[.string ⟨#[]⟩,.string ⟨#[]⟩,.bool false,.bool false,.bool false,.int .i64 0,.slice none 0 0,.slice none 0 0] 39)):=Xb.alloc Xl _;have HMC:Hid (qB (Za l) c n t=match zS (Za l) n t (zm (Za l) c) with
  |some x=>some x
  |none=>match zI (Za l) n t false (Zad (qi (Za l) c)) with
   |some x=>some x
   |none=>zI (Za l) n t true (Zad (qi (Za l) c))):=rfl
 unfold Qd7 at f;clear V hk;generalize qB (Za l) c n t=U at *;generalize zm (Za l) c=L at *;generalize Zad (qi (Za l) c)=E at *;go_enter func43,ntmps43;go_wp2_with (go_fit (HL.out _ hB1);rintro e w3⟨⟨v3,rfl,hv3⟩,hB3⟩;obtain⟨pv,kv,rfl⟩:=Ze hv3)
 have hs3:=Zk hv3;obtain⟨pv',kv',he,h1,h2,hcc⟩:=hs3.open;injection he with he1 he2 he3
 subst he1 he3;clear he2;have HC:=Xh hcc;have hlen:L.length<=9223372036854775807:=Xf h1 h2;have HBl:Hid (Blk w3 w.heap.size 39 Qw):=hblk.step hB3;have g:=Xh (Qa hB1 Xl hB3);clear hs3 hcc hv3 hblk hB1 hB3 HL;go_loopw [25] (fun x wr=>∃k:Nat,k<=L.length/\Hid (zS (Za l) n t (L.drop k)=zS (Za l) n t L)/\Below w3.heap.size w3 wr/\x=.int .i64 k) (fun x _=>L.length-(intOf x).toNat)
 case atStart=>exact⟨0,by omega,rfl,Xb,rfl⟩
 case round =>
  obtain⟨k,hk,G,A,rfl⟩:=hrel;by_cases hkl:k<L.length
  ·obtain⟨a,ha⟩:∃a,L[k]? = some a:=⟨L[k],by simp[hkl]⟩;have hka:=HKn.out a (Xe ha);obtain⟨b,o,vs,rfl,hR,_,Zd⟩:=HC.out k a ha;unfold qt at hR;subst hR;have c0:=(Zd.mono A Zd.lt).1;rw[Nat.mul_one]at c0;have D:=ZcK (Za l) n t L k a ha;rw[G.out]at D;obtain⟨p1,k1,p2,k2,p3,k3,_,_,H,S⟩:=HLk.out a hka;have C:=(S wr (Qa g Xl A)).2;have r:(Qb (Za l) a).getD qg=Qd (Za l) a:=rfl;rw[r]at C H;have HX:=Xh ha;clear ha Zd G S r hka;generalize Qd (Za l) a=d at *;obtain⟨n2,s2,f2,b2,d2,m2⟩:=d;have N:=Xh (f.out wr ⟨n2,s2,f2,b2,d2,m2⟩ (.slice p1 f2.length k1) (.slice p2 d2.length k2) p3 k3 (Qa HB0 Xl (Qa g Xl A)) H);unfold Zu at C;dsimp only at C H D N;clear H;cases hq:Zal n t m2 with
   |some m =>
    rw[hq]at D N;simp only[Option.isSome_some,Option.getD_some]at N;have I:Hid (U=some (a,m)):=(by unfold Hid;rw[HMC.out,D]);clear D hq HMC;have O:=HBl.out.step A;have J:=Xh A;have HBlr:Hid (Blk wr _ _ _):=O;clear A O;go_upto_region 6 with(go_fit N.out;rintro e w5⟨⟨v5,rfl,aB⟩,Z⟩;obtain⟨pc,kc,ph,kh,rfl,_,_⟩:=id aB)
    have X:=HBlr.out.step Z;obtain⟨q0,q1,q2,q3,q4,q5,q6,q7⟩:=X.method;have hfz:=X.frozen;have hlt:=X.lt;have P:=Qa g Xl (Qa J Xl Z);have HE:=Xh ((Z9 P (Nat.le_refl w.heap.size) (.string m.name) (.string m.type) (.bool m.static) (.bool m.abs) (.bool m.priv) (.int .i64 m.locals) (.slice pc m.code.length kc) (.slice ph m.handlers.length kh)).alloc (Xf P.size (by simp)) (.cells #[.string m.name,.string m.type,.bool m.static,.bool m.abs,.bool m.priv,.int .i64 m.locals,.slice pc m.code.length kc,.slice ph m.handlers.length kh] 39)).drew;have HV:=Xh aB;clear X P aB Z;go_region
    all_goals go_wp2
    all_goals exact bodyPost_ret (v:=.tuple #[.string a,.agg #[.string m.name,.string m.type,.bool m.static,.bool m.abs,.bool m.priv,.int .i64 m.locals,.slice pc m.code.length kc,.slice ph m.handlers.length kh],.bool true]) (by simp[results,results43,go_sem, *]) rfl (by rw[I.out];exact⟨⟨_,rfl,HV⟩,HE⟩)
   |none =>
    rw[hq]at D N;simp only[Option.isSome_none,Option.getD_none]at N;have R:Hid (zS (Za l) n t (L.drop (k+1))=zS (Za l) n t L):=D.symm;have J:=Xh A;clear D hq A;go_wp2_with (go_fit N.out;rintro e w5⟨⟨v5,rfl,aB⟩,Z⟩;obtain⟨pc,kc,ph,kh,rfl,_,_⟩:=id aB)
    go_roundw;case rel=>exact⟨k+1,by omega,R.out,(Qa J Xl Z).alloc (Qa J Xl Z).size _,by simp⟩
    case measure=>simp[intOf];omega
  ·obtain rfl:k=L.length:=(by omega);have s:zS (Za l) n t L=none:=(by rw[<-G.out,Xg Xl];rfl);have HM2:Hid (U=Qbf (Za l) n t E [false,true]):=(by unfold Hid;rw[HMC.out,s];exact qdL _ _ _ _);have hBa:=(Below.refl wr.heap.size wr).alloc Xl (.cells #[.bool false,.bool true] 4);have HT:Hid (∀(j:Nat) (a:Bool),[false,true][j]? = some a->(wr.alloc (.cells #[.bool false,.bool true] 4)).cell? ⟨wr.heap.size,j,none⟩=some (.bool a)):=fun j a h=>by
    match j,h with
    |0,h=>simp at h;subst h;simp
    |1,h=>simp at h;subst h;simp
   have J:=Xh (Qa g Xl (Qa A Xl hBa));have HBl4:Hid (Blk (wr.alloc (.cells #[.bool false,.bool true] 4)) w.heap.size 39 Qw):=HBl.out.step (Qa A Xl hBa);have HLT:Hid (wr.heap.size<(wr.alloc (.cells #[.bool false,.bool true] 4)).heap.size):=(by unfold Hid;simp);clear s G HMC A hBa g HBl HKn HC;go_wp2_with fail;generalize wr.alloc (.cells #[.bool false,.bool true] 4)=w4 at *;generalize wr.heap.size=bb at *;go_loopw [44] (fun x wx=>∃j:Nat,j<=2/\Hid (U=Qbf (Za l) n t E ([false,true].drop j))/\Below w4.heap.size w4 wx/\x=.int .i64 j) (fun x _=>2-(intOf x).toNat)
   case atStart=>exact⟨0,by omega,HM2,Xb,rfl⟩
   case round =>
    obtain⟨j,hj,hgg,A,rfl⟩:=hrel;by_cases hjl:j<2
    ·obtain⟨a,ha⟩:∃a,[false,true][j]? = some a:=⟨[false,true][j]'(by simp;omega),by simp⟩;have c0:=(A.cell (p:=⟨bb,j,none⟩) HLT.out).trans (HT.out j a ha);have D:=Zdn (Za l) n t E [false,true] j a ha;have HG:Hid (U=match zI (Za l) n t a E with
      |some x=>some x
      |none=>Qbf (Za l) n t E ([false,true].drop (j+1))):=by unfold Hid;rw[hgg.out,D]
     have HX:=Xh ha;have HEw:=Xh (HEv.out wr (Qa J Xl A));have hB4:=A;clear ha D hgg;go_wp2_with (go_fit HEw.out;rintro e w6⟨⟨v6,rfl,hv6⟩,hB6⟩;obtain⟨pe,ke,rfl,_⟩:=hv6.open)
     obtain⟨pe',ke',he,h3,h4,hee⟩:=hv6.open;injection he with he1 he2 he3
     subst he1 he3;clear he2;have HCe:=Xh hee;have hlenE:E.length<=9223372036854775807:=Xf h3 h4;have HB6:=Xh (Qa hB4 Xl hB6);have HBl6:Hid (Blk w6 w.heap.size 39 Qw):=HBl4.out.step (Qa hB4 Xl hB6);have HBw6:=Xh (Qa J Xl (Qa hB4 Xl hB6));clear hee hv6 hB4 hB6 A HEw c0;go_loopw [52] (fun x wy=>∃i:Nat,i<=E.length/\Hid (zI (Za l) n t a (E.drop i)=zI (Za l) n t a E)/\Below w6.heap.size w6 wy/\x=.int .i64 i) (fun x _=>E.length-(intOf x).toNat)
     case atStart=>exact⟨0,by omega,rfl,Xb,rfl⟩
     case round =>
      obtain⟨i,hi,G,A,rfl⟩:=hrel;by_cases hil:i<E.length
      ·obtain⟨z,hz⟩:∃a,E[i]? = some a:=⟨E[i],by simp[hil]⟩;have hkz:=HKe.out z (Xe hz);obtain⟨be,oe,vs,rfl,hR,_,Zd⟩:=HCe.out i z hz;unfold qt at hR;subst hR;have c0:=(Zd.mono A Zd.lt).1;rw[Nat.mul_one]at c0;have D:=qdn (Za l) n t a E i z hz;rw[G.out]at D;obtain⟨p1,k1,p2,k2,p3,k3,_,_,H,S⟩:=HLk.out z hkz;have M:=Qa HBw6 Xl A;have C:=(S wr M).2;have r:(Qb (Za l) z).getD qg=Qd (Za l) z:=rfl;rw[r]at C H S;have HLK:=Xh S;have HZ:=Xh hz;clear hz Zd G S r hkz;generalize Qd (Za l) z=d at *;obtain⟨n2,s2,f2,b2,d2,m2⟩:=d;have N:=Xh (f.out wr ⟨n2,s2,f2,b2,d2,m2⟩ (.slice p1 f2.length k1) (.slice p2 d2.length k2) p3 k3 (Qa HB0 Xl M) H);unfold Zu at C HLK;dsimp only at C H D N HLK;clear H;cases hq:Zal n t m2 with
       |none =>
        rw[hq]at D N;simp only[Option.isSome_none,Option.getD_none]at N;have R:Hid (zI (Za l) n t a (E.drop (i+1))=zI (Za l) n t a E):=D.symm;have F:=Xh A;clear D hq A M;go_wp2_with (go_fit N.out;rintro e w7⟨⟨v7,rfl,aC⟩,T⟩;obtain⟨pc,kc,ph,kh,rfl,_,_⟩:=id aC)
        go_roundw;case rel=>exact⟨i+1,by omega,R.out,(Qa F Xl T).alloc (Qa F Xl T).size _,by simp⟩
        case measure=>simp[intOf];omega
       |some m =>
        rw[hq]at D N;simp only[Option.isSome_some,Option.getD_some]at N;have F:=Xh A;have HBwr:=Xh M;clear hq A M;go_upto_region 15 with(go_fit N.out;rintro e w7⟨⟨v7,rfl,aC⟩,T⟩;obtain⟨pc,kc,ph,kh,rfl,_,_⟩:=id aC)
        have y:=(Qa F Xl T).alloc (Qa F Xl T).size (.cells #[.string m.name,.string m.type,.bool m.static,.bool m.abs,.bool m.priv,.int .i64 m.locals,.slice pc m.code.length kc,.slice ph m.handlers.length kh] 39);have hlk3:=(HLK.out _ (Qa HBw6 Xl y)).2;obtain⟨yes,hy⟩:∃q,(m.abs==a)=q:=⟨_,rfl⟩;rw[hy]at D;have HBa7:=Xh y;have HB7:=Xh T;have HV7:=Xh aC;have HS:=Xh D;clear D y T aC;by_cases aA:(b2&&yes)=true
        ·rw[Bool.and_eq_true]at aA;obtain⟨rfl,rfl⟩:=aA;have I:Hid (U=some (z,m)):=by
          unfold Hid;rw[HG.out,HS.out];rfl
         have Y:=HBl6.out.step (Qa F Xl HB7);obtain⟨q0,q1,q2,q3,q4,q5,q6,q7⟩:=Y.method;have hfz:=Y.frozen;have hlt:=Y.lt;have P:=Qa HBwr Xl HB7.out;have HE:=Xh ((Z9 P (Nat.le_refl w.heap.size) (.string m.name) (.string m.type) (.bool m.static) (.bool m.abs) (.bool m.priv) (.int .i64 m.locals) (.slice pc m.code.length kc) (.slice ph m.handlers.length kh)).alloc (Xf P.size (by simp)) (.cells #[.string m.name,.string m.type,.bool m.static,.bool m.abs,.bool m.priv,.int .i64 m.locals,.slice pc m.code.length kc,.slice ph m.handlers.length kh] 39)).drew;clear Y P;go_upto_region 16 with fail;go_region
         all_goals go_wp2
         all_goals exact bodyPost_ret (v:=.tuple #[.string z,.agg #[.string m.name,.string m.type,.bool m.static,.bool m.abs,.bool m.priv,.int .i64 m.locals,.slice pc m.code.length kc,.slice ph m.handlers.length kh],.bool true]) (by simp[results,results43,go_sem, *]) rfl (by rw[I.out];exact⟨⟨_,rfl,HV7⟩,HE⟩)
        ·have R:Hid (zI (Za l) n t a (E.drop (i+1))=zI (Za l) n t a E):=by
          unfold Hid;rw[HS.out,if_neg aA]
         cases b2<;>cases yes<;>first|(exact absurd rfl aA)|skip
         all_goals
          clear aA;go_wp2_with fail;go_roundw;case rel=>exact⟨i+1,by omega,R.out,HBa7,by simp⟩
          case measure=>simp[intOf];omega
      ·obtain rfl:i=E.length:=(by omega);have s:zI (Za l) n t a E=none:=(by rw[<-G.out,Xg Xl];rfl);have R:Hid (U=Qbf (Za l) n t E ([false,true].drop (j+1))):=(by unfold Hid;rw[HG.out,s]);have HBe:=Xh (Qa HB6 Xl A);clear s G A HG;go_wp2_with fail;go_roundw;case rel=>exact⟨j+1,by omega,R.out,HBe,by simp⟩
       case measure=>simp[intOf];omega
    ·obtain rfl:j=2:=(by omega);have I:Hid (U=none):=hgg.out;have O:=HBl4.out.step A;obtain⟨q0,q1,q2,q3,q4,q5,q6,q7⟩:=O.method;have hfz:=O.frozen;have hlt:=O.lt;have HE:=Xh (Z9 (Qa J Xl A) (Nat.le_refl w.heap.size) (.string ⟨#[]⟩) (.string ⟨#[]⟩) (.bool false) (.bool false) (.bool false) (.int .i64 0) (.slice none 0 0) (.slice none 0 0));clear hgg O A;go_wp2_with fail;exact bodyPost_ret (v:=.tuple #[.string ⟨#[]⟩,.agg Qw.toArray,.bool false]) (by simp[results,results43,go_sem, *,Qw]) rfl (by rw[I.out];exact⟨⟨_,rfl,Q1.none w0⟩,HE⟩)
