/- Lemmas; conditions: as each states. -/
import Derived.Test.YtlmfmioljeppfaaGreatDoorLayLaw
set_option maxHeartbeats 4000000
namespace Go.Proofs.YtlmfmioljeppfaaGreatDoor
open Go.RowKit Go.Shelf Go.Lib
def Blk(w:World)(b:Nat)(t:TypeId)(vals:List Value):Prop:=w.heap[b]? = some (.cells vals.toArray t (0,0))
theorem Blk.new(w:World)(t:TypeId)(A:List Value):Blk (w.alloc (.cells A.toArray t)) w.heap.size t A:=heap_alloc_new _ _
theorem Blk.lt{w:World}{b:Nat}{t:TypeId}{A:List Value}(h:Blk w b t A):b<w.heap.size:=(Array.getElem?_eq_some_iff.1 h).1
theorem Blk.step{w w':World}{b:Nat}{t:TypeId}{A:List Value}(h:Blk w b t A)(B:Below w.heap.size w w'):Blk w' b t A:=(B.block b h.lt).trans h
theorem Blk.cell{w:World}{b:Nat}{t:TypeId}{A:List Value}(h:Blk w b t A)(i:Nat):w.cell? ⟨b,i,none⟩=A[i]?:=by
 rw[cell_of_row w b i _ t _ h];simp
theorem Blk.frozen{w:World}{b:Nat}{t:TypeId}{A:List Value}(h:Blk w b t A)(i:Nat):w.frozen? ⟨b,i,none⟩=false:=frozen_of_row w b i _ t h
def Zn:List Value:=[.string ⟨#[]⟩,.string ⟨#[]⟩,.bool false,.bool false,.bool false,.int .i64 0,.slice none 0 0,.slice none 0 0]
theorem Blk.method{w:World}{b:Nat}(h:Blk w b 53 Zn):
 w.cell? ⟨b,0,none⟩=some (.string ⟨#[]⟩)/\w.cell? ⟨b,1,none⟩=some (.string ⟨#[]⟩)/\w.cell? ⟨b,2,none⟩=some (.bool false)/\w.cell? ⟨b,3,none⟩=some (.bool false)/\w.cell? ⟨b,4,none⟩=some (.bool false)/\w.cell? ⟨b,5,none⟩=some (.int .i64 0)/\w.cell? ⟨b,6,none⟩=some (.slice none 0 0)/\w.cell? ⟨b,7,none⟩=some (.slice none 0 0) :=
 ⟨h.cell 0,h.cell 1,h.cell 2,h.cell 3,h.cell 4,h.cell 5,h.cell 6,h.cell 7⟩
theorem ZB{B b:Nat}{a w:World}(h:Below B a w)(A:B<=b)(C D E F G H I J:Value):
 Below B a ((((((((w.setCell ⟨b,0,none⟩ C).setCell ⟨b,1,none⟩ D).setCell ⟨b,2,none⟩ E).setCell ⟨b,3,none⟩ F).setCell ⟨b,4,none⟩ G).setCell ⟨b,5,none⟩ H).setCell ⟨b,6,none⟩ I).setCell ⟨b,7,none⟩ J) :=
 ((((((((h.setCell (p:=⟨b,0,none⟩) A C).setCell (p:=⟨b,1,none⟩) A D).setCell (p:=⟨b,2,none⟩) A E).setCell (p:=⟨b,3,none⟩) A F).setCell (p:=⟨b,4,none⟩) A G).setCell (p:=⟨b,5,none⟩) A H).setCell (p:=⟨b,6,none⟩) A I).setCell (p:=⟨b,7,none⟩) A J)
theorem Q5{B b:Nat}{a w:World}(h:Below B a w)(A:B<=b)(C D:Value):Below B a ((w.setCell ⟨b,0,none⟩ C).setCell ⟨b,1,none⟩ D) :=
 (h.setCell (p:=⟨b,0,none⟩) A C).setCell (p:=⟨b,1,none⟩) A D
def zZ(w:World)(m:qi)(v:Value):Prop:=∃pc kc ph kh,v=.agg #[.string m.name,.string m.type,.bool m.static,.bool m.abs,.bool m.priv,.int .i64 m.locals,.slice pc m.code.length kc,.slice ph m.handlers.length kh]/\Zg w 6 Zw (.slice pc m.code.length kc) m.code/\Zg w 4 Qt (.slice ph m.handlers.length kh) m.handlers
theorem zZ.none(w:World):zZ w zH (.agg Zn.toArray):=⟨.none,0,.none,0,rfl,Or.inl ⟨rfl,rfl⟩,Or.inl ⟨rfl,rfl⟩⟩
theorem zZ.mono{w w':World}{m:qi}{v:Value}(A:Below w.heap.size w w'):zZ w m v->zZ w' m v
 |⟨B,C,D,E,F,G,H⟩=>⟨B,C,D,E,F,G.mono A (by decide) (fun _ _ h=>h),H.mono A (by decide) (fun _ _ h=>h)⟩
def Qdp(w0 w:World)(o:Option qi)(e:Ending)(w':World):Prop:=(∃v,e=.returned (.tuple #[v,.bool o.isSome])/\zZ w0 (o.getD zH) v)/\Below w.heap.size w w'
set_option maxRecDepth 100000
theorem Qec(N w:World)(p:Below N.heap.size N w)(c:Qb)(r s:Value)(e:Option Addr)(f:Nat)(n t:Str)(V:Zg N 8 (zr N) (.slice e c.methods.length f) c.methods):
 Calls Tryz.prog 229 #[.agg #[.string c.name,.string c.super,r,.bool c.face,s,.slice e c.methods.length f],.string n,.string t] w (Qdp N w (qan n t c.methods)):=by
 obtain⟨L,H,faces,M,h,D⟩:=c;dsimp only at *;obtain⟨pa,ca,he,g,h2,Z⟩:=V.open;injection he with he1 he2 he3
 subst he1 he3;clear he2;have HC:=Xh Z;have hlen:D.length<=9223372036854775807:=Xf g h2;have F:=Blk.new (w.alloc (.cells #[.string L,.string H,r,.bool M,s,.slice e D.length f] 36)) 53 Zn;have E:=QR w (.cells #[.string L,.string H,r,.bool M,s,.slice e D.length f] 36) (.cells Zn.toArray 53);simp only[World.size_alloc]at F;clear V Z;go_enter Tryz.func229,Tryz.ntmps229;go_wp2_with fail;go_loopw [13] (fun x wr=>∃k:Nat,k<=D.length/\Hid (qan n t (D.drop k)=qan n t D)/\Below w.heap.size w wr/\Hid (Blk wr (w.heap.size+1) 53 Zn)/\x=.int .i64 k) (fun x _=>D.length-(intOf x).toNat)
 case atStart=>exact⟨0,by omega,rfl,E,F,rfl⟩
 case round =>
  clear E F;obtain⟨k,hk,I,E,B,rfl⟩:=hrel;by_cases y:k<D.length
  ·obtain⟨m,d⟩:∃a,D[k]? = some a:=⟨D[k],by simp[y]⟩;obtain⟨b,o,vs,rfl,⟨cv,hv,rfl,i,j⟩,_,l⟩:=HC.out k m d;have O:=Qa p Xl E;obtain⟨c0,c1,c2,c3,c4,c5,c6,c7,_⟩:=l.mono O l.lt;have P:=qbZ n t D k m d;rw[I.out]at P;obtain⟨R,S,rfl,_⟩:=i.open;obtain⟨T,U,rfl,_⟩:=j.open;have z:=q8 m.name n;have e2:=q8 m.type t;have hlt:=B.out.lt;have HX:=Xh d;have J:=E.alloc E.size (.cells #[.string m.name,.string m.type,.bool m.static,.bool m.abs,.bool m.priv,.int .i64 m.locals,.slice R m.code.length S,.slice T m.handlers.length U] 53);have G:=B.out.step ((Below.refl wr.heap.size wr).alloc Xl (.cells #[.string m.name,.string m.type,.bool m.static,.bool m.abs,.bool m.priv,.int .i64 m.locals,.slice R m.code.length S,.slice T m.handlers.length U] 53));by_cases A:m.name=n/\m.type=t
   ·rw[if_pos A]at P;rw[Xj A.1]at z;rw[Xj A.2]at e2;obtain⟨q0,q1,q2,q3,q4,q5,q6,q7⟩:=B.out.method;have hfz:=B.out.frozen;have HS:=Xh P;have HM:Hid (zZ N m (.agg #[.string m.name,.string m.type,.bool m.static,.bool m.abs,.bool m.priv,.int .i64 m.locals,.slice R m.code.length S,.slice T m.handlers.length U])):=⟨R,S,T,U,rfl,i,j⟩;have X:=Xh J;clear P A i j G J B O l I d;have hE:=(ZB E (show w.heap.size<=w.heap.size+1 by omega) (.string m.name) (.string m.type) (.bool m.static) (.bool m.abs) (.bool m.priv) (.int .i64 m.locals) (.slice R m.code.length S) (.slice T m.handlers.length U)).alloc (Xf E.size (by simp)) (.cells #[.string m.name,.string m.type,.bool m.static,.bool m.abs,.bool m.priv,.int .i64 m.locals,.slice R m.code.length S,.slice T m.handlers.length U] 53);have HE:=Xh hE;clear hE E;go_wp2_with fail;exact bodyPost_ret (v:=.tuple #[.agg #[.string m.name,.string m.type,.bool m.static,.bool m.abs,.bool m.priv,.int .i64 m.locals,.slice R m.code.length S,.slice T m.handlers.length U],.bool true]) (by simp[results,Tryz.results229,go_sem, *]) rfl (by rw[HS.out];exact⟨⟨_,rfl,HM⟩,HE⟩)
   ·rw[if_neg A]at P;have hst:=Xh P.symm;have C:(decide (m.name=n)&&decide (m.type=t))=false:=by
     rw[Bool.and_eq_false_iff,decide_eq_false_iff_not,decide_eq_false_iff_not];by_cases g:m.name=n
     ·exact Or.inr fun h2=>A ⟨g,h2⟩
     ·exact Or.inl g
    rw[<-z,<-e2]at C;have X:=Xh J;have Y:Hid (Blk _ _ _ _):=G;clear P A i j G J B E O l I d z e2;obtain⟨b1,g1⟩:∃q,(m.name.toList==n.toList)=q:=⟨_,rfl⟩;obtain⟨b2,g2⟩:∃q,(m.type.toList==t.toList)=q:=⟨_,rfl⟩;rw[g1,g2]at C;cases b1<;>cases b2
    all_goals first
     |(exact absurd C (by decide))
     |(
      clear C;go_wp2_with fail;go_roundw;case rel=>exact⟨k+1,by omega,hst.out,X,Y,by simp⟩
      case measure=>simp[intOf];omega)
  ·obtain rfl:k=D.length:=(by omega);have C:qan n t D=none:=(by rw[<-I.out,Xg Xl];rfl);obtain⟨q0,q1,q2,q3,q4,q5,q6,q7⟩:=B.out.method;have hfz:=B.out.frozen;have HS:=Xh C;have HE:=Xh (ZB E (show w.heap.size<=w.heap.size+1 by omega) (.string ⟨#[]⟩) (.string ⟨#[]⟩) (.bool false) (.bool false) (.bool false) (.int .i64 0) (.slice none 0 0) (.slice none 0 0));clear C I B E;go_wp2_with fail;exact bodyPost_ret (v:=.tuple #[.agg Zn.toArray,.bool false]) (by simp[results,Tryz.results229,go_sem, *,Zn]) rfl (by rw[HS.out];exact⟨⟨_,rfl,zZ.none N⟩,HE⟩)
set_option maxRecDepth 512
def zbi:List Value:=[.string ⟨#[]⟩,.string ⟨#[]⟩]
theorem Blk.field{w:World}{b:Nat}(h:Blk w b 130 zbi):w.cell? ⟨b,0,none⟩=some (.string ⟨#[]⟩)/\w.cell? ⟨b,1,none⟩=some (.string ⟨#[]⟩):=⟨h.cell 0,h.cell 1⟩
def zaR:Option (Str×Qag)->Value
 |some (c,f)=>.tuple #[.string c,.agg #[.string f.name,.string f.type],.bool true]
 |none=>.tuple #[.string ⟨#[]⟩,.agg #[.string ⟨#[]⟩,.string ⟨#[]⟩],.bool false]
theorem Zk.line_known{l:List Qb}(h:Zk l){c d:Str}(A:(Qc (Za l) c).isSome=true)(B:d∈Zq (Za l) c):(Qc (Za l) d).isSome=true:=h.tree.known c d A B
set_option maxRecDepth 100000
theorem ZcH(w0 w:World)(B:Nat)(l:List Qb)(P:zy w0 w B l)(c n:Str)(hk:(Qc (Za l) c).isSome=true):
 Calls Tryz.prog 186 #[.map (some B),.string c,.string n] w fun e w'=>e=.returned (zaR (zam (Za l) c n))/\Below w.heap.size w w':=by
 have HL:Hid (∀wx,Below w.heap.size w wx->_):=fun wx hb=>Zbp w0 wx B l P.right (P.map.step hb) c hk
 have HKn:Hid (∀d∈Zq (Za l) c,(Qc (Za l) d).isSome=true):=fun d hd=>P.right.line_known hk hd
 have HLk:Hid (∀d:Str,(Qc (Za l) d).isSome=true->_):=fun d hd=>P.map.look3 P.right.nodup d (P.map.names hd)
 have HB0:=Xh P.map.below;have hcf:=qcx;have R:Blk (w.alloc (.cells #[.string ⟨#[]⟩,.string ⟨#[]⟩] 130)) w.heap.size 130 zbi:=Blk.new w _ zbi;have S:Below w.heap.size w (w.alloc (.cells #[.string ⟨#[]⟩,.string ⟨#[]⟩] 130)):=Xb.alloc Xl _;unfold zam;clear P hk;generalize Zq (Za l) c=L at *;go_enter Tryz.func186,Tryz.ntmps186;go_wp2_with (go_fit (HL.out _ S);rintro e w3⟨⟨v3,rfl,X⟩,Y⟩;obtain⟨pv,kv,rfl⟩:=qe X)
 have i:=Ze X;obtain⟨pv',kv',he,h1,h2,r⟩:=i.open;injection he with Z g h
 subst Z h;clear g;have HC:=Xh r;have hlen:L.length<=9223372036854775807:=Xf h1 h2;have m:Hid (Blk w3 w.heap.size 130 zbi):=R.step Y;have H:=Xh (Qa S Xl Y);clear i r X R S Y HL;go_loopw [17] (fun x wr=>∃k:Nat,k<=L.length/\Hid (Q0 (Za l) n (L.drop k)=Q0 (Za l) n L)/\Below w3.heap.size w3 wr/\x=.int .i64 k) (fun x _=>L.length-(intOf x).toNat)
 case atStart=>exact⟨0,by omega,rfl,Xb,rfl⟩
 case round =>
  obtain⟨k,hk,M,E,rfl⟩:=hrel;by_cases hkl:k<L.length
  ·obtain⟨a,s⟩:∃a,L[k]? = some a:=⟨L[k],by simp[hkl]⟩;have p:=HKn.out a (Xe s);obtain⟨b,o,vs,rfl,t,_,V⟩:=HC.out k a s;unfold qs at t;subst t;have c0:=(V.mono E V.lt).1;rw[Nat.mul_one]at c0;have Zc:=qbp (Za l) n L k a s;rw[M.out]at Zc;obtain⟨p1,k1,p2,k2,p3,k3,_,N,_,y⟩:=HLk.out a p;have G:=(y wr (Qa H Xl E)).2;have q:(Qc (Za l) a).getD zg=qh (Za l) a:=rfl;rw[q]at G N;have HX:=Xh s;clear s V M y q p;generalize qh (Za l) a=d at *;obtain⟨n2,s2,f2,b2,J,m2⟩:=d;unfold Qz at G;dsimp only at G N Zc;obtain⟨pd',kd',he,g1,g2,z⟩:=N.open;injection he with Z g h
   subst Z h;clear g N;have HD:=Xh z;have hlen2:J.length<=9223372036854775807:=Xf g1 g2;clear z;have HS:=Xh Zc;clear Zc;go_wp2_with fail;go_loopw [26] (fun x wy=>∃j:Nat,j<=J.length/\Hid (Qab n (J.drop j)=Qab n J)/\Below w3.heap.size w3 wy/\x=.int .i64 j) (fun x _=>J.length-(intOf x).toNat)
   case atStart=>exact⟨0,by omega,rfl,E,rfl⟩
   case round =>
    clear E c0 G;obtain⟨j,hj,O,E,rfl⟩:=hrel;by_cases hjl:j<J.length
    ·obtain⟨f,hf⟩:∃a,J[j]? = some a:=⟨J[j],by simp[hjl]⟩;obtain⟨bb,oo,vs,rfl,t,_,V⟩:=HD.out j f hf;unfold QE at t;subst t;obtain⟨u0,u1,_⟩:=V.mono (Qa HB0 Xl (Qa H Xl E)) V.lt;have A:=Qbp n J j f hf;rw[O.out]at A;have HXf:=Xh hf;have e1:=q8 f.name n;have T:=E.alloc E.size (.cells #[.string f.name,.string f.type] 130);clear hf V O;by_cases C:f.name=n
     ·rw[if_pos C]at A;rw[Xj C]at e1;have F:=HS.out;rw[A]at F;have D:=m.out.step E;obtain⟨q0,q1⟩:=D.field;have hfz:=D.frozen;have hlt:=D.lt;have HF:=Xh F;have HE:=Xh ((Q5 (Qa H Xl E) (Nat.le_refl w.heap.size) (.string f.name) (.string f.type)).alloc (Xf (Qa H Xl E).size (by simp)) (.cells #[.string f.name,.string f.type] 130));clear A F C D E T;go_upto_region 8 with fail;go_region
      all_goals go_wp2
      all_goals exact bodyPost_ret (v:=.tuple #[.string a,.agg #[.string f.name,.string f.type],.bool true]) (by simp[results,Tryz.results186,go_sem, *]) rfl ⟨by rw[HF.out];rfl,HE.out.drew⟩
     ·rw[if_neg C]at A;rw[Xi C]at e1;have U:=Xh A.symm;have HBa:=Xh T;clear A C T E;go_wp2_with fail;go_roundw;case rel=>exact⟨j+1,by omega,U.out,HBa,by simp⟩
      case measure=>simp[intOf];omega
    ·obtain rfl:j=J.length:=(by omega);have I:Qab n J=none:=(by rw[<-O.out,Xg Xl];rfl);have F:=HS.out;rw[I]at F;have U:Hid (Q0 (Za l) n (L.drop (k+1))=Q0 (Za l) n L):=F.symm;clear I F O;go_wp2_with fail;go_roundw;case rel=>exact⟨k+1,by omega,U.out,E,by simp⟩
     case measure=>simp[intOf];omega
  ·obtain rfl:k=L.length:=(by omega);have I:Q0 (Za l) n L=none:=(by rw[<-M.out,Xg Xl];rfl);have D:=m.out.step E;obtain⟨q0,q1⟩:=D.field;have hfz:=D.frozen;have hlt:=D.lt;have HS:=Xh I;have HE:=Xh (Q5 (Qa H Xl E) (Nat.le_refl w.heap.size) (.string ⟨#[]⟩) (.string ⟨#[]⟩));clear I M D E;go_wp2_with fail;exact bodyPost_ret (v:=.tuple #[.string ⟨#[]⟩,.agg #[.string ⟨#[]⟩,.string ⟨#[]⟩],.bool false]) (by simp[results,Tryz.results186,go_sem, *]) rfl ⟨by rw[HS.out];rfl,HE⟩
set_option maxRecDepth 512
def Qan(cs:List Qb)(n t:Str)(E:List Str):List Bool->Option (Str×qi)
 |[]=>none
 |a::r=>match QH cs n t a E with
  |some x=>some x
  |none=>Qan cs n t E r
theorem QbI(cs:List Qb)(n t:Str)(E:List Str)(l:List Bool)(k:Nat)(a:Bool)(h:l[k]? = some a):Qan cs n t E (l.drop k)=match QH cs n t a E with
 |some x=>some x
 |none=>Qan cs n t E (l.drop (k+1)):=by
 obtain⟨A,rfl⟩:=List.getElem?_eq_some_iff.1 h;rw[List.drop_eq_getElem_cons A];rfl
theorem QbZ(cs:List Qb)(n t:Str)(E:List Str):(match QH cs n t false E with
 |some x=>some x
 |none=>QH cs n t true E)=Qan cs n t E [false,true]:=by
 unfold Qan;cases QH cs n t false E with
 |some x=>rfl
 |none =>
  show QH cs n t true E=match QH cs n t true E with
   |some x=>some x
   |none=>none
  cases QH cs n t true E<;>rfl
def ZaM(v:Value):Option (Str×qi)->Value
 |some (c,_)=>.tuple #[.string c,v,.bool true]
 |none=>.tuple #[.string ⟨#[]⟩,v,.bool false]
def qbI(w0 w:World)(o:Option (Str×qi))(e:Ending)(w':World):Prop:=(∃v,e=.returned (ZaM v o)/\zZ w0 ((o.map (·.2)).getD zH) v)/\Below w.heap.size w w'
set_option maxRecDepth 100000
theorem qcw(w0 w:World)(B:Nat)(l:List Qb)(V:zy w0 w B l)(c n t:Str)(hk:(Qc (Za l) c).isSome=true):
 Calls Tryz.prog 214 #[.map (some B),.string c,.string n,.string t] w (qbI w0 w (Qal (Za l) c n t)):=by
 have HL:Hid (∀wx,Below w.heap.size w wx->_):=fun wx hb=>Zbp w0 wx B l V.right (V.map.step hb) c hk
 have HEv:Hid (∀wx,Below w.heap.size w wx->_):=fun wx hb=>qbB w0 wx B (Za l) (V.map.step hb) V.right.nodup V.faces V.right.small V.right.closed c hk
 have HKn:Hid (∀d∈Zq (Za l) c,(Qc (Za l) d).isSome=true):=fun d hd=>V.right.line_known hk hd
 have HKe:Hid (∀d∈zF (Qk (Za l) c),(Qc (Za l) d).isSome=true):=fun d hd=>(zo V.right.closed hk).1.known d (by rw[<-Zy]at hd ⊢;rwa [qaM]at hd)
 have HLk:Hid (∀d:Str,(Qc (Za l) d).isSome=true->_):=fun d hd=>V.map.look3 V.right.nodup d (V.map.names hd)
 have f:Hid (∀wx (d:Qb) (fv dv:Value) (pm:Option Addr) (km:Nat),Below w0.heap.size w0 wx->Zg w0 8 (zr w0) (.slice pm d.methods.length km) d.methods->_):=fun wx d fv dv pm km hb h=>Qec w0 wx hb d fv dv pm km n t h
 have HB0:=Xh V.map.below;have hcf:=zb0;have hblk:Blk (w.alloc (.cells #[.string ⟨#[]⟩,.string ⟨#[]⟩,.bool false,.bool false,.bool false,.int .i64 0,.slice none 0 0,.slice none 0 0] 53)) w.heap.size 53 Zn:=Blk.new w _ Zn;have hB1:Below w.heap.size w (w.alloc (.cells #[.string ⟨#[]⟩,.string ⟨#[]⟩,.bool false,.bool false,.bool false,.int .i64 0,.slice none 0 0,.slice none 0 0] 53)):=Xb.alloc Xl _;have HMC:Hid (Qal (Za l) c n t=match QU (Za l) n t (Zq (Za l) c) with
  |some x=>some x
  |none=>match QH (Za l) n t false (zF (Qk (Za l) c)) with
   |some x=>some x
   |none=>QH (Za l) n t true (zF (Qk (Za l) c))):=rfl
 unfold Qdp at f;clear V hk;generalize Qal (Za l) c n t=U at *;generalize Zq (Za l) c=L at *;generalize zF (Qk (Za l) c)=E at *;go_enter Tryz.func214,Tryz.ntmps214;go_wp2_with (go_fit (HL.out _ hB1);rintro e w3⟨⟨v3,rfl,hv3⟩,hB3⟩;obtain⟨pv,kv,rfl⟩:=qe hv3)
 have hs3:=Ze hv3;obtain⟨pv',kv',he,h1,h2,hcc⟩:=hs3.open;injection he with he1 he2 he3
 subst he1 he3;clear he2;have HC:=Xh hcc;have hlen:L.length<=9223372036854775807:=Xf h1 h2;have HBl:Hid (Blk w3 w.heap.size 53 Zn):=hblk.step hB3;have g:=Xh (Qa hB1 Xl hB3);clear hs3 hcc hv3 hblk hB1 hB3 HL;go_loopw [25] (fun x wr=>∃k:Nat,k<=L.length/\Hid (QU (Za l) n t (L.drop k)=QU (Za l) n t L)/\Below w3.heap.size w3 wr/\x=.int .i64 k) (fun x _=>L.length-(intOf x).toNat)
 case atStart=>exact⟨0,by omega,rfl,Xb,rfl⟩
 case round =>
  obtain⟨k,hk,G,A,rfl⟩:=hrel;by_cases hkl:k<L.length
  ·obtain⟨a,ha⟩:∃a,L[k]? = some a:=⟨L[k],by simp[hkl]⟩;have hka:=HKn.out a (Xe ha);obtain⟨b,o,vs,rfl,hR,_,qc⟩:=HC.out k a ha;unfold qs at hR;subst hR;have c0:=(qc.mono A qc.lt).1;rw[Nat.mul_one]at c0;have D:=zbc (Za l) n t L k a ha;rw[G.out]at D;obtain⟨p1,k1,p2,k2,p3,k3,_,_,H,S⟩:=HLk.out a hka;have C:=(S wr (Qa g Xl A)).2;have r:(Qc (Za l) a).getD zg=qh (Za l) a:=rfl;rw[r]at C H;have HX:=Xh ha;clear ha qc G S r hka;generalize qh (Za l) a=d at *;obtain⟨n2,s2,f2,b2,d2,m2⟩:=d;have N:=Xh (f.out wr ⟨n2,s2,f2,b2,d2,m2⟩ (.slice p1 f2.length k1) (.slice p2 d2.length k2) p3 k3 (Qa HB0 Xl (Qa g Xl A)) H);unfold Qz at C;dsimp only at C H D N;clear H;cases hq:qan n t m2 with
   |some m =>
    rw[hq]at D N;simp only[Option.isSome_some,Option.getD_some]at N;have I:Hid (U=some (a,m)):=(by unfold Hid;rw[HMC.out,D]);clear D hq HMC;have O:=HBl.out.step A;have J:=Xh A;have HBlr:Hid (Blk wr _ _ _):=O;clear A O;go_upto_region 6 with(go_fit N.out;rintro e w5⟨⟨v5,rfl,aB⟩,Z⟩;obtain⟨pc,kc,ph,kh,rfl,_,_⟩:=id aB)
    have X:=HBlr.out.step Z;obtain⟨q0,q1,q2,q3,q4,q5,q6,q7⟩:=X.method;have hfz:=X.frozen;have hlt:=X.lt;have P:=Qa g Xl (Qa J Xl Z);have HE:=Xh ((ZB P (Nat.le_refl w.heap.size) (.string m.name) (.string m.type) (.bool m.static) (.bool m.abs) (.bool m.priv) (.int .i64 m.locals) (.slice pc m.code.length kc) (.slice ph m.handlers.length kh)).alloc (Xf P.size (by simp)) (.cells #[.string m.name,.string m.type,.bool m.static,.bool m.abs,.bool m.priv,.int .i64 m.locals,.slice pc m.code.length kc,.slice ph m.handlers.length kh] 53)).drew;have HV:=Xh aB;clear X P aB Z;go_region
    all_goals go_wp2
    all_goals exact bodyPost_ret (v:=.tuple #[.string a,.agg #[.string m.name,.string m.type,.bool m.static,.bool m.abs,.bool m.priv,.int .i64 m.locals,.slice pc m.code.length kc,.slice ph m.handlers.length kh],.bool true]) (by simp[results,Tryz.results214,go_sem, *]) rfl (by rw[I.out];exact⟨⟨_,rfl,HV⟩,HE⟩)
   |none =>
    rw[hq]at D N;simp only[Option.isSome_none,Option.getD_none]at N;have R:Hid (QU (Za l) n t (L.drop (k+1))=QU (Za l) n t L):=D.symm;have J:=Xh A;clear D hq A;go_wp2_with (go_fit N.out;rintro e w5⟨⟨v5,rfl,aB⟩,Z⟩;obtain⟨pc,kc,ph,kh,rfl,_,_⟩:=id aB)
    go_roundw;case rel=>exact⟨k+1,by omega,R.out,(Qa J Xl Z).alloc (Qa J Xl Z).size _,by simp⟩
    case measure=>simp[intOf];omega
  ·obtain rfl:k=L.length:=(by omega);have s:QU (Za l) n t L=none:=(by rw[<-G.out,Xg Xl];rfl);have HM2:Hid (U=Qan (Za l) n t E [false,true]):=(by unfold Hid;rw[HMC.out,s];exact QbZ _ _ _ _);have hBa:=(Below.refl wr.heap.size wr).alloc Xl (.cells #[.bool false,.bool true] 4);have HT:Hid (∀(j:Nat) (a:Bool),[false,true][j]? = some a->(wr.alloc (.cells #[.bool false,.bool true] 4)).cell? ⟨wr.heap.size,j,none⟩=some (.bool a)):=fun j a h=>by
    match j,h with
    |0,h=>simp at h;subst h;simp
    |1,h=>simp at h;subst h;simp
   have J:=Xh (Qa g Xl (Qa A Xl hBa));have HBl4:Hid (Blk (wr.alloc (.cells #[.bool false,.bool true] 4)) w.heap.size 53 Zn):=HBl.out.step (Qa A Xl hBa);have HLT:Hid (wr.heap.size<(wr.alloc (.cells #[.bool false,.bool true] 4)).heap.size):=(by unfold Hid;simp);clear s G HMC A hBa g HBl HKn HC;go_wp2_with fail;generalize wr.alloc (.cells #[.bool false,.bool true] 4)=w4 at *;generalize wr.heap.size=bb at *;go_loopw [44] (fun x wx=>∃j:Nat,j<=2/\Hid (U=Qan (Za l) n t E ([false,true].drop j))/\Below w4.heap.size w4 wx/\x=.int .i64 j) (fun x _=>2-(intOf x).toNat)
   case atStart=>exact⟨0,by omega,HM2,Xb,rfl⟩
   case round =>
    obtain⟨j,hj,hgg,A,rfl⟩:=hrel;by_cases hjl:j<2
    ·obtain⟨a,ha⟩:∃a,[false,true][j]? = some a:=⟨[false,true][j]'(by simp;omega),by simp⟩;have c0:=(A.cell (p:=⟨bb,j,none⟩) HLT.out).trans (HT.out j a ha);have D:=QbI (Za l) n t E [false,true] j a ha;have HG:Hid (U=match QH (Za l) n t a E with
      |some x=>some x
      |none=>Qan (Za l) n t E ([false,true].drop (j+1))):=by unfold Hid;rw[hgg.out,D]
     have HX:=Xh ha;have HEw:=Xh (HEv.out wr (Qa J Xl A));have hB4:=A;clear ha D hgg;go_wp2_with (go_fit HEw.out;rintro e w6⟨⟨v6,rfl,hv6⟩,hB6⟩;obtain⟨pe,ke,rfl,_⟩:=hv6.open)
     obtain⟨pe',ke',he,h3,h4,hee⟩:=hv6.open;injection he with he1 he2 he3
     subst he1 he3;clear he2;have HCe:=Xh hee;have hlenE:E.length<=9223372036854775807:=Xf h3 h4;have HB6:=Xh (Qa hB4 Xl hB6);have HBl6:Hid (Blk w6 w.heap.size 53 Zn):=HBl4.out.step (Qa hB4 Xl hB6);have HBw6:=Xh (Qa J Xl (Qa hB4 Xl hB6));clear hee hv6 hB4 hB6 A HEw c0;go_loopw [52] (fun x wy=>∃i:Nat,i<=E.length/\Hid (QH (Za l) n t a (E.drop i)=QH (Za l) n t a E)/\Below w6.heap.size w6 wy/\x=.int .i64 i) (fun x _=>E.length-(intOf x).toNat)
     case atStart=>exact⟨0,by omega,rfl,Xb,rfl⟩
     case round =>
      obtain⟨i,hi,G,A,rfl⟩:=hrel;by_cases hil:i<E.length
      ·obtain⟨z,hz⟩:∃a,E[i]? = some a:=⟨E[i],by simp[hil]⟩;have hkz:=HKe.out z (Xe hz);obtain⟨be,oe,vs,rfl,hR,_,qc⟩:=HCe.out i z hz;unfold qs at hR;subst hR;have c0:=(qc.mono A qc.lt).1;rw[Nat.mul_one]at c0;have D:=zbJ (Za l) n t a E i z hz;rw[G.out]at D;obtain⟨p1,k1,p2,k2,p3,k3,_,_,H,S⟩:=HLk.out z hkz;have M:=Qa HBw6 Xl A;have C:=(S wr M).2;have r:(Qc (Za l) z).getD zg=qh (Za l) z:=rfl;rw[r]at C H S;have HLK:=Xh S;have HZ:=Xh hz;clear hz qc G S r hkz;generalize qh (Za l) z=d at *;obtain⟨n2,s2,f2,b2,d2,m2⟩:=d;have N:=Xh (f.out wr ⟨n2,s2,f2,b2,d2,m2⟩ (.slice p1 f2.length k1) (.slice p2 d2.length k2) p3 k3 (Qa HB0 Xl M) H);unfold Qz at C HLK;dsimp only at C H D N HLK;clear H;cases hq:qan n t m2 with
       |none =>
        rw[hq]at D N;simp only[Option.isSome_none,Option.getD_none]at N;have R:Hid (QH (Za l) n t a (E.drop (i+1))=QH (Za l) n t a E):=D.symm;have F:=Xh A;clear D hq A M;go_wp2_with (go_fit N.out;rintro e w7⟨⟨v7,rfl,aC⟩,T⟩;obtain⟨pc,kc,ph,kh,rfl,_,_⟩:=id aC)
        go_roundw;case rel=>exact⟨i+1,by omega,R.out,(Qa F Xl T).alloc (Qa F Xl T).size _,by simp⟩
        case measure=>simp[intOf];omega
       |some m =>
        rw[hq]at D N;simp only[Option.isSome_some,Option.getD_some]at N;have F:=Xh A;have HBwr:=Xh M;clear hq A M;go_upto_region 15 with(go_fit N.out;rintro e w7⟨⟨v7,rfl,aC⟩,T⟩;obtain⟨pc,kc,ph,kh,rfl,_,_⟩:=id aC)
        have y:=(Qa F Xl T).alloc (Qa F Xl T).size (.cells #[.string m.name,.string m.type,.bool m.static,.bool m.abs,.bool m.priv,.int .i64 m.locals,.slice pc m.code.length kc,.slice ph m.handlers.length kh] 53);have hlk3:=(HLK.out _ (Qa HBw6 Xl y)).2;obtain⟨yes,hy⟩:∃q,(m.abs==a)=q:=⟨_,rfl⟩;rw[hy]at D;have HBa7:=Xh y;have HB7:=Xh T;have HV7:=Xh aC;have HS:=Xh D;clear D y T aC;by_cases aA:(b2&&yes)=true
        ·rw[Bool.and_eq_true]at aA;obtain⟨rfl,rfl⟩:=aA;have I:Hid (U=some (z,m)):=by
          unfold Hid;rw[HG.out,HS.out];rfl
         have Y:=HBl6.out.step (Qa F Xl HB7);obtain⟨q0,q1,q2,q3,q4,q5,q6,q7⟩:=Y.method;have hfz:=Y.frozen;have hlt:=Y.lt;have P:=Qa HBwr Xl HB7.out;have HE:=Xh ((ZB P (Nat.le_refl w.heap.size) (.string m.name) (.string m.type) (.bool m.static) (.bool m.abs) (.bool m.priv) (.int .i64 m.locals) (.slice pc m.code.length kc) (.slice ph m.handlers.length kh)).alloc (Xf P.size (by simp)) (.cells #[.string m.name,.string m.type,.bool m.static,.bool m.abs,.bool m.priv,.int .i64 m.locals,.slice pc m.code.length kc,.slice ph m.handlers.length kh] 53)).drew;clear Y P;go_upto_region 16 with fail;go_region
         all_goals go_wp2
         all_goals exact bodyPost_ret (v:=.tuple #[.string z,.agg #[.string m.name,.string m.type,.bool m.static,.bool m.abs,.bool m.priv,.int .i64 m.locals,.slice pc m.code.length kc,.slice ph m.handlers.length kh],.bool true]) (by simp[results,Tryz.results214,go_sem, *]) rfl (by rw[I.out];exact⟨⟨_,rfl,HV7⟩,HE⟩)
        ·have R:Hid (QH (Za l) n t a (E.drop (i+1))=QH (Za l) n t a E):=by
          unfold Hid;rw[HS.out,if_neg aA]
         cases b2<;>cases yes<;>first|(exact absurd rfl aA)|skip
         all_goals
          clear aA;go_wp2_with fail;go_roundw;case rel=>exact⟨i+1,by omega,R.out,HBa7,by simp⟩
          case measure=>simp[intOf];omega
      ·obtain rfl:i=E.length:=(by omega);have s:QH (Za l) n t a E=none:=(by rw[<-G.out,Xg Xl];rfl);have R:Hid (U=Qan (Za l) n t E ([false,true].drop (j+1))):=(by unfold Hid;rw[HG.out,s]);have HBe:=Xh (Qa HB6 Xl A);clear s G A HG;go_wp2_with fail;go_roundw;case rel=>exact⟨j+1,by omega,R.out,HBe,by simp⟩
       case measure=>simp[intOf];omega
    ·obtain rfl:j=2:=(by omega);have I:Hid (U=none):=hgg.out;have O:=HBl4.out.step A;obtain⟨q0,q1,q2,q3,q4,q5,q6,q7⟩:=O.method;have hfz:=O.frozen;have hlt:=O.lt;have HE:=Xh (ZB (Qa J Xl A) (Nat.le_refl w.heap.size) (.string ⟨#[]⟩) (.string ⟨#[]⟩) (.bool false) (.bool false) (.bool false) (.int .i64 0) (.slice none 0 0) (.slice none 0 0));clear hgg O A;go_wp2_with fail;exact bodyPost_ret (v:=.tuple #[.string ⟨#[]⟩,.agg Zn.toArray,.bool false]) (by simp[results,Tryz.results214,go_sem, *,Zn]) rfl (by rw[I.out];exact⟨⟨_,rfl,zZ.none w0⟩,HE⟩)
set_option maxRecDepth 512
end Go.Proofs.YtlmfmioljeppfaaGreatDoor
