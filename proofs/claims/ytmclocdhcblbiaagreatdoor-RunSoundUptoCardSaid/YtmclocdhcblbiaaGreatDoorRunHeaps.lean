/- Lemmas; conditions: as each states. -/
import Derived.Test.YtmclocdhcblbiaaGreatDoorRunHeapW
set_option maxHeartbeats 4000000
namespace Go.Proofs.YtmclocdhcblbiaaGreatDoor
open Go.RowKit Go.Shelf Go.Lib
def Z6(w0 wr:World)(X:Nat->Prop)(kb B:Nat)(cv:Value)(h0:List Zc)(qs:List Zs)(q:Zs)(tv:Val)(th:Str)(st:Int)(ov:Bool)(r:zeW)(e:Ending)(w':World):Prop:=match r with
 |.ok h S=>e=.returned (.tuple #[])/\∃hv ps sv',MW w0 wr X w' kb B hv cv ps (qs++[⟨q.cb,q.cv,q.hv,q.lv,sv',{ q.c with S:=S }⟩]) tv th st ov/\ps.map (·.1)=h
 |.fault=>e=.panicked [Qad]/\∃hv ps sv' S,MW w0 wr X w' kb B hv cv ps (qs++[⟨q.cb,q.cv,q.hv,q.lv,sv',{ q.c with S:=S }⟩]) tv th st ov/\ps.map (·.1)=h0
 |.full=>e=.panicked [zar 4]/\Chg X wr w'
theorem tkQ{P:Program}{C:Region.Mode}{Q:Exit->Act->World->Prop}{S:World->Prop}{l:List Oper}{i fuel:Nat}{A:Array Bool}{a:Act}{w:World}{B:Oper}{v:Value}(E:ZbD l i=some B)(F:S w)(h:wpAnyH P C l.toArray Q S fuel (A.setIfInBounds i true) (a.put B.dst v) w)(G:∀w,S w->(execOp a.eval B).run P w=.ok (.value v) w:=by(intro w D;(try dsimp only at D);go_simp;all_goals with_reducible rfl))(H:Region.noSelect l.toArray=true:=by kernel_rfl)(I:Region.free C l.toArray A i=true:=by kernel_rfl)(J:(Region.ready C l.toArray A).contains i=true:=by kernel_rfl)(L:∀c a w,Q (.panic c) (a.put B.dst v) w->Q (.panic c) a w:=by exact fun _ _ _ h=>h)(M:Region.wanted B (yielded l.toArray a.tmps)=true:=by rfl):wpAnyH P C l.toArray Q S (fuel+1) A a w :=
 wpAnyH_take ((Za9 l i).trans E) H I J L (Or.inl ⟨M,G⟩) F h
theorem tkP{P:Program}{B:Region.Mode}{Q:Exit->Act->World->Prop}{S:World->Prop}{l:List Oper}{i fuel:Nat}{A:Array Bool}{a:Act}{w:World}{C:Oper}(D:ZbD l i=some C)(E:S w)(h:wpAnyH P B l.toArray Q S fuel (A.setIfInBounds i true) (a.put C.dst undef) w)(F:Region.noSelect l.toArray=true:=by kernel_rfl)(G:Region.free B l.toArray A i=true:=by kernel_rfl)(H:(Region.ready B l.toArray A).contains i=true:=by kernel_rfl)(I:∀c a w,Q (.panic c) (a.put C.dst undef) w->Q (.panic c) a w:=by exact fun _ _ _ h=>h)(J:Region.wanted C (yielded l.toArray a.tmps)=false:=by rfl):wpAnyH P B l.toArray Q S (fuel+1) A a w :=
 wpAnyH_take ((Za9 l i).trans D) F G H I (Or.inr ⟨J,rfl⟩) E h
theorem MW.thing_yesB{G wr w:World}{X:Nat->Prop}{C B:Nat}{D H:Value}{ps:List (Zc×Value)}{qs:List Zs}{I:Val}{J:Str}{L:Int}{M:Bool}(T:MW G wr X w C B D H ps qs I J L M){g cap:Nat}(N:D=.slice (some ⟨g,0,none⟩) ps.length cap)(v:Val)(j:Nat)(E:v.n=(j:Int)+1)(O:j<ps.length)(F:ps.length<=50):Calls Tryz.prog 118 #[.pointer (some ⟨C,0,none⟩),.agg #[.int .i64 v.kind,.int .i64 v.n]] w fun e w'=>e=.returned (.pointer (some ⟨g,j*2,none⟩))/\Below w.heap.size w w':=by
 obtain⟨P,A,e,h⟩:=ZcC G w C B D H ps qs I J L M T.at' v.kind j O F;rw[N]at e;obtain⟨rfl,rfl⟩:g=P/\cap=A:=by simpa using e
 rw[E];exact h
theorem QK{ps:List (Zc×Value)}{j:Nat}{x:Zc}{A:Value}(h:ps[j]? = some (x,A)){v:Val}(B:v.n=(j:Int)+1):zl (ps.map (·.1)) v=x:=by
 unfold zl;rw[List.getD_eq_getElem?_getD,show v.n.toNat-1=j by omega,List.getElem?_map,h];rfl
theorem ZaO{cs:List qa}{h:List Zc}(f:zah cs h):Zfe h:=fun x B=>by
 obtain⟨_,A,_⟩:=QI (f x B);exact Xf (qad A) (by decide)
theorem Zk.thingsAt{C w:World}{F B:Nat}{D G:Value}{ps:List (Zc×Value)}{qs:List Zs}{H:Val}{I:Str}{J:Int}{L:Bool}(M:Zk C w F B D G ps qs H I J L):Za4 w D (ps.map (·.1)) :=
 qc9 M.things (b:=C.heap.size) (u:=.slice none 0 0) fun p A=>⟨zaS (M.has p A),fun g E=>⟨((M.has p A).lt g E).1,((M.has p A).lt g E).2,fun e=>by cases e⟩⟩
theorem Zbr{ps:List (Zc×Value)}{j:Nat}{x:Zc}{A:Value}(h:ps[j]? = some (x,A)){v:Val}(B:v.n=(j:Int)+1):zl (ps.map (·.1)) v∈ps.map (·.1):=by
 rw[QK h B];exact List.mem_map.2 ⟨_,Xe h,rfl⟩
theorem zdz(D w:World)(B:Nat)(l:List qa)(H:Zi D w B l){x:Zc}(I:qy (Za l) x=0){t:Str}(E:Qg (Za l) t=0){y:Ty}(F:qd y=lst t):
 Calls Tryz.prog 52 #[.map (some B),.string x.type,.string t] w fun e w'=>e=.returned (.bool (ZA (Za l) (Qy x.type) (Qy t)))/\Below w.heap.size w w':=by
 obtain⟨_,J,z,A⟩:=QI I;obtain⟨X,G,C⟩:=zR E;obtain rfl:=Zdr G F;rw[A.of,QR F];exact zcp D w B l H x.type t (.ty z) (.ty y) ⟨A.text,A.good⟩ ⟨G,C⟩ (Xf (qad J) (by decide)) (Xf (qad E) (by decide))
theorem qcC{ps:List (Zc×Value)}{j:Nat}{x:Zc}{A:Value}(h:ps[j]? = some (x,A)){v:Val}(B:v.n=(j:Int)+1)(n:Nat)(u:Val)(C:Value):(ps.set j ({ x with has:=x.has.set n u },C)).map (·.1)=Qaz (ps.map (·.1)) v n u:=by
 unfold Qaz;rw[show v.n.toNat-1=j by omega,QK h B,List.map_set]
set_option maxRecDepth 100000
theorem ZeW(R w:World)(M B:Nat)(m V:Value)(ps:List (Zc×Value))(qs:List Zs)(q:Zs)(Y:Val)(Z:Str)(d:Int)(f:Bool)(wr:World)(X:Nat->Prop)(T:MW R wr X w M B m V ps (qs++[q]) Y Z d f)(E:ps.length<=50)(z:q.c.S.length<=4194304)(a b:Int)(t cls C:Str)(L:List Val)(v:Val)(h:q.c.S=L++[v])(o:0<v.n->v.n.toNat-1<ps.length):
 Calls Tryz.prog 89 #[.pointer (some ⟨M,0,none⟩),.pointer (some ⟨q.cb,0,none⟩),.agg #[.int .i64 19,.int .i64 a,.int .i64 b,.string t,.string cls,.string C]] w (Z6 R wr X M B V (ps.map (·.1)) qs q Y Z d f (if v.n<=0 then .fault else .ok (ps.map (·.1)) (L++[⟨1,(zl (ps.map (·.1)) v).has.length⟩]))):=by
 obtain⟨i,I⟩:∃i,w.alloc (.cells #[.int .i64 19,.int .i64 a,.int .i64 b,.string t,.string cls,.string C] 34)=i:=⟨_,rfl⟩;obtain⟨X1,s,D,P,HXl,HS1,-⟩:=T.boxes I;have hfd:=ZaH;obtain⟨i0,-,-,i3,i4,i5⟩:=(P.out _ _ _ _ _ _ _ _ _ s).cells6;have N:=Xh I;have F:=Xh s;have HN:=Xh z;clear s I z T;have HS:=Xh h;have r:L.length<=4194304:=by have:=HN.out;rw[h]at this;simp at this;omega
 by_cases O:v.n<=0
 ·rw[if_pos O];have G:Hid (∀wx A,MW R i X1 wx M B m V ps (qs++[⟨q.cb,q.cv,q.hv,q.lv,A,{ q.c with S:=L }⟩]) Y Z d f->_):=fun wx A U=>U.thing_no v O
  clear O o h E;go_enter Tryz.func89,Tryz.ntmps89;go_upto_region 1 with fail;rw[N.out];go_wp2_with (first
   |(go_fit (F.out.pop HS.out);rintro e w2⟨rfl,-,A,y⟩)
   |(go_fit (G.out _ _ y);rintro e w3⟨rfl,l⟩))
  exact⟨rfl,rfl,m,ps,_,L,D.out _ _ _ _ _ _ _ _ _ l,rfl⟩
 ·rw[if_neg O];obtain⟨j,J⟩:∃j:Nat,v.n=(j:Int)+1:=⟨v.n.toNat-1,by omega⟩;have H:j<ps.length:=by have:=o (by omega);omega
  obtain⟨⟨x,xv⟩,k⟩:∃p,ps[j]? = some p:=⟨_,Xn H⟩;rw[QK k J];obtain⟨g,cap,rfl,-,-,-,⟨xp,xk,rfl⟩,-⟩:=F.out.at'.thingAt k;have G:Hid (∀wx A,MW R i X1 wx M B (.slice (some ⟨g,0,none⟩) ps.length cap) V ps (qs++[⟨q.cb,q.cv,q.hv,q.lv,A,{ q.c with S:=L }⟩]) Y Z d f->_):=fun wx A U=>U.thing_yes rfl v j J H E
  have HX:=Xh k;clear O o h E J H k;go_enter Tryz.func89,Tryz.ntmps89;go_upto_region 1 with fail;rw[N.out];go_wp2_with (first
   |(go_fit (F.out.pop HS.out);rintro e w2⟨rfl,-,A,y⟩)
   |(go_fit (G.out _ _ y);rintro e w3⟨rfl,l⟩;obtain⟨-,k1,-⟩:=l.at'.at1 HX.out)
   |(go_fit (l.put r ⟨1,(x.has.length:Int)⟩);rintro e w4⟨rfl,-,sv4,U4⟩))
  go_end0;exact⟨rfl,_,ps,_,D.out _ _ _ _ _ _ _ _ _ U4,rfl⟩
theorem ZdU(r w:World)(k B:Nat)(s y:Value)(ps:List (Zc×Value))(qs:List Zs)(q:Zs)(z:Val)(th:Str)(st:Int)(ov:Bool)(wr:World)(X:Nat->Prop)(T:MW r wr X w k B s y ps (qs++[q]) z th st ov)(A:ps.length<=50)(R:q.c.S.length<=4194304)(a b:Int)(t cls H:Str)(U:List Val)(v G:Val)(J:q.c.S=U++[v]++[G])(h:0<v.n->v.n.toNat-1<ps.length):
 Calls Tryz.prog 89 #[.pointer (some ⟨k,0,none⟩),.pointer (some ⟨q.cb,0,none⟩),.agg #[.int .i64 20,.int .i64 a,.int .i64 b,.string t,.string cls,.string H]] w (Z6 r wr X k B y (ps.map (·.1)) qs q z th st ov (if v.n<=0 then .fault else if G.n<0\/((zl (ps.map (·.1)) v).has.length:Int)<=G.n then .fault else .ok (ps.map (·.1)) (U++[(zl (ps.map (·.1)) v).has.getD G.n.toNat v0]))):=by
 obtain⟨w1,N⟩:∃w1,w.alloc (.cells #[.int .i64 20,.int .i64 a,.int .i64 b,.string t,.string cls,.string H] 34)=w1:=⟨_,rfl⟩;obtain⟨X1,m,E,Z,HXl,HS1,-⟩:=T.boxes N;have hfd:=ZaH;obtain⟨i0,-,-,i3,i4,i5⟩:=(Z.out _ _ _ _ _ _ _ _ _ m).cells6;have L:=Xh N;have D:=Xh m;have HN:=Xh R;clear m N R T;have l:U.length<=4194304:=by have:=HN.out;rw[J]at this;simp at this;omega
 by_cases P:v.n<=0
 ·rw[if_pos P];have C:=Xh (D.out.elemN J P A);clear P h J A;go_enter Tryz.func89,Tryz.ntmps89;go_upto_region 1 with fail;rw[L.out];go_wp2_with (go_fit C.out;rintro e w2⟨rfl,f,O⟩)
  exact⟨rfl,rfl,s,ps,_,U,E.out _ _ _ _ _ _ _ _ _ O,rfl⟩
 ·rw[if_neg P];obtain⟨j,F⟩:∃j:Nat,v.n=(j:Int)+1:=⟨v.n.toNat-1,by omega⟩;have M:j<ps.length:=by have:=h (by omega);omega
  obtain⟨⟨x,xv⟩,I⟩:∃p,ps[j]? = some p:=⟨_,Xn M⟩;rw[QK I F];obtain⟨g,cap,rfl,-,-,-,⟨xp,xk,rfl⟩,-⟩:=D.out.at'.thingAt I;by_cases V:G.n<0\/(x.has.length:Int)<=G.n
  ·rw[if_pos V];have C:=Xh (D.out.elemO J F I V A);clear P h J A F M I V;go_enter Tryz.func89,Tryz.ntmps89;go_upto_region 1 with fail;rw[L.out];go_wp2_with (go_fit C.out;rintro e w2⟨rfl,f,O⟩)
   exact⟨rfl,rfl,_,ps,_,U,E.out _ _ _ _ _ _ _ _ _ O,rfl⟩
  ·rw[if_neg V];obtain⟨n,R⟩:∃n:Nat,G.n=(n:Int):=⟨G.n.toNat,by omega⟩;have Y:n<x.has.length:=(by omega);have C:=Xh (D.out.elemY J F I rfl (by omega) (by omega) A);rw[R]at C;rw[show G.n.toNat=n by omega];obtain⟨u,i⟩:∃u,x.has[n]? = some u:=⟨_,Xn Y⟩;rw[show x.has.getD n v0=u by rw[List.getD_eq_getElem?_getD,i];rfl];obtain⟨gx,o,d⟩:=D.out.at'.rowAt I i;obtain⟨rfl,rfl⟩:xp=some ⟨gx,0,none⟩/\xk=o:=(by simpa using d);have HX:=Xh I;have HV:=Xh i;have i1:(0:Int)<=(n:Int):=(by omega);have i2:(n:Int)<(x.has.length:Int):=(by omega);clear P h J A F M I V R Y i d;go_enter Tryz.func89,Tryz.ntmps89;go_upto_region 1 with fail;rw[L.out];go_wp2_with (first
    |(go_fit C.out;rintro e w2⟨rfl,f,O⟩;obtain⟨-,k1,-⟩:=O.at'.at1 HX.out;obtain⟨y0,y1,-,-,-⟩:=O.at'.at2 HX.out HV.out)
    |(go_fit (O.put l u);rintro e w4⟨rfl,-,sv4,U4⟩))
   go_end0;exact⟨rfl,_,ps,_,E.out _ _ _ _ _ _ _ _ _ U4,rfl⟩
theorem qeW(m w:World)(I B:Nat)(hv z:Value)(ps:List (Zc×Value))(qs:List Zs)(q:Zs)(tv:Val)(th:Str)(st:Int)(ov:Bool)(wr:World)(X:Nat->Prop)(T:MW m wr X w I B hv z ps (qs++[q]) tv th st ov)(o:ps.length<=50)(hn:q.c.S.length<=4194304)(a b:Int)(t cls L:Str)(R:World)(l:List qa)(s:Zi R m B l)(v:(Qb (Za l) cls).isSome=true):
 Calls Tryz.prog 89 #[.pointer (some ⟨I,0,none⟩),.pointer (some ⟨q.cb,0,none⟩),.agg #[.int .i64 15,.int .i64 a,.int .i64 b,.string t,.string cls,.string L]] w (Z6 m wr X I B z (ps.map (·.1)) qs q tv th st ov (qbD (ps.map (·.1)) (Q0 (Za l) cls) q.c.S)):=by
 obtain⟨A,V⟩:∃A,w.alloc (.cells #[.int .i64 15,.int .i64 a,.int .i64 b,.string t,.string cls,.string L] 34)=A:=⟨_,rfl⟩;obtain⟨X1,U1,N,D,HXl,HS1,-⟩:=T.boxes V;have hfd:=ZaH;obtain⟨i0,-,-,i3,i4,i5⟩:=(D.out _ _ _ _ _ _ _ _ _ U1).cells6;have x:=Xh V;have C:=Xh U1;have HN:=Xh hn;clear U1 V hn T;have M:=qaM s.faults v;have j0:=C.out.at'.cells.1;have HF:Hid (∀wx,Below A.heap.size A wx->_):=fun wx O=>QcR R wx B l ((s.step C.out.at'.below).step O) cls v
 unfold Qa6 at HF;have J:Hid (∀wx (p:Option Addr) (k n:Nat),n=(Qq (zU (Za l) cls)).length->Below A.heap.size A wx->wx.ownsRow A.heap.size 43 2 (.slice p n k) (List.replicate n Qaf).length ((List.replicate n Qaf).flatMap qt)->_):=fun wx p k n H O d=>zb6 R m wx I B hv z ps (qs++[q]) tv th st ov (C.out.at'.step O) l s (Qc cls) (.cl cls) p k n (QU d C.out.at'.size) (fun r b hp e=>by have:=(C.out.at'.lt r b hp).2;have:=(d.lt b e).1;omega) (zdr v n) (by rw[Zan];unfold maxLen;omega) (fun e h=>by cases h) (Qq (zU (Za l) cls)) (qbo _ _ _) H.symm
 have F:(ps.map (·.1)).length=ps.length:=List.length_map ..;have U:∀xv:Value,(ps++[((⟨Qc cls,(Qq (zU (Za l) cls)).map QF⟩:Zc),xv)]).map (·.1)=ps.map (·.1)++[Q0 (Za l) cls]:=fun xv=>by
  rw[List.map_append,zcS];rfl
 unfold qbD;rw[F];generalize Qq (zU (Za l) cls)=P at *;generalize Q0 (Za l) cls=FT at *;by_cases E:50<=ps.length
 ·rw[if_pos E];have HC:Hid (∀wx (p:Option Addr) (k n:Nat),n=P.length->Below A.heap.size A wx->wx.ownsRow A.heap.size 43 2 (.slice p n k) (List.replicate n Qaf).length ((List.replicate n Qaf).flatMap qt)->Calls Tryz.prog 82 #[.pointer (some ⟨I,0,none⟩),.agg #[.string (Qc cls),.slice p n k]] wx fun e w'=>e=.panicked [zar 4]/\Below wx.heap.size wx w'):=fun wx p k n H O d=>(J.out wx p k n H O d).mono fun e w' h=>by
   rcases h with⟨_,y,h2⟩|⟨y,_⟩
   ·exact⟨y,h2⟩
   ·omega
  clear s v M J E o F U;go_enter Tryz.func89,Tryz.ntmps89;go_upto_region 1 with fail;rw[x.out];go_upto_region 3 with fail;refine wp_region_held_drew (S:=fun w'=>w'.cell? ⟨I,0,none⟩=some (.map (some B))/\w'.cell? ⟨w.heap.size,4,none⟩=some (.string cls)) (by kernel_rfl) (⟨j0,i4⟩) (fun hHeld=>?_);change wpAnyH _ _ _ _ _ 11 _ _ _;refine tkQ (i:=0) rfl hHeld ?_;try simp only[Act.put,Xa,Xc,Xd]
  refine tkQ (i:=1) rfl hHeld ?_;try simp only[Act.put,Xa,Xc,Xd]
  refine tkQ (i:=2) rfl hHeld ?_;try simp only[Act.put,Xa,Xc,Xd]
  refine tkQ (i:=3) rfl hHeld ?_;try simp only[Act.put,Xa,Xc,Xd]
  refine tkQ (i:=4) rfl hHeld ?_;try simp only[Act.put,Xa,Xc,Xd]
  refine tkQ (i:=5) rfl hHeld ?_;try simp only[Act.put,Xa,Xc,Xd]
  refine tkQ (i:=6) rfl hHeld ?_;try simp only[Act.put,Xa,Xc,Xd]
  refine tkQ (i:=7) rfl hHeld ?_;try simp only[Act.put,Xa,Xc,Xd]
  refine wpAnyH_ready (rs:=[8]) (fuel:=2) (by kernel_rfl) (by simp) ?_;refine AllReadyH.cons (i:=8) rfl (fun K hK=>?_) AllReadyH.nil;go_simp;refine(HF.out _ Xb.drew).mono ?_;rintro e j⟨⟨p,k,rfl,Y⟩,Z⟩;have G:Below A.heap.size A j:=Qa Xb.drew Xl Z;have g:=C.out.step G;refine hK.out _ _ (⟨g.at'.cells.1,(D.out _ _ _ _ _ _ _ _ _ g).cell 4⟩) (fun hHeld=>?_);clear hK K;try dsimp only[Act.put]
  refine wpAnyH_ready (rs:=[9]) (fuel:=1) (by kernel_rfl) (by simp) ?_;refine AllReadyH.cons (i:=9) rfl (fun K hK=>?_) AllReadyH.nil;go_simp;refine(HC.out j p k P.length rfl G Y).mono ?_;rintro e w4⟨rfl,hB4⟩;exact⟨rfl,rfl,(N.out _ _ _ _ _ _ _ _ _ (g.step hB4)).chg⟩
 ·rw[if_neg E];have HC:Hid (∀wx (p:Option Addr) (k n:Nat),n=P.length->Below A.heap.size A wx->wx.ownsRow A.heap.size 43 2 (.slice p n k) (List.replicate n Qaf).length ((List.replicate n Qaf).flatMap qt)->Calls Tryz.prog 82 #[.pointer (some ⟨I,0,none⟩),.agg #[.string (Qc cls),.slice p n k]] wx fun e w'=>e=.returned (.agg #[.int .i64 3,.int .i64 ((ps.length:Int)+1)])/\∃f,MW m A X1 w' I B f z (ps++[(⟨Qc cls,P.map QF⟩,.slice p n k)]) (qs++[q]) tv th st ov):=fun wx p k n H O d=>(J.out wx p k n H O d).mono fun e w' h=>by
   rcases h with⟨y,_⟩|⟨_,y,h2,f,h3,h4⟩
   ·omega
   ·exact⟨y,f,(C.out.step O).mored h2 (fun b e=>(d.lt b e).1) h3 h4⟩
  have HFt:=Xh U;clear s v M J E o F U;go_enter Tryz.func89,Tryz.ntmps89;go_upto_region 1 with fail;rw[x.out];go_upto_region 3 with fail;go_region_held3 (fun w'=>w'.cell? ⟨I,0,none⟩=some (.map (some B))/\w'.cell? ⟨w.heap.size,4,none⟩=some (.string cls)) (go_keep)
   (first
    |(go_fit (HF.out _ Xb.drew);rintro e j⟨⟨p,k,rfl,Y⟩,Z⟩;(have hr4:j.ownsRow A.heap.size 43 2 (.slice p P.length k) (List.replicate P.length Qaf).length ((List.replicate P.length Qaf).flatMap qt):=Y);(have G:Below A.heap.size A j:=Qa Xb.drew Xl Z);(have g:=C.out.step G);(have z0:=g.at'.cells.1);(have z1:=(D.out _ _ _ _ _ _ _ _ _ g).cell 4))
    |(go_fit (HC.out j p k P.length rfl G hr4);rintro e w4⟨rfl,hv4,U4⟩;(have z2:=U4.at'.cells.1);(have z3:=(D.out _ _ _ _ _ _ _ _ _ U4).cell 4))
    |(go_fit (U4.put HN.out ⟨3,(ps.length:Int)+1⟩);rintro e w5⟨rfl,-,sv5,U5⟩;(have z4:=U5.at'.cells.1);(have z5:=(D.out _ _ _ _ _ _ _ _ _ U5).cell 4)))
  all_goals
   go_wp2_with fail;go_end0;exact⟨rfl,_,_,_,N.out _ _ _ _ _ _ _ _ _ U5,HFt.out _⟩
theorem QeW(H w:World)(F B:Nat)(hv Y:Value)(ps:List (Zc×Value))(qs:List Zs)(q:Zs)(Z:Val)(d:Str)(f:Int)(k:Bool)(wr:World)(X:Nat->Prop)(T:MW H wr X w F B hv Y ps (qs++[q]) Z d f k)(J:ps.length<=50)(hn:q.c.S.length<=4194304)(a b:Int)(t cls A:Str)(m:World)(l:List qa)(hm:Zi m H B l)(hk:(Qb (Za l) cls).isSome=true)(V:List Val)(v:Val)(hS:q.c.S=V++[v])(hj:0<v.n->v.n.toNat-1<ps.length)(n:Nat)(hp:zat (Za l) cls A=some n)(hl:0<v.n->n<(zl (ps.map (·.1)) v).has.length):
 Calls Tryz.prog 89 #[.pointer (some ⟨F,0,none⟩),.pointer (some ⟨q.cb,0,none⟩),.agg #[.int .i64 16,.int .i64 a,.int .i64 b,.string t,.string cls,.string A]] w (Z6 H wr X F B Y (ps.map (·.1)) qs q Z d f k (if v.n<=0 then .fault else .ok (ps.map (·.1)) (V++[(zl (ps.map (·.1)) v).has.getD n v0]))):=by
 obtain⟨z,N⟩:∃z,w.alloc (.cells #[.int .i64 16,.int .i64 a,.int .i64 b,.string t,.string cls,.string A] 34)=z:=⟨_,rfl⟩;obtain⟨X1,U1,I,C,HXl,HS1,-⟩:=T.boxes N;have hfd:=ZaH;obtain⟨i0,-,-,i3,i4,i5⟩:=(C.out _ _ _ _ _ _ _ _ _ U1).cells6;have o:=Xh N;have E:=Xh U1;have HN:=Xh hn;clear U1 N hn T;have HS:=Xh hS;have HTl:V.length<=4194304:=by have:=HN.out;rw[hS]at this;simp at this;omega
 have HAt:Hid (∀wx,Below H.heap.size H wx->Calls Tryz.prog 124 #[.map (some B),.string cls,.string A] wx fun e w'=>e=.returned (.int .i64 n)/\Below wx.heap.size wx w'):=fun wx hb=>by
  have h:=zcX m wx B l (hm.step hb) cls A hk;rw[hp]at h;exact h
 by_cases r:v.n<=0
 ·rw[if_pos r];have L:Hid (∀wx D,MW H z X1 wx F B hv Y ps (qs++[⟨q.cb,q.cv,q.hv,q.lv,D,{ q.c with S:=V }⟩]) Z d f k->_):=fun wx D U=>U.thing_no v r
  clear r hj hS J hm hk hp hl;go_enter Tryz.func89,Tryz.ntmps89;go_upto_region 1 with fail;rw[o.out];go_upto_region 3 with fail;refine wp_region_held_drew (S:=fun w'=>w'.cell? ⟨F,0,none⟩=some (.map (some B))/\w'.cell? ⟨w.heap.size,4,none⟩=some (.string cls)/\w'.cell? ⟨w.heap.size,5,none⟩=some (.string A)) (by kernel_rfl) (⟨E.out.at'.cells.1,i4,i5⟩) (fun hHeld=>?_);change wpAnyH _ _ _ _ _ 20 _ _ _;refine tkQ (i:=0) rfl hHeld ?_;try simp only[Act.put,Xa,Xc,Xd]
  refine tkQ (i:=1) rfl hHeld ?_;try simp only[Act.put,Xa,Xc,Xd]
  refine tkQ (i:=2) rfl hHeld ?_;try simp only[Act.put,Xa,Xc,Xd]
  refine tkQ (i:=8) rfl hHeld ?_;try simp only[Act.put,Xa,Xc,Xd]
  refine tkQ (i:=9) rfl hHeld ?_;try simp only[Act.put,Xa,Xc,Xd]
  refine tkQ (i:=10) rfl hHeld ?_;try simp only[Act.put,Xa,Xc,Xd]
  refine tkQ (i:=11) rfl hHeld ?_;try simp only[Act.put,Xa,Xc,Xd]
  refine tkQ (i:=12) rfl hHeld ?_;try simp only[Act.put,Xa,Xc,Xd]
  refine tkQ (i:=13) rfl hHeld ?_;try simp only[Act.put,Xa,Xc,Xd]
  refine tkQ (i:=14) rfl hHeld ?_;try simp only[Act.put,Xa,Xc,Xd]
  refine tkQ (i:=15) rfl hHeld ?_;try simp only[Act.put,Xa,Xc,Xd]
  refine wpAnyH_ready (rs:=[3]) (fuel:=8) (by kernel_rfl) (by simp) ?_;refine AllReadyH.cons (i:=3) rfl (fun K hK=>?_) AllReadyH.nil;go_simp;refine(E.out.drew.pop HS.out).mono ?_;rintro e w3⟨rfl,-,D,R⟩;refine hK.out _ _ (⟨R.at'.cells.1,(C.out _ _ _ _ _ _ _ _ _ R).cell 4,(C.out _ _ _ _ _ _ _ _ _ R).cell 5⟩) (fun hHeld=>?_);clear hK K;try dsimp only[Act.put]
  refine wpAnyH_ready (rs:=[4]) (fuel:=7) (by kernel_rfl) (by simp) ?_;refine AllReadyH.cons (i:=4) rfl (fun K hK=>?_) AllReadyH.nil;go_simp;refine(L.out _ _ R).mono ?_;rintro e w4⟨rfl,U3⟩;exact⟨rfl,rfl,hv,ps,_,V,I.out _ _ _ _ _ _ _ _ _ U3,rfl⟩
 ·rw[if_neg r];obtain⟨j,G⟩:∃j:Nat,v.n=(j:Int)+1:=⟨v.n.toNat-1,by omega⟩;have M:j<ps.length:=by have:=hj (by omega);omega
  obtain⟨⟨x,xv⟩,O⟩:∃p,ps[j]? = some p:=⟨_,Xn M⟩;rw[QK O G];obtain⟨g,cap,rfl,-,-,-,⟨xp,xk,rfl⟩,-⟩:=E.out.at'.thingAt O;rw[QK O G]at hl;have s:=hl (by omega);obtain⟨u,hu⟩:∃u,x.has[n]? = some u:=⟨_,Xn s⟩;rw[show x.has.getD n v0=u by rw[List.getD_eq_getElem?_getD,hu];rfl];obtain⟨P,xk',aA⟩:=E.out.at'.rowAt O hu;obtain⟨rfl,rfl⟩:xp=some ⟨P,0,none⟩/\xk=xk':=by simpa using aA
  have y:Hid (∀wx qx,MW H z X1 wx F B (.slice (some ⟨g,0,none⟩) ps.length cap) Y ps (qs++[qx]) Z d f k->wx.cell? ⟨F,0,none⟩=some (.map (some B))/\wx.cell? ⟨w.heap.size,4,none⟩=some (.string cls)/\wx.cell? ⟨w.heap.size,5,none⟩=some (.string A)/\wx.cell? ⟨g,j*2+1,none⟩=some (.slice (some ⟨P,0,none⟩) x.has.length xk)/\wx.cell? ⟨P,n*2,none⟩=some (.int .i64 u.kind)/\wx.cell? ⟨P,n*2+1,none⟩=some (.int .i64 u.n)):=fun wx qx U=>by
   obtain⟨-,k1,-⟩:=U.at'.at1 O;obtain⟨y0,y1,-,-,-⟩:=U.at'.at2 O hu;exact⟨U.at'.cells.1,(C.out _ _ _ _ _ _ _ _ _ U).cell 4,(C.out _ _ _ _ _ _ _ _ _ U).cell 5,k1,y0,y1⟩
  have L:Hid (∀wx D,MW H z X1 wx F B (.slice (some ⟨g,0,none⟩) ps.length cap) Y ps (qs++[⟨q.cb,q.cv,q.hv,q.lv,D,{ q.c with S:=V }⟩]) Z d f k->_):=fun wx D U=>U.thing_yes rfl v j G M J
  have i1:(0:Int)<=(n:Int):=by omega
  have i2:(n:Int)<(x.has.length:Int):=by omega
  obtain⟨c0,c1,c2,c3,c4,c5⟩:=y.out _ _ E.out;clear r hj hS J G M O hl s hu aA hm hk hp;go_enter Tryz.func89,Tryz.ntmps89;go_upto_region 1 with fail;rw[o.out];go_upto_region 3 with fail;go_region_held3 (fun w'=>w'.cell? ⟨F,0,none⟩=some (.map (some B))/\w'.cell? ⟨w.heap.size,4,none⟩=some (.string cls)/\w'.cell? ⟨w.heap.size,5,none⟩=some (.string A)/\w'.cell? ⟨g,j*2+1,none⟩=some (.slice (some ⟨P,0,none⟩) x.has.length xk)/\w'.cell? ⟨P,n*2,none⟩=some (.int .i64 u.kind)/\w'.cell? ⟨P,n*2+1,none⟩=some (.int .i64 u.n)) (go_keep)
   (first
    |(go_fit (E.out.drew.pop HS.out);rintro e w3⟨rfl,-,D,R⟩;obtain⟨z0,z1,z2,z3,z4,z5⟩:=y.out _ _ R)
    |(go_fit (L.out _ _ R);rintro e w4⟨rfl,U3⟩;obtain⟨z0,z1,z2,z3,z4,z5⟩:=y.out _ _ U3)
    |(go_fit (HAt.out _ U3.at'.below);rintro e w5⟨rfl,hB5⟩;(have U4:=U3.step hB5);obtain⟨z0,z1,z2,z3,z4,z5⟩:=y.out _ _ U4)
    |(go_fit (U4.put HTl u);rintro e w6⟨rfl,-,sv5,U5⟩;obtain⟨z0,z1,z2,z3,z4,z5⟩:=y.out _ _ U5))
  all_goals
   go_wp2_with fail;go_end0;exact⟨rfl,_,ps,_,I.out _ _ _ _ _ _ _ _ _ U5,rfl⟩
theorem zeX(R w:World)(C B:Nat)(hv V:Value)(ps:List (Zc×Value))(qs:List Zs)(q:Zs)(tv:Val)(th:Str)(st:Int)(ov:Bool)(wr:World)(X:Nat->Prop)(T:MW R wr X w C B hv V ps (qs++[q]) tv th st ov)(d:ps.length<=50)(hn:q.c.S.length<=4194304)(a b:Int)(t cls A:Str)(w00:World)(l:List qa)(hm:Zi w00 R B l)(hk:(Qb (Za l) cls).isSome=true)(T0:List Val)(v u:Val)(hS:q.c.S=T0++[v]++[u])(hj:0<v.n->v.n.toNat-1<ps.length)(n:Nat)(hp:zat (Za l) cls A=some n)(hl:0<v.n->n<(zl (ps.map (·.1)) v).has.length):
 Calls Tryz.prog 89 #[.pointer (some ⟨C,0,none⟩),.pointer (some ⟨q.cb,0,none⟩),.agg #[.int .i64 17,.int .i64 a,.int .i64 b,.string t,.string cls,.string A]] w (Z6 R wr X C B V (ps.map (·.1)) qs q tv th st ov (if v.n<=0 then .fault else .ok (Qaz (ps.map (·.1)) v n u) T0)):=by
 obtain⟨w1,aC⟩:∃w1,w.alloc (.cells #[.int .i64 17,.int .i64 a,.int .i64 b,.string t,.string cls,.string A] 34)=w1:=⟨_,rfl⟩;obtain⟨X1,U1,Z,E,HXl,HS1,-⟩:=T.boxes aC;have hfd:=ZaH;obtain⟨i0,-,-,i3,i4,i5⟩:=(E.out _ _ _ _ _ _ _ _ _ U1).cells6;have HW1:=Xh aC;have D:=Xh U1;have HN:=Xh hn;clear U1 aC hn T;have HS:=Xh hS;have HTl:T0.length<=4194304:=by have:=HN.out;rw[hS]at this;simp at this;omega
 have HAt:Hid (∀wx,Below R.heap.size R wx->Calls Tryz.prog 124 #[.map (some B),.string cls,.string A] wx fun e w'=>e=.returned (.int .i64 n)/\Below wx.heap.size wx w'):=fun wx hb=>by
  have h:=zcX w00 wx B l (hm.step hb) cls A hk;rw[hp]at h;exact h
 by_cases h0:v.n<=0
 ·rw[if_pos h0];have f:Hid (∀wx G,MW R w1 X1 wx C B hv V ps (qs++[⟨q.cb,q.cv,q.hv,q.lv,G,{ q.c with S:=T0 }⟩]) tv th st ov->_):=fun wx G U=>U.thing_no v h0
  clear h0 hj hS d hm hk hp hl;go_enter Tryz.func89,Tryz.ntmps89;go_upto_region 1 with fail;rw[HW1.out];go_upto_region 5 with(go_fit (D.out.pop HS.out);rintro e P⟨rfl,-,G,U2⟩)
  have N:=Xh (U2.alloc (.cells #[.int .i64 u.kind,.int .i64 u.n] 43));have F:=Blk.new P 43 [.int .i64 u.kind,.int .i64 u.n];have H:∀r,QV C hv V ps _ r≠some P.heap.size:=fun r hr=>by have:=(U2.at'.lt r _ hr).2;omega
  generalize hw3:P.alloc (.cells #[.int .i64 u.kind,.int .i64 u.n] 43)=w3 at *;generalize P.heap.size=M at *;have o:Hid (∀wx qx,MW R w1 X1 wx C B hv V ps (qs++[qx]) tv th st ov->Blk wx M 43 [.int .i64 u.kind,.int .i64 u.n]->wx.cell? ⟨C,0,none⟩=some (.map (some B))/\wx.cell? ⟨w.heap.size,4,none⟩=some (.string cls)/\wx.cell? ⟨w.heap.size,5,none⟩=some (.string A)/\wx.cell? ⟨M,0,none⟩=some (.int .i64 u.kind)/\wx.cell? ⟨M,1,none⟩=some (.int .i64 u.n)):=fun wx qx U hb=>⟨U.at'.cells.1,(E.out _ _ _ _ _ _ _ _ _ U).cell 4,(E.out _ _ _ _ _ _ _ _ _ U).cell 5,hb.cell 0,hb.cell 1⟩
  have s:=Xh F;have y:=Xh H;obtain⟨c0,c1,c2,c3,c4⟩:=o.out _ _ N.out F;clear F H hw3 U2 i0 i3 i4 i5;refine wp_region_held_drew (S:=fun w'=>w'.cell? ⟨C,0,none⟩=some (.map (some B))/\w'.cell? ⟨w.heap.size,4,none⟩=some (.string cls)/\w'.cell? ⟨w.heap.size,5,none⟩=some (.string A)/\w'.cell? ⟨M,0,none⟩=some (.int .i64 u.kind)/\w'.cell? ⟨M,1,none⟩=some (.int .i64 u.n)) (by kernel_rfl) (⟨c0,c1,c2,c3,c4⟩) (fun hHeld=>?_);change wpAnyH _ _ _ _ _ 19 _ _ _;refine tkQ (i:=0) rfl hHeld ?_;try simp only[Act.put,Xa,Xc,Xd]
  refine tkQ (i:=1) rfl hHeld ?_;try simp only[Act.put,Xa,Xc,Xd]
  refine tkQ (i:=7) rfl hHeld ?_;try simp only[Act.put,Xa,Xc,Xd]
  refine tkQ (i:=8) rfl hHeld ?_;try simp only[Act.put,Xa,Xc,Xd]
  refine tkQ (i:=9) rfl hHeld ?_;try simp only[Act.put,Xa,Xc,Xd]
  refine tkQ (i:=10) rfl hHeld ?_;try simp only[Act.put,Xa,Xc,Xd]
  refine tkQ (i:=11) rfl hHeld ?_;try simp only[Act.put,Xa,Xc,Xd]
  refine tkQ (i:=12) rfl hHeld ?_;try simp only[Act.put,Xa,Xc,Xd]
  refine tkQ (i:=13) rfl hHeld ?_;try simp only[Act.put,Xa,Xc,Xd]
  refine tkQ (i:=14) rfl hHeld ?_;try simp only[Act.put,Xa,Xc,Xd]
  refine tkQ (i:=16) rfl hHeld ?_;try simp only[Act.put,Xa,Xc,Xd]
  refine wpAnyH_ready (rs:=[2]) (fuel:=7) (by kernel_rfl) (by simp) ?_;refine AllReadyH.cons (i:=2) rfl (fun K hK=>?_) AllReadyH.nil;go_simp;refine(N.out.drew.pop rfl).mono ?_;rintro e w4⟨rfl,hc4,sv4,U4⟩;refine hK.out _ _ (o.out _ _ U4 ((s.out.step Xb.drew).chg hc4 (fun O=>(Qao.xs O).elim fun r hr=>y.out r hr))) (fun hHeld=>?_);clear hK K;try dsimp only[Act.put]
  refine wpAnyH_ready (rs:=[3]) (fuel:=6) (by kernel_rfl) (by simp) ?_;refine AllReadyH.cons (i:=3) rfl (fun K hK=>?_) AllReadyH.nil;go_simp;refine(f.out _ _ U4).mono ?_;rintro e w5⟨rfl,U5⟩;exact⟨rfl,rfl,hv,ps,_,T0,Z.out _ _ _ _ _ _ _ _ _ U5,rfl⟩
 ·rw[if_neg h0];obtain⟨j,Y⟩:∃j:Nat,v.n=(j:Int)+1:=⟨v.n.toNat-1,by omega⟩;have z:j<ps.length:=by have:=hj (by omega);omega
  obtain⟨⟨x,xv⟩,O⟩:∃p,ps[j]? = some p:=⟨_,Xn z⟩;obtain⟨g,cap,rfl,-,-,-,⟨xp,xk,rfl⟩,-⟩:=D.out.at'.thingAt O;rw[QK O Y]at hl;have aA:=hl (by omega);have HHs:=Xh (qcC O Y n u);obtain⟨u0,hu⟩:∃u,x.has[n]? = some u:=⟨_,Xn aA⟩;obtain⟨L,xk',hex⟩:=D.out.at'.rowAt O hu;obtain⟨rfl,rfl⟩:xp=some ⟨L,0,none⟩/\xk=xk':=by simpa using hex
  have f:Hid (∀wx G,MW R w1 X1 wx C B (.slice (some ⟨g,0,none⟩) ps.length cap) V ps (qs++[⟨q.cb,q.cv,q.hv,q.lv,G,{ q.c with S:=T0 }⟩]) tv th st ov->_):=fun wx G U=>U.thing_yesB rfl v j Y z d
  have I:∀q',QV C (.slice (some ⟨g,0,none⟩) ps.length cap) V ps q' (.has j)=some L:=fun q'=>by show(ps[j]?).bind _=_;rw[O];rfl
  have n1:¬C=L:=fun e=>by cases D.out.at'.sep .m (.has j) C rfl (by rw[e];exact I (qs++[q]))
  have n2:¬g=L:=fun e=>by cases D.out.at'.sep .hs (.has j) g rfl (by rw[e];exact I (qs++[q]))
  have n3:¬w.heap.size=L:=fun e=>by
   rcases D.out.parts (.has j) L (I (qs++[q])) with h|h
   ·have:=HXl.out _ h;omega
   ·have:=HS1.out;have:=(D.out.at'.lt (.has j) L (I (qs++[q]))).2;omega
  have HGp:=Xh I;have J:Hid (∀(wx:World) (b k:Nat),¬b=L->((wx.setCell ⟨L,n*2,none⟩ (.int .i64 u.kind)).setCell ⟨L,n*2+1,none⟩ (.int .i64 u.n)).cell? ⟨b,k,none⟩=wx.cell? ⟨b,k,none⟩):=fun wx b k h=>(World.cell?_setCell_far _ _ _ _ (fun e=>h e.symm)).trans (World.cell?_setCell_far _ _ _ _ (fun e=>h e.symm))
  have aB:=Xh O;have HUa:=Xh hu;have HNl:=Xh aA;have i1:(0:Int)<=(n:Int):=by omega
  have i2:(n:Int)<(x.has.length:Int):=by omega
  clear h0 hj hS d Y z O hl aA hu hex hm hk hp I;go_enter Tryz.func89,Tryz.ntmps89;go_upto_region 1 with fail;rw[HW1.out];go_upto_region 5 with(go_fit (D.out.pop HS.out);rintro e P⟨rfl,-,G,U2⟩)
  have N:=Xh (U2.alloc (.cells #[.int .i64 u.kind,.int .i64 u.n] 43));have F:=Blk.new P 43 [.int .i64 u.kind,.int .i64 u.n];have H:∀r,QV C (.slice (some ⟨g,0,none⟩) ps.length cap) V ps _ r≠some P.heap.size:=fun r hr=>by have:=(U2.at'.lt r _ hr).2;omega
  have n4:¬P.heap.size=L:=fun e=>H (.has j) (by rw[e];exact HGp.out _)
  generalize hw3:P.alloc (.cells #[.int .i64 u.kind,.int .i64 u.n] 43)=w3 at *;generalize P.heap.size=M at *;have o:Hid (∀wx qx,MW R w1 X1 wx C B (.slice (some ⟨g,0,none⟩) ps.length cap) V ps (qs++[qx]) tv th st ov->Blk wx M 43 [.int .i64 u.kind,.int .i64 u.n]->wx.cell? ⟨C,0,none⟩=some (.map (some B))/\wx.cell? ⟨w.heap.size,4,none⟩=some (.string cls)/\wx.cell? ⟨w.heap.size,5,none⟩=some (.string A)/\wx.cell? ⟨M,0,none⟩=some (.int .i64 u.kind)/\wx.cell? ⟨M,1,none⟩=some (.int .i64 u.n)/\wx.cell? ⟨g,j*2+1,none⟩=some (.slice (some ⟨L,0,none⟩) x.has.length xk)):=fun wx qx U hb=>by
   obtain⟨-,k1,-⟩:=U.at'.at1 aB.out;exact⟨U.at'.cells.1,(E.out _ _ _ _ _ _ _ _ _ U).cell 4,(E.out _ _ _ _ _ _ _ _ _ U).cell 5,hb.cell 0,hb.cell 1,k1⟩
  have s:=Xh F;have y:=Xh H;obtain⟨c0,c1,c2,c3,c4,c5⟩:=o.out _ _ N.out F;clear F H hw3 U2 i0 i3 i4 i5;go_region_held3 (fun w'=>w'.cell? ⟨C,0,none⟩=some (.map (some B))/\w'.cell? ⟨w.heap.size,4,none⟩=some (.string cls)/\w'.cell? ⟨w.heap.size,5,none⟩=some (.string A)/\w'.cell? ⟨M,0,none⟩=some (.int .i64 u.kind)/\w'.cell? ⟨M,1,none⟩=some (.int .i64 u.n)/\w'.cell? ⟨g,j*2+1,none⟩=some (.slice (some ⟨L,0,none⟩) x.has.length xk)) (go_keep)
   (first
    |(go_fit (N.out.drew.pop rfl);rintro e w4⟨rfl,hc4,sv4,U4⟩;(have hb4:=(s.out.step Xb.drew).chg hc4 (fun O=>(Qao.xs O).elim fun r hr=>y.out r hr));obtain⟨z0,z1,z2,z3,z4,z5⟩:=o.out _ _ U4 hb4)
    |(go_fit (f.out _ _ U4);rintro e w5⟨rfl,hB5⟩;(have U5:=U4.step hB5);(have hb5:=hb4.step hB5);obtain⟨z0,z1,z2,z3,z4,z5⟩:=o.out _ _ U5 hb5)
    |(go_fit (HAt.out _ U5.at'.below);rintro e w6⟨rfl,hB6⟩;(have U6:=U5.step hB6);obtain⟨z0,z1,z2,z3,z4,z5⟩:=o.out _ _ U6 (hb5.step hB6);obtain⟨y0,y1,f0,f1,-⟩:=U6.at'.at2 aB.out HUa.out;(have s0:=(J.out w6 C 0 n1).trans z0);(have s1:=(J.out w6 w.heap.size 4 n3).trans z1);(have s2:=(J.out w6 w.heap.size 5 n3).trans z2);(have s3:=(J.out w6 M 0 n4).trans z3);(have s4:=(J.out w6 M 1 n4).trans z4);(have s5:=(J.out w6 g (j*2+1) n2).trans z5)))
  all_goals
   have U7:=U6.store aB.out HNl.out u;go_wp2_with fail;go_end0;exact⟨rfl,_,_,_,Z.out _ _ _ _ _ _ _ _ _ U7,HHs.out _⟩
theorem qdU(V w:World)(H B:Nat)(Z d:Value)(ps:List (Zc×Value))(qs:List Zs)(q:Zs)(f:Val)(g:Str)(j:Int)(k:Bool)(wr:World)(X:Nat->Prop)(T:MW V wr X w H B Z d ps (qs++[q]) f g j k)(o:ps.length<=50)(hn:q.c.S.length<=4194304)(a b:Int)(t cls name:Str)(w00:World)(l:List qa)(hm:Zi w00 V B l)(hk:Qg (Za l) t=0)(hT:qo (91::lst t)=true)(L:List Val)(v:Val)(hS:q.c.S=L++[v]):
 Calls Tryz.prog 89 #[.pointer (some ⟨H,0,none⟩),.pointer (some ⟨q.cb,0,none⟩),.agg #[.int .i64 18,.int .i64 a,.int .i64 b,.string t,.string cls,.string name]] w (Z6 V wr X H B d (ps.map (·.1)) qs q f g j k (if v.n<0\/10<v.n then .fault else qbD (ps.map (·.1)) (ZaC t v.n.toNat) L)):=by
 obtain⟨z,hw1⟩:∃z,w.alloc (.cells #[.int .i64 18,.int .i64 a,.int .i64 b,.string t,.string cls,.string name] 34)=z:=⟨_,rfl⟩;obtain⟨X1,U1,G,E,HXl,HS1,-⟩:=T.boxes hw1;have hfd:=ZaH;obtain⟨i0,-,-,i3,i4,i5⟩:=(E.out _ _ _ _ _ _ _ _ _ U1).cells6;have p:=Xh hw1;have s:=Xh U1;have HN:=Xh hn;clear U1 hw1 hn T;have HS:=Xh hS;have HTl:L.length<=4194304:=by have:=HN.out;rw[hS]at this;simp at this;omega
 obtain⟨vk,vn⟩:=v;dsimp only;by_cases h0:vn<0
 ·rw[if_pos (Or.inl h0)];have z0:decide (0<=vn)=false:=Xi (by omega);have I:Hid (∀wx,_):=fun wx=>qV wx
  clear h0 hS o hm hk hT;go_enter Tryz.func89,Tryz.ntmps89;go_upto_region 1 with fail;rw[p.out];go_wp2_with (first|(go_fit (s.out.pop HS.out);rintro e C⟨rfl,-,A,D⟩)|(go_fit (I.out _);rintro e w3⟨rfl,rfl⟩))
  exact⟨rfl,rfl,Z,ps,_,L,G.out _ _ _ _ _ _ _ _ _ D,rfl⟩
 have z0:decide (0<=vn)=true:=Xj (by omega);by_cases Y:10<vn
 ·rw[if_pos (Or.inr Y)];have z1:decide (vn<=10)=false:=Xi (by omega);have I:Hid (∀wx,_):=fun wx=>qV wx
  clear h0 Y hS o hm hk hT;go_enter Tryz.func89,Tryz.ntmps89;go_upto_region 1 with fail;rw[p.out];go_wp2_with (first|(go_fit (s.out.pop HS.out);rintro e C⟨rfl,-,A,D⟩)|(go_fit (I.out _);rintro e w3⟨rfl,rfl⟩))
  exact⟨rfl,rfl,Z,ps,_,L,G.out _ _ _ _ _ _ _ _ _ D,rfl⟩
 rw[if_neg (by omega)];have z1:decide (vn<=10)=true:=Xj (by omega);have I:Hid (∀wx,_):=fun wx=>Q8 wx
 obtain⟨m,rfl⟩:∃m:Nat,vn=(m:Int):=⟨vn.toNat,by omega⟩;have M:m<=10:=by omega
 have hks:t.size<=4194304:=Xf (qad hk) (by decide);obtain⟨el,aA,-,hdl⟩:=qeM hT;have x:(⟨#[91]⟩++t:ByteArray).size<=maxLen:=by rw[ByteArray.size_append];show 1+t.size<=_;unfold maxLen;omega
 have J:=Qe4 t;obtain⟨ak,hak⟩:∃ak,(⟨#[91]⟩++t:ByteArray)=ak:=⟨_,rfl⟩;rw[hak]at x J;have hcat:∀wx,(Op.stringOp .add ⟨#[91]⟩ t).run Tryz.prog wx=.ok (.string ak) wx:=fun wx=>by
  rw[<-hak];exact run_string_add_sum wx ⟨#[91]⟩ t (by show 1+t.size<=_;omega)
 have hmk:=zb3 m (by omega);have HX:Hid (ZaC t (m:Int).toNat=⟨ak,(List.replicate m t).map QF⟩):=by unfold Hid ZaC;rw[Int.toNat_natCast,QeM J,List.map_replicate]
 rw[HX.out];have N:=Qel (cs:=Za l) J aA hdl hk m;have O:=zem (cs:=Za l) J aA m;have P:Hid (∀C A,MW V z X1 C H B Z d ps (qs++[⟨q.cb,q.cv,q.hv,q.lv,A,{ q.c with S:=L }⟩]) f g j k->Calls Tryz.prog 82 #[.pointer (some ⟨H,0,none⟩),.agg #[.string ak,.slice (some ⟨C.heap.size,0,none⟩) m m]] (C.drew.alloc (.cells (Array.replicate (m*2) (Value.int .i64 0)) 43)) _):=fun C A D=>by
  have hown:=qcR C.drew m (by omega);exact zb6 w00 V _ H B Z d ps _ f g j k (D.drew.alloc _).at' l hm ak (.ar el) _ m m (QU hown (D.at'.size)) (fun r b hp e=>by
   have:=(D.at'.lt r b hp).2;have e:C.heap.size=b:=(by injection e);omega) N x (fun _ _=>M) _ O (by simp)
 unfold zb7 at P;have R:(ps.map (·.1)).length=ps.length:=List.length_map ..;have HFt:Hid (∀(y:Zc) (xv:Value),(ps++[(y,xv)]).map (·.1)=ps.map (·.1)++[y]):=fun y xv=>by rw[List.map_append];rfl
 have HWs:Hid (∀C A,MW V z X1 C H B Z d ps (qs++[⟨q.cb,q.cv,q.hv,q.lv,A,{ q.c with S:=L }⟩]) f g j k->z.heap.size<=C.heap.size):=fun C A U=>U.chg.size
 unfold qbD;rw[R];generalize hFT:(⟨ak,(List.replicate m t).map QF⟩:Zc)=FT at *;by_cases F:50<=ps.length
 ·rw[if_pos F];have HC:Hid (∀C A,MW V z X1 C H B Z d ps (qs++[⟨q.cb,q.cv,q.hv,q.lv,A,{ q.c with S:=L }⟩]) f g j k->Calls Tryz.prog 82 #[.pointer (some ⟨H,0,none⟩),.agg #[.string ak,.slice (some ⟨C.heap.size,0,none⟩) m m]] (C.drew.alloc (.cells (Array.replicate (m*2) (Value.int .i64 0)) 43)) fun e w'=>e=.panicked [zar 4]/\MW V z X1 w' H B Z d ps (qs++[⟨q.cb,q.cv,q.hv,q.lv,A,{ q.c with S:=L }⟩]) f g j k):=fun C A D=>(P.out C A D).mono fun e w' h=>by
   rcases h with⟨_,Y,h2⟩|⟨Y,_⟩
   ·exact⟨Y,(D.drew.alloc _).step h2⟩
   ·omega
  clear h0 Y hS hm hk hT P N O J x hak aA hdl hFT hks R o F M;go_enter Tryz.func89,Tryz.ntmps89;go_upto_region 1 with fail;rw[p.out];go_upto_region 7 with(first|(go_fit (s.out.pop HS.out);rintro e C⟨rfl,-,A,D⟩)|(go_fit (I.out _);rintro e w3⟨rfl,rfl⟩))
  have i32:C.cell? ⟨w.heap.size,3,none⟩=some (.string t):=(E.out _ _ _ _ _ _ _ _ _ D).cell 3;refine wp_region_held_drew (S:=fun w'=>w'.cell? ⟨w.heap.size,3,none⟩=some (.string t)) (by kernel_rfl) (i32) (fun hHeld=>?_);change wpAnyH _ _ _ _ _ 10 _ _ _;refine tkQ (i:=0) rfl hHeld ?_;try simp only[Act.put,Xa,Xc,Xd]
  refine tkQ (i:=1) rfl hHeld ?_;try simp only[Act.put,Xa,Xc,Xd]
  refine tkQ (i:=2) rfl hHeld ?_;try simp only[Act.put,Xa,Xc,Xd]
  refine tkQ (i:=3) rfl hHeld ?_;try simp only[Act.put,Xa,Xc,Xd]
  refine tkQ (i:=4) rfl hHeld ?_;try simp only[Act.put,Xa,Xc,Xd]
  refine tkQ (i:=5) rfl hHeld ?_;try simp only[Act.put,Xa,Xc,Xd]
  refine wpAnyH_ready (rs:=[6]) (fuel:=3) (by kernel_rfl) (by simp) ?_;refine AllReadyH.cons (i:=6) rfl (fun K hK=>?_) AllReadyH.nil;go_simp;refine hK.out _ _ (Lib.cell?_alloc_some _ i32) (fun hHeld=>?_);clear hK K;try dsimp only[Act.put]
  change wpAnyH _ _ _ _ _ 3 _ _ _;refine tkQ (i:=7) rfl hHeld ?_;try simp only[Act.put,Xa,Xc,Xd]
  refine wpAnyH_ready (rs:=[8]) (fuel:=1) (by kernel_rfl) (by simp) ?_;refine AllReadyH.cons (i:=8) rfl (fun K hK=>?_) AllReadyH.nil;go_simp;refine(HC.out C A D).mono ?_;rintro e w4⟨rfl,U4⟩;exact⟨rfl,rfl,(G.out _ _ _ _ _ _ _ _ _ U4).chg⟩
 ·rw[if_neg F];have HC:Hid (∀C A,MW V z X1 C H B Z d ps (qs++[⟨q.cb,q.cv,q.hv,q.lv,A,{ q.c with S:=L }⟩]) f g j k->Calls Tryz.prog 82 #[.pointer (some ⟨H,0,none⟩),.agg #[.string ak,.slice (some ⟨C.heap.size,0,none⟩) m m]] (C.drew.alloc (.cells (Array.replicate (m*2) (Value.int .i64 0)) 43)) fun e w'=>e=.returned (.agg #[.int .i64 3,.int .i64 ((ps.length:Int)+1)])/\∃hv',MW V z X1 w' H B hv' d (ps++[(FT,.slice (some ⟨C.heap.size,0,none⟩) m m)]) (qs++[⟨q.cb,q.cv,q.hv,q.lv,A,{ q.c with S:=L }⟩]) f g j k):=fun C A D=>(P.out C A D).mono fun e w' h=>by
   rcases h with⟨Y,_⟩|⟨_,Y,h2,hv',h3,h4⟩
   ·omega
   ·exact⟨Y,hv',(D.drew.alloc _).mored h2 (fun b e=>by
     have:=D.chg.size;have e:C.heap.size=b:=(by injection e);omega) h3 h4⟩
  clear h0 Y hS hm hk hT P N O J x hak aA hdl hFT hks R o F M;go_enter Tryz.func89,Tryz.ntmps89;go_upto_region 1 with fail;rw[p.out];go_upto_region 7 with(first|(go_fit (s.out.pop HS.out);rintro e C⟨rfl,-,A,D⟩)|(go_fit (I.out _);rintro e w3⟨rfl,rfl⟩))
  have i32:C.cell? ⟨w.heap.size,3,none⟩=some (.string t):=(E.out _ _ _ _ _ _ _ _ _ D).cell 3;go_region_held3 (fun w'=>w'.cell? ⟨w.heap.size,3,none⟩=some (.string t)) (go_keep)
   (first
    |(go_at_call 82;refine(HC.out _ _ D).mono ?_;rintro e w4⟨rfl,hv4,U4⟩;(have z3:=(E.out _ _ _ _ _ _ _ _ _ U4).cell 3))
    |(go_fit (U4.put HTl ⟨3,(ps.length:Int)+1⟩);rintro e w5⟨rfl,-,sv5,U5⟩;(have z5:=(E.out _ _ _ _ _ _ _ _ _ U5).cell 3)))
  all_goals
   go_wp2_with fail;go_end0;exact⟨rfl,_,_,_,G.out _ _ _ _ _ _ _ _ _ U5,HFt.out _ _⟩
theorem Zdz(O w:World)(J B:Nat)(hv cv:Value)(ps:List (Zc×Value))(qs:List Zs)(q:Zs)(tv:Val)(th:Str)(st:Int)(ov:Bool)(wr:World)(X:Nat->Prop)(T:MW O wr X w J B hv cv ps (qs++[q]) tv th st ov)(m:ps.length<=50)(hn:q.c.S.length<=4194304)(a b:Int)(t cls P:Str)(w00:World)(l:List qa)(hm:Zi w00 O B l)(hf:Qx (Za l) (ps.map (·.1))=0)(T0:List Val)(v z u:Val)(hS:q.c.S=T0++[v]++[z]++[u])(hj:0<v.n->v.n.toNat-1<ps.length)(hy:0<v.n->∃e,qd (.ar e)=lst (zl (ps.map (·.1)) v).type):
 Calls Tryz.prog 89 #[.pointer (some ⟨J,0,none⟩),.pointer (some ⟨q.cb,0,none⟩),.agg #[.int .i64 21,.int .i64 a,.int .i64 b,.string t,.string cls,.string P]] w (Z6 O wr X J B cv (ps.map (·.1)) qs q tv th st ov (if v.n<=0 then .fault else if z.n<0\/((zl (ps.map (·.1)) v).has.length:Int)<=z.n then .fault else if zm (Za l) (ps.map (·.1)) u (zde (Qy (zl (ps.map (·.1)) v).type)) then .ok (Qaz (ps.map (·.1)) v z.n.toNat u) T0 else .fault)):=by
 obtain⟨w1,hw1⟩:∃w1,w.alloc (.cells #[.int .i64 21,.int .i64 a,.int .i64 b,.string t,.string cls,.string P] 34)=w1:=⟨_,rfl⟩;obtain⟨X1,U1,s,Z,HXl,HS1,-⟩:=T.boxes hw1;have hfd:=ZaH;obtain⟨i0,-,-,i3,i4,i5⟩:=(Z.out _ _ _ _ _ _ _ _ _ U1).cells6;have HW1:=Xh hw1;have o:=Xh U1;have HN:=Xh hn;clear U1 hw1 hn T;have HS:=Xh hS;by_cases h0:v.n<=0
 ·rw[if_pos h0];have Y:Hid (∀G R L,MW O G R G J B hv cv ps (qs++[(⟨q.cb,q.cv,q.hv,q.lv,L,{ q.c with S:=T0++[v]++[z] }⟩:Zs)]) tv th st ov->_):=fun G R L N=>N.elemN rfl h0 m
  clear h0 hj hS m hm hf hy;go_enter Tryz.func89,Tryz.ntmps89;go_upto_region 1 with fail;rw[HW1.out];go_upto_region 20 with(go_fit (o.out.pop HS.out);rintro e w2⟨rfl,-,L,U2⟩)
  obtain⟨G,H⟩:∃G,w2.alloc (.cells #[.int .i64 u.kind,.int .i64 u.n] 43)=G:=⟨_,rfl⟩;obtain⟨R,N,I,F,-⟩:=U2.boxes H;have r:Hid (∀w' A C D E tv' th' st' ov',MW O G R w' J B A C D E tv' th' st' ov'->MW O wr X w' J B A C D E tv' th' st' ov'):=fun w' A C D E tv' th' st' ov' U=>s.out _ _ _ _ _ _ _ _ _ (I.out _ _ _ _ _ _ _ _ _ U)
  have HBx:Hid (∀w' A C D E tv' th' st' ov',MW O G R w' J B A C D E tv' th' st' ov'->Blk w' w.heap.size 34 [.int .i64 21,.int .i64 a,.int .i64 b,.string t,.string cls,.string P]):=fun w' A C D E tv' th' st' ov' U=>Z.out _ _ _ _ _ _ _ _ _ (I.out _ _ _ _ _ _ _ _ _ U)
  have v0:=(F.out _ _ _ _ _ _ _ _ _ N).cell 0;have v1:=(F.out _ _ _ _ _ _ _ _ _ N).cell 1;rw[H];generalize w2.heap.size=vb at *;clear H I U2;go_wp2_with (go_fit (Y.out _ _ _ N);rintro e w4⟨rfl,sv4,f⟩)
  exact⟨rfl,rfl,hv,ps,_,T0,r.out _ _ _ _ _ _ _ _ _ f,rfl⟩
 rw[if_neg h0];obtain⟨j,V⟩:∃j:Nat,v.n=(j:Int)+1:=⟨v.n.toNat-1,by omega⟩;have hjl:j<ps.length:=by have:=hj (by omega);omega
 obtain⟨⟨x,xv⟩,y⟩:∃p,ps[j]? = some p:=⟨_,Xn hjl⟩;rw[QK y V]at hy ⊢;obtain⟨ey,hey⟩:=hy (by omega);obtain⟨g,cap,rfl,-,-,-,⟨xp,xk,rfl⟩,-⟩:=o.out.at'.thingAt y;by_cases h1:z.n<0\/(x.has.length:Int)<=z.n
 ·rw[if_pos h1];have Y:Hid (∀G R L,MW O G R G J B (.slice (some ⟨g,0,none⟩) ps.length cap) cv ps (qs++[(⟨q.cb,q.cv,q.hv,q.lv,L,{ q.c with S:=T0++[v]++[z] }⟩:Zs)]) tv th st ov->_):=fun G R L N=>N.elemO rfl V y h1 m
  clear h0 hj hS m hm hf hy V hjl y h1 hey;go_enter Tryz.func89,Tryz.ntmps89;go_upto_region 1 with fail;rw[HW1.out];go_upto_region 20 with(go_fit (o.out.pop HS.out);rintro e w2⟨rfl,-,L,U2⟩)
  obtain⟨G,H⟩:∃G,w2.alloc (.cells #[.int .i64 u.kind,.int .i64 u.n] 43)=G:=⟨_,rfl⟩;obtain⟨R,N,I,F,-⟩:=U2.boxes H;have r:Hid (∀w' A C D E tv' th' st' ov',MW O G R w' J B A C D E tv' th' st' ov'->MW O wr X w' J B A C D E tv' th' st' ov'):=fun w' A C D E tv' th' st' ov' U=>s.out _ _ _ _ _ _ _ _ _ (I.out _ _ _ _ _ _ _ _ _ U)
  have HBx:Hid (∀w' A C D E tv' th' st' ov',MW O G R w' J B A C D E tv' th' st' ov'->Blk w' w.heap.size 34 [.int .i64 21,.int .i64 a,.int .i64 b,.string t,.string cls,.string P]):=fun w' A C D E tv' th' st' ov' U=>Z.out _ _ _ _ _ _ _ _ _ (I.out _ _ _ _ _ _ _ _ _ U)
  have v0:=(F.out _ _ _ _ _ _ _ _ _ N).cell 0;have v1:=(F.out _ _ _ _ _ _ _ _ _ N).cell 1;rw[H];generalize w2.heap.size=vb at *;clear H I U2;go_wp2_with (go_fit (Y.out _ _ _ N);rintro e w4⟨rfl,sv4,f⟩)
  exact⟨rfl,rfl,_,ps,_,T0,r.out _ _ _ _ _ _ _ _ _ f,rfl⟩
 rw[if_neg h1];obtain⟨n,hn⟩:∃n:Nat,z.n=(n:Int):=⟨z.n.toNat,by omega⟩;have hnl:n<x.has.length:=by omega
 have Y:Hid (∀G R L,MW O G R G J B (.slice (some ⟨g,0,none⟩) ps.length cap) cv ps (qs++[(⟨q.cb,q.cv,q.hv,q.lv,L,{ q.c with S:=T0++[v]++[z] }⟩:Zs)]) tv th st ov->_):=fun G R L N=>N.elemY rfl V y rfl (by omega) (by omega) m
 rw[hn]at Y;rw[show z.n.toNat=n by omega];obtain⟨hz1,hz2,hz3⟩:=Z2 hf;have hxs:x.type.size<=maxLen:=ZaO hz2 x (by rw[<-QK y V];exact Zbr y V);obtain⟨ta,tas,hsz1⟩:=qaC hey;have hel:zde (Qy x.type)=ey:=by rw[QR hey];rfl
 rw[hel];have HD:Hid (∀wx q',Zk O wx J B (.slice (some ⟨g,0,none⟩) ps.length cap) cv ps q' tv th st ov->Calls Tryz.prog 29 #[.map (some B),.agg #[(.slice (some ⟨g,0,none⟩) ps.length cap)],.agg #[.int .i64 u.kind,.int .i64 u.n],.string (x.type.extract 1 x.type.size)] wx fun e w'=>e=.returned (.bool (zm (Za l) (ps.map (·.1)) u ey))/\Below wx.heap.size wx w'):=fun wx q' M =>
  qbR w00 wx B l (hm.step M.below) (ps.map (·.1)) _ (M.thingsAt) (Zc9 hz2) (ZaO hz2) u _ ey ta (Xf tas hxs)
 have hsi:(1:Int)<=(x.type.size:Int):=by omega
 generalize hxa:x.type.extract 1 x.type.size=ex at *;generalize zm (Za l) (ps.map (·.1)) u ey=ok at *;have HXa:=Xh y;have HG:Hid (∀wx q',Zk O wx J B (.slice (some ⟨g,0,none⟩) ps.length cap) cv ps q' tv th st ov->wx.cell? ⟨J,0,none⟩=some (.map (some B))/\wx.cell? ⟨J,1,none⟩=some (.slice (some ⟨g,0,none⟩) ps.length cap)/\wx.cell? ⟨g,j*2,none⟩=some (.string x.type)):=fun wx q' M=>⟨M.cells.1,M.cells.2.1,(M.at1 y).1⟩
 cases ok with
 |false =>
  rw[if_neg (by decide)];have HNe:Hid (∀wx,_):=fun wx=>qV wx
  clear h0 hj hS m hm hf hy V hjl y h1 hey hn hnl hz1 hz2 hz3 ta tas hel;go_enter Tryz.func89,Tryz.ntmps89;go_upto_region 1 with fail;rw[HW1.out];go_upto_region 20 with(go_fit (o.out.pop HS.out);rintro e w2⟨rfl,-,L,U2⟩)
  obtain⟨G,H⟩:∃G,w2.alloc (.cells #[.int .i64 u.kind,.int .i64 u.n] 43)=G:=⟨_,rfl⟩;obtain⟨R,N,I,F,-⟩:=U2.boxes H;have r:Hid (∀w' A C D E tv' th' st' ov',MW O G R w' J B A C D E tv' th' st' ov'->MW O wr X w' J B A C D E tv' th' st' ov'):=fun w' A C D E tv' th' st' ov' U=>s.out _ _ _ _ _ _ _ _ _ (I.out _ _ _ _ _ _ _ _ _ U)
  have HBx:Hid (∀w' A C D E tv' th' st' ov',MW O G R w' J B A C D E tv' th' st' ov'->Blk w' w.heap.size 34 [.int .i64 21,.int .i64 a,.int .i64 b,.string t,.string cls,.string P]):=fun w' A C D E tv' th' st' ov' U=>Z.out _ _ _ _ _ _ _ _ _ (I.out _ _ _ _ _ _ _ _ _ U)
  have v0:=(F.out _ _ _ _ _ _ _ _ _ N).cell 0;have v1:=(F.out _ _ _ _ _ _ _ _ _ N).cell 1;rw[H];generalize w2.heap.size=vb at *;clear H I U2;go_upto_region 21 with(go_fit (Y.out _ _ _ N);rintro e w4⟨rfl,sv4,f⟩)
  obtain⟨y0,y1,y2⟩:=HG.out _ _ f.at';have y3:=(F.out _ _ _ _ _ _ _ _ _ f).cell 0;have y4:=(F.out _ _ _ _ _ _ _ _ _ f).cell 1;refine wp_region_held_drew (S:=fun w'=>w'.cell? ⟨J,0,none⟩=some (.map (some B))/\w'.cell? ⟨J,1,none⟩=some (.slice (some ⟨g,0,none⟩) ps.length cap)/\w'.cell? ⟨g,j*2,none⟩=some (.string x.type)/\w'.cell? ⟨vb,0,none⟩=some (.int .i64 u.kind)/\w'.cell? ⟨vb,1,none⟩=some (.int .i64 u.n)) (by kernel_rfl) (⟨y0,y1,y2,y3,y4⟩) (fun hHeld=>?_);change wpAnyH _ _ _ _ _ 16 _ _ _;refine tkQ (i:=0) rfl hHeld ?_;try simp only[Act.put,Xa,Xc,Xd]
  refine tkQ (i:=1) rfl hHeld ?_;try simp only[Act.put,Xa,Xc,Xd]
  refine tkQ (i:=2) rfl hHeld ?_;try simp only[Act.put,Xa,Xc,Xd]
  refine tkQ (i:=3) rfl hHeld ?_;try simp only[Act.put,Xa,Xc,Xd]
  refine tkQ (i:=4) rfl hHeld ?_;try simp only[Act.put,Xa,Xc,Xd]
  refine tkQ (i:=5) rfl hHeld ?_;try simp only[Act.put,Xa,Xc,Xd]
  refine tkQ (i:=6) rfl hHeld ?_;try simp only[Act.put,Xa,Xc,Xd]
  refine tkQ (i:=7) rfl hHeld ?_;try simp only[Act.put,Xa,Xc,Xd]
  refine tkQ (i:=8) rfl hHeld ?_;try simp only[Act.put,Xa,Xc,Xd]
  refine tkQ (i:=9) rfl hHeld ?_;try simp only[Act.put,Xa,Xc,Xd]
  refine tkQ (i:=10) rfl hHeld ?_;try simp only[Act.put,Xa,Xc,Xd]
  refine tkQ (i:=11) rfl hHeld ?_;try simp only[Act.put,Xa,Xc,Xd]
  refine tkQ (i:=12) rfl hHeld ?_;try simp only[Act.put,Xa,Xc,Xd]
  refine tkQ (i:=13) rfl hHeld ?_;try simp only[Act.put,Xa,Xc,Xd]
  refine wpAnyH_ready (rs:=[14]) (fuel:=1) (by kernel_rfl) (by simp) ?_;refine AllReadyH.cons (i:=14) rfl (fun K hK=>?_) AllReadyH.nil;go_simp;refine(HD.out _ _ f.drew.at').mono ?_;rintro e w5⟨rfl,hB5⟩;have d:=f.drew.step hB5;obtain⟨x0,x1,x2⟩:=HG.out _ _ d.at';refine hK.out _ _ (⟨x0,x1,x2,(F.out _ _ _ _ _ _ _ _ _ d).cell 0,(F.out _ _ _ _ _ _ _ _ _ d).cell 1⟩) (fun hHeld=>?_);clear hK K;try dsimp only[Act.put]
  refine wpAnyH_ready (rs:=[15]) (fuel:=0) (by kernel_rfl) (by simp) ?_;refine AllReadyH.cons (i:=15) rfl (fun K hK=>?_) AllReadyH.nil;go_simp;refine(HNe.out _).mono ?_;rintro e w6⟨rfl,rfl⟩;exact⟨rfl,rfl,_,ps,_,T0,r.out _ _ _ _ _ _ _ _ _ d,rfl⟩
 |true =>
  rw[if_pos rfl];have HNe:Hid (∀wx,_):=fun wx=>Q8 wx
  have HHs:=Xh (qcC y V n u);obtain⟨u0,hu⟩:∃u,x.has[n]? = some u:=⟨_,Xn hnl⟩;obtain⟨gx,xk',hex⟩:=o.out.at'.rowAt y hu;obtain⟨rfl,rfl⟩:xp=some ⟨gx,0,none⟩/\xk=xk':=by simpa using hex
  have HGp:Hid (∀q',QV J (.slice (some ⟨g,0,none⟩) ps.length cap) cv ps q' (.has j)=some gx):=fun q'=>by show(ps[j]?).bind _=_;rw[y];rfl
  have n2:¬g=gx:=fun e=>by cases o.out.at'.sep .hs (.has j) g rfl (by rw[e];exact HGp.out (qs++[q]))
  have HUa:=Xh hu;have HNl:=Xh hnl;have i1:(0:Int)<=(n:Int):=by omega
  have i2:(n:Int)<(x.has.length:Int):=by omega
  clear h0 hj hS m hm hf hy V hjl y h1 hey hn hnl hz1 hz2 hz3 ta tas hel hu hex;go_enter Tryz.func89,Tryz.ntmps89;go_upto_region 1 with fail;rw[HW1.out];go_upto_region 20 with(go_fit (o.out.pop HS.out);rintro e w2⟨rfl,-,L,U2⟩)
  have n4:¬w2.heap.size=gx:=fun e=>by have:=(U2.at'.lt (.has j) gx (HGp.out _)).2;omega
  obtain⟨G,H⟩:∃G,w2.alloc (.cells #[.int .i64 u.kind,.int .i64 u.n] 43)=G:=⟨_,rfl⟩;obtain⟨R,N,I,F,-⟩:=U2.boxes H;have r:Hid (∀w' A C D E tv' th' st' ov',MW O G R w' J B A C D E tv' th' st' ov'->MW O wr X w' J B A C D E tv' th' st' ov'):=fun w' A C D E tv' th' st' ov' U=>s.out _ _ _ _ _ _ _ _ _ (I.out _ _ _ _ _ _ _ _ _ U)
  have HBx:Hid (∀w' A C D E tv' th' st' ov',MW O G R w' J B A C D E tv' th' st' ov'->Blk w' w.heap.size 34 [.int .i64 21,.int .i64 a,.int .i64 b,.string t,.string cls,.string P]):=fun w' A C D E tv' th' st' ov' U=>Z.out _ _ _ _ _ _ _ _ _ (I.out _ _ _ _ _ _ _ _ _ U)
  have v0:=(F.out _ _ _ _ _ _ _ _ _ N).cell 0;have v1:=(F.out _ _ _ _ _ _ _ _ _ N).cell 1;rw[H];generalize w2.heap.size=vb at *;clear H I U2;go_upto_region 21 with(go_fit (Y.out _ _ _ N);rintro e w4⟨rfl,sv4,f⟩)
  obtain⟨y0,y1,y2⟩:=HG.out _ _ f.at';have y3:=(F.out _ _ _ _ _ _ _ _ _ f).cell 0;have y4:=(F.out _ _ _ _ _ _ _ _ _ f).cell 1;refine wp_region_held_drew (S:=fun w'=>w'.cell? ⟨J,0,none⟩=some (.map (some B))/\w'.cell? ⟨J,1,none⟩=some (.slice (some ⟨g,0,none⟩) ps.length cap)/\w'.cell? ⟨g,j*2,none⟩=some (.string x.type)/\w'.cell? ⟨vb,0,none⟩=some (.int .i64 u.kind)/\w'.cell? ⟨vb,1,none⟩=some (.int .i64 u.n)) (by kernel_rfl) (⟨y0,y1,y2,y3,y4⟩) (fun hHeld=>?_);change wpAnyH _ _ _ _ _ 16 _ _ _;refine tkQ (i:=0) rfl hHeld ?_;try simp only[Act.put,Xa,Xc,Xd]
  refine tkQ (i:=1) rfl hHeld ?_;try simp only[Act.put,Xa,Xc,Xd]
  refine tkQ (i:=2) rfl hHeld ?_;try simp only[Act.put,Xa,Xc,Xd]
  refine tkQ (i:=3) rfl hHeld ?_;try simp only[Act.put,Xa,Xc,Xd]
  refine tkQ (i:=4) rfl hHeld ?_;try simp only[Act.put,Xa,Xc,Xd]
  refine tkQ (i:=5) rfl hHeld ?_;try simp only[Act.put,Xa,Xc,Xd]
  refine tkQ (i:=6) rfl hHeld ?_;try simp only[Act.put,Xa,Xc,Xd]
  refine tkQ (i:=7) rfl hHeld ?_;try simp only[Act.put,Xa,Xc,Xd]
  refine tkQ (i:=8) rfl hHeld ?_;try simp only[Act.put,Xa,Xc,Xd]
  refine tkQ (i:=9) rfl hHeld ?_;try simp only[Act.put,Xa,Xc,Xd]
  refine tkQ (i:=10) rfl hHeld ?_;try simp only[Act.put,Xa,Xc,Xd]
  refine tkQ (i:=11) rfl hHeld ?_;try simp only[Act.put,Xa,Xc,Xd]
  refine tkQ (i:=12) rfl hHeld ?_;try simp only[Act.put,Xa,Xc,Xd]
  refine tkQ (i:=13) rfl hHeld ?_;try simp only[Act.put,Xa,Xc,Xd]
  refine wpAnyH_ready (rs:=[14]) (fuel:=1) (by kernel_rfl) (by simp) ?_;refine AllReadyH.cons (i:=14) rfl (fun K hK=>?_) AllReadyH.nil;go_simp;refine(HD.out _ _ f.drew.at').mono ?_;rintro e w5⟨rfl,hB5⟩;have d:=f.drew.step hB5;obtain⟨x0,x1,x2⟩:=HG.out _ _ d.at';refine hK.out _ _ (⟨x0,x1,x2,(F.out _ _ _ _ _ _ _ _ _ d).cell 0,(F.out _ _ _ _ _ _ _ _ _ d).cell 1⟩) (fun hHeld=>?_);clear hK K;try dsimp only[Act.put]
  refine wpAnyH_ready (rs:=[15]) (fuel:=0) (by kernel_rfl) (by simp) ?_;refine AllReadyH.cons (i:=15) rfl (fun K hK=>?_) AllReadyH.nil;go_simp;refine(HNe.out _).mono ?_;rintro e w6⟨rfl,rfl⟩;refine hK.out _ _ (⟨x0,x1,x2,(F.out _ _ _ _ _ _ _ _ _ d).cell 0,(F.out _ _ _ _ _ _ _ _ _ d).cell 1⟩) (fun hHeld=>?_);clear hK K;try dsimp only[Act.put]
  refine wpAnyH_done (by kernel_rfl) ?_ _;clear hHeld;clear y0 y1 y2 y3 y4 x0 x1 x2 Y HD HNe;have z0:=(d.at'.at1 HXa.out).2.1;have z1:=(F.out _ _ _ _ _ _ _ _ _ d).cell 0;have z2:=(F.out _ _ _ _ _ _ _ _ _ d).cell 1;obtain⟨y0,y1,f0,f1,-⟩:=d.at'.at2 HXa.out HUa.out;have HC2:Hid (∀(wx:World) (b k:Nat),¬b=gx->((wx.setCell ⟨gx,n*2,none⟩ (.int .i64 u.kind)).setCell ⟨gx,n*2+1,none⟩ (.int .i64 u.n)).cell? ⟨b,k,none⟩=wx.cell? ⟨b,k,none⟩):=fun wx b k h=>(World.cell?_setCell_far _ _ _ _ (fun e=>h e.symm)).trans (World.cell?_setCell_far _ _ _ _ (fun e=>h e.symm))
  have HU7:=Xh (d.store HXa.out HNl.out u).drew;have s0:=(HC2.out w5 g (j*2+1) n2).trans z0;have s1:=(HC2.out w5 vb 0 n4).trans z1;have s2:=(HC2.out w5 vb 1 n4).trans z2;clear d f N;go_upto_region 22 with fail;go_region_held3 (fun w'=>w'.cell? ⟨g,j*2+1,none⟩=some (.slice (some ⟨gx,0,none⟩) x.has.length xk)/\w'.cell? ⟨vb,0,none⟩=some (.int .i64 u.kind)/\w'.cell? ⟨vb,1,none⟩=some (.int .i64 u.n)) (go_keep)
   (first|(fail))
  all_goals
   go_wp2_with fail;go_end0;exact⟨rfl,_,_,_,r.out _ _ _ _ _ _ _ _ _ HU7.out,HHs.out _⟩
theorem qew(O w:World)(M B:Nat)(hv cv:Value)(ps:List (Zc×Value))(qs:List Zs)(q:Zs)(tv:Val)(th:Str)(st:Int)(ov:Bool)(wr:World)(X:Nat->Prop)(T:MW O wr X w M B hv cv ps (qs++[q]) tv th st ov)(z:ps.length<=50)(hn:q.c.S.length<=4194304)(a b:Int)(t cls N:Str)(w00:World)(l:List qa)(hm:Zi w00 O B l)(hf:Qx (Za l) (ps.map (·.1))=0)(hk:Qg (Za l) t=0)(ty:Ty)(aA:qd ty=lst t)(L:List Val)(v:Val)(hS:q.c.S=L++[v])(hj:0<v.n->v.n.toNat-1<ps.length):
 Calls Tryz.prog 89 #[.pointer (some ⟨M,0,none⟩),.pointer (some ⟨q.cb,0,none⟩),.agg #[.int .i64 22,.int .i64 a,.int .i64 b,.string t,.string cls,.string N]] w (Z6 O wr X M B cv (ps.map (·.1)) qs q tv th st ov (if v.n=0 then .ok (ps.map (·.1)) q.c.S else if v.n<0 then .fault else if ZA (Za l) (Qy (zl (ps.map (·.1)) v).type) (Qy t) then .ok (ps.map (·.1)) q.c.S else .fault)):=by
 obtain⟨m,hw1⟩:∃m,w.alloc (.cells #[.int .i64 22,.int .i64 a,.int .i64 b,.string t,.string cls,.string N] 34)=m:=⟨_,rfl⟩;obtain⟨X1,U1,s,Z,HXl,HS1,-⟩:=T.boxes hw1;have hfd:=ZaH;obtain⟨i0,-,-,i3,i4,i5⟩:=(Z.out _ _ _ _ _ _ _ _ _ U1).cells6;have HW1:=Xh hw1;have P:=Xh U1;have HN:=Xh hn;clear U1 hw1 hn T;have hx0:q.c.S[L.length]? = some v:=by rw[hS];simp
 have hlen:q.c.S.length=L.length+1:=by rw[hS];simp
 have HCa:=Xh P.out.at'.top;obtain⟨o,d,hsv,hgs,y0,y1,_,_⟩:=ZbK P.out.at'.top.stack hx0;have q11:m.cell? ⟨q.cb,11,none⟩=some (.slice (some ⟨o,0,none⟩) (L.length+1) d):=by rw[<-hlen,<-hsv];exact P.out.at'.top.blk.cell 11
 have hcl:=P.out.at'.top.blk.lt;have hi1:(0:Int)<=(L.length:Int):=by omega
 have hi2:(L.length:Int)<(L.length:Int)+1:=by omega
 have hTl:L.length<=4194304:=by have:=HN.out;omega
 have z3:IntKind.i64.wrap (L.length:Int)=(L.length:Int):=IntWalk.i64_in _ (by omega);have n1:¬m.heap.size=q.cb:=by omega
 have n2:¬m.heap.size=o:=by omega
 have n3:¬q.cb=m.heap.size:=by omega
 have n4:¬o=m.heap.size:=by omega
 clear hx0 hlen hsv hgs hcl hTl;by_cases h0:v.n=0
 ·rw[if_pos h0];have z0:(v.n==0)=true:=by simpa using h0
  have aB:Hid (∀wx,_):=fun wx=>Q8 wx
  clear h0 hj hS z hm hf aA hk;go_enter Tryz.func89,Tryz.ntmps89;go_upto_region 1 with fail;rw[HW1.out];go_upto_region 24 with fail;go_region_held3 (fun w'=>w'.cell? ⟨q.cb,11,none⟩=some (.slice (some ⟨o,0,none⟩) (L.length+1) d)/\w'.cell? ⟨o,L.length*2,none⟩=some (.int .i64 v.kind)/\w'.cell? ⟨o,L.length*2+1,none⟩=some (.int .i64 v.n)) (go_keep)
   (first|(fail))
  go_upto_region 25 with fail;obtain⟨R,G⟩:∃R,m.alloc (.cells #[.int .i64 v.kind,.int .i64 v.n] 43)=R:=⟨_,rfl⟩;obtain⟨f,I,H,A,-⟩:=P.out.boxes G;have h:Hid (∀w' C D E F tv' th' st' ov',MW O R f w' M B C D E F tv' th' st' ov'->MW O wr X w' M B C D E F tv' th' st' ov'):=fun w' C D E F tv' th' st' ov' U=>s.out _ _ _ _ _ _ _ _ _ (H.out _ _ _ _ _ _ _ _ _ U)
  have J:Hid (∀w' C D E F tv' th' st' ov',MW O R f w' M B C D E F tv' th' st' ov'->Blk w' w.heap.size 34 [.int .i64 22,.int .i64 a,.int .i64 b,.string t,.string cls,.string N]):=fun w' C D E F tv' th' st' ov' U=>Z.out _ _ _ _ _ _ _ _ _ (H.out _ _ _ _ _ _ _ _ _ U)
  have v0:=(A.out _ _ _ _ _ _ _ _ _ I).cell 0;have v1:=(A.out _ _ _ _ _ _ _ _ _ I).cell 1;rw[G];generalize m.heap.size=vb at *;clear G H;refine wp_region_held_drew (S:=fun w'=>w'.cell? ⟨vb,1,none⟩=some (.int .i64 v.n)) (by kernel_rfl) (v1) (fun hHeld=>?_);change wpAnyH _ _ _ _ _ 19 _ _ _;refine tkQ (i:=0) rfl hHeld ?_;try simp only[Act.put,Xa,Xc,Xd]
  refine tkQ (i:=1) rfl hHeld ?_;try simp only[Act.put,Xa,Xc,Xd]
  refine tkQ (i:=2) rfl hHeld ?_;try simp only[Act.put,Xa,Xc,Xd]
  refine tkQ (i:=3) rfl hHeld ?_;try simp only[Act.put,Xa,Xc,Xd]
  refine tkP (i:=4) rfl hHeld ?_;try simp only[Act.put,Xa,Xc,Xd]
  refine tkP (i:=5) rfl hHeld ?_;try simp only[Act.put,Xa,Xc,Xd]
  refine tkP (i:=6) rfl hHeld ?_;try simp only[Act.put,Xa,Xc,Xd]
  refine tkP (i:=7) rfl hHeld ?_;try simp only[Act.put,Xa,Xc,Xd]
  refine tkP (i:=8) rfl hHeld ?_;try simp only[Act.put,Xa,Xc,Xd]
  refine tkP (i:=9) rfl hHeld ?_;try simp only[Act.put,Xa,Xc,Xd]
  refine tkP (i:=10) rfl hHeld ?_;try simp only[Act.put,Xa,Xc,Xd]
  refine tkP (i:=11) rfl hHeld ?_;try simp only[Act.put,Xa,Xc,Xd]
  refine tkP (i:=12) rfl hHeld ?_;try simp only[Act.put,Xa,Xc,Xd]
  refine tkP (i:=13) rfl hHeld ?_;try simp only[Act.put,Xa,Xc,Xd]
  refine tkP (i:=14) rfl hHeld ?_;try simp only[Act.put,Xa,Xc,Xd]
  refine tkP (i:=15) rfl hHeld ?_;try simp only[Act.put,Xa,Xc,Xd]
  refine tkP (i:=16) rfl hHeld ?_;try simp only[Act.put,Xa,Xc,Xd]
  refine tkQ (i:=17) rfl hHeld ?_;try simp only[Act.put,Xa,Xc,Xd]
  refine wpAnyH_ready (rs:=[18]) (fuel:=0) (by kernel_rfl) (by simp) ?_;refine AllReadyH.cons (i:=18) rfl (fun K V=>?_) AllReadyH.nil;go_simp;refine(aB.out _).mono ?_;rintro e w6⟨rfl,rfl⟩;refine V.out _ _ (v1) (fun hHeld=>?_);clear V K;try dsimp only[Act.put]
  refine wpAnyH_done (by kernel_rfl) ?_ _;clear hHeld;go_wp2_with fail;go_end0;exact⟨rfl,_,ps,_,h.out _ _ _ _ _ _ _ _ _ I.drew.drew,rfl⟩
 rw[if_neg h0];have z0:(v.n==0)=false:=by simpa using h0
 by_cases h1:v.n<0
 ·rw[if_pos h1];have HTh:Hid (∀wx aC f,MW O aC f wx M B hv cv ps (qs++[q]) tv th st ov->_):=fun wx aC f U=>U.thing_no v (Int.le_of_lt h1)
  clear h0 h1 hj hS z hm hf aA hk;go_enter Tryz.func89,Tryz.ntmps89;go_upto_region 1 with fail;rw[HW1.out];go_upto_region 24 with fail;go_region_held3 (fun w'=>w'.cell? ⟨q.cb,11,none⟩=some (.slice (some ⟨o,0,none⟩) (L.length+1) d)/\w'.cell? ⟨o,L.length*2,none⟩=some (.int .i64 v.kind)/\w'.cell? ⟨o,L.length*2+1,none⟩=some (.int .i64 v.n)) (go_keep)
   (first|(fail))
  go_upto_region 25 with fail;obtain⟨R,G⟩:∃R,m.alloc (.cells #[.int .i64 v.kind,.int .i64 v.n] 43)=R:=⟨_,rfl⟩;obtain⟨f,I,H,A,-⟩:=P.out.boxes G;have h:Hid (∀w' C D E F tv' th' st' ov',MW O R f w' M B C D E F tv' th' st' ov'->MW O wr X w' M B C D E F tv' th' st' ov'):=fun w' C D E F tv' th' st' ov' U=>s.out _ _ _ _ _ _ _ _ _ (H.out _ _ _ _ _ _ _ _ _ U)
  have J:Hid (∀w' C D E F tv' th' st' ov',MW O R f w' M B C D E F tv' th' st' ov'->Blk w' w.heap.size 34 [.int .i64 22,.int .i64 a,.int .i64 b,.string t,.string cls,.string N]):=fun w' C D E F tv' th' st' ov' U=>Z.out _ _ _ _ _ _ _ _ _ (H.out _ _ _ _ _ _ _ _ _ U)
  have v0:=(A.out _ _ _ _ _ _ _ _ _ I).cell 0;have v1:=(A.out _ _ _ _ _ _ _ _ _ I).cell 1;rw[G];generalize m.heap.size=vb at *;clear G H;refine wp_region_held_drew (S:=fun w'=>w'.cell? ⟨M,0,none⟩=some (.map (some B))/\w'.cell? ⟨w.heap.size,3,none⟩=some (.string t)/\w'.cell? ⟨vb,0,none⟩=some (.int .i64 v.kind)/\w'.cell? ⟨vb,1,none⟩=some (.int .i64 v.n)) (by kernel_rfl) (⟨I.at'.cells.1,(J.out _ _ _ _ _ _ _ _ _ I).cell 3,(A.out _ _ _ _ _ _ _ _ _ I).cell 0,(A.out _ _ _ _ _ _ _ _ _ I).cell 1⟩) (fun hHeld=>?_);change wpAnyH _ _ _ _ _ 19 _ _ _;refine tkQ (i:=0) rfl hHeld ?_;try simp only[Act.put,Xa,Xc,Xd]
  refine tkQ (i:=1) rfl hHeld ?_;try simp only[Act.put,Xa,Xc,Xd]
  refine tkQ (i:=2) rfl hHeld ?_;try simp only[Act.put,Xa,Xc,Xd]
  refine tkQ (i:=3) rfl hHeld ?_;try simp only[Act.put,Xa,Xc,Xd]
  refine tkQ (i:=4) rfl hHeld ?_;try simp only[Act.put,Xa,Xc,Xd]
  refine tkQ (i:=5) rfl hHeld ?_;try simp only[Act.put,Xa,Xc,Xd]
  refine tkQ (i:=6) rfl hHeld ?_;try simp only[Act.put,Xa,Xc,Xd]
  refine tkQ (i:=7) rfl hHeld ?_;try simp only[Act.put,Xa,Xc,Xd]
  refine tkQ (i:=8) rfl hHeld ?_;try simp only[Act.put,Xa,Xc,Xd]
  refine tkQ (i:=9) rfl hHeld ?_;try simp only[Act.put,Xa,Xc,Xd]
  refine tkQ (i:=14) rfl hHeld ?_;try simp only[Act.put,Xa,Xc,Xd]
  refine tkQ (i:=15) rfl hHeld ?_;try simp only[Act.put,Xa,Xc,Xd]
  refine wpAnyH_ready (rs:=[10]) (fuel:=6) (by kernel_rfl) (by simp) ?_;refine AllReadyH.cons (i:=10) rfl (fun K V=>?_) AllReadyH.nil;go_simp;refine(HTh.out _ _ _ I.drew.drew).mono ?_;rintro e w6⟨rfl,U6⟩;exact⟨rfl,rfl,hv,ps,_,_,h.out _ _ _ _ _ _ _ _ _ U6,rfl⟩
 rw[if_neg h1];obtain⟨j,y⟩:∃j:Nat,v.n=(j:Int)+1:=⟨v.n.toNat-1,by omega⟩;have hjl:j<ps.length:=by have:=hj (by omega);omega
 obtain⟨⟨x,xv⟩,hx⟩:∃p,ps[j]? = some p:=⟨_,Xn hjl⟩;rw[QK hx y];obtain⟨g,cap,rfl,-,-,-,⟨xp,xk,rfl⟩,-⟩:=P.out.at'.thingAt hx;have HTh:Hid (∀wx aC f,MW O aC f wx M B (.slice (some ⟨g,0,none⟩) ps.length cap) cv ps (qs++[q]) tv th st ov->_):=fun wx aC f U=>U.thing_yes rfl v j y hjl z
 have hfx:qy (Za l) x=0:=(Z2 hf).2.1 x (by rw[<-QK hx y];exact Zbr hx y);have HFi:Hid (∀wx,Below O.heap.size O wx->_):=fun wx hb=>zdz w00 wx B l (hm.step hb) hfx hk aA
 have k:=Xh hx;generalize ZA (Za l) (Qy x.type) (Qy t)=ok at *;cases ok with
 |false =>
  rw[if_neg (by decide)];have aB:Hid (∀wx,_):=fun wx=>qV wx
  clear h0 h1 hj hS z hm hf aA hk y hjl hx hfx;go_enter Tryz.func89,Tryz.ntmps89;go_upto_region 1 with fail;rw[HW1.out];go_upto_region 24 with fail;go_region_held3 (fun w'=>w'.cell? ⟨q.cb,11,none⟩=some (.slice (some ⟨o,0,none⟩) (L.length+1) d)/\w'.cell? ⟨o,L.length*2,none⟩=some (.int .i64 v.kind)/\w'.cell? ⟨o,L.length*2+1,none⟩=some (.int .i64 v.n)) (go_keep)
   (first|(fail))
  go_upto_region 25 with fail;obtain⟨R,G⟩:∃R,m.alloc (.cells #[.int .i64 v.kind,.int .i64 v.n] 43)=R:=⟨_,rfl⟩;obtain⟨f,I,H,A,-⟩:=P.out.boxes G;have h:Hid (∀w' C D E F tv' th' st' ov',MW O R f w' M B C D E F tv' th' st' ov'->MW O wr X w' M B C D E F tv' th' st' ov'):=fun w' C D E F tv' th' st' ov' U=>s.out _ _ _ _ _ _ _ _ _ (H.out _ _ _ _ _ _ _ _ _ U)
  have J:Hid (∀w' C D E F tv' th' st' ov',MW O R f w' M B C D E F tv' th' st' ov'->Blk w' w.heap.size 34 [.int .i64 22,.int .i64 a,.int .i64 b,.string t,.string cls,.string N]):=fun w' C D E F tv' th' st' ov' U=>Z.out _ _ _ _ _ _ _ _ _ (H.out _ _ _ _ _ _ _ _ _ U)
  have v0:=(A.out _ _ _ _ _ _ _ _ _ I).cell 0;have v1:=(A.out _ _ _ _ _ _ _ _ _ I).cell 1;rw[G];generalize m.heap.size=vb at *;clear G H;refine wp_region_held_drew (S:=fun w'=>w'.cell? ⟨M,0,none⟩=some (.map (some B))/\w'.cell? ⟨w.heap.size,3,none⟩=some (.string t)/\w'.cell? ⟨vb,0,none⟩=some (.int .i64 v.kind)/\w'.cell? ⟨vb,1,none⟩=some (.int .i64 v.n)/\w'.cell? ⟨g,j*2,none⟩=some (.string x.type)) (by kernel_rfl) (⟨I.at'.cells.1,(J.out _ _ _ _ _ _ _ _ _ I).cell 3,(A.out _ _ _ _ _ _ _ _ _ I).cell 0,(A.out _ _ _ _ _ _ _ _ _ I).cell 1,(I.at'.at1 k.out).1⟩) (fun hHeld=>?_);change wpAnyH _ _ _ _ _ 19 _ _ _;refine tkQ (i:=0) rfl hHeld ?_;try simp only[Act.put,Xa,Xc,Xd]
  refine tkQ (i:=1) rfl hHeld ?_;try simp only[Act.put,Xa,Xc,Xd]
  refine tkQ (i:=2) rfl hHeld ?_;try simp only[Act.put,Xa,Xc,Xd]
  refine tkQ (i:=3) rfl hHeld ?_;try simp only[Act.put,Xa,Xc,Xd]
  refine tkQ (i:=4) rfl hHeld ?_;try simp only[Act.put,Xa,Xc,Xd]
  refine tkQ (i:=5) rfl hHeld ?_;try simp only[Act.put,Xa,Xc,Xd]
  refine tkQ (i:=6) rfl hHeld ?_;try simp only[Act.put,Xa,Xc,Xd]
  refine tkQ (i:=7) rfl hHeld ?_;try simp only[Act.put,Xa,Xc,Xd]
  refine tkQ (i:=8) rfl hHeld ?_;try simp only[Act.put,Xa,Xc,Xd]
  refine tkQ (i:=9) rfl hHeld ?_;try simp only[Act.put,Xa,Xc,Xd]
  refine tkQ (i:=14) rfl hHeld ?_;try simp only[Act.put,Xa,Xc,Xd]
  refine tkQ (i:=15) rfl hHeld ?_;try simp only[Act.put,Xa,Xc,Xd]
  refine wpAnyH_ready (rs:=[10]) (fuel:=6) (by kernel_rfl) (by simp) ?_;refine AllReadyH.cons (i:=10) rfl (fun K V=>?_) AllReadyH.nil;go_simp;refine(HTh.out _ _ _ I.drew.drew).mono ?_;rintro e w4⟨rfl,r⟩;refine V.out _ _ (⟨r.at'.cells.1,(J.out _ _ _ _ _ _ _ _ _ r).cell 3,(A.out _ _ _ _ _ _ _ _ _ r).cell 0,(A.out _ _ _ _ _ _ _ _ _ r).cell 1,(r.at'.at1 k.out).1⟩) (fun hHeld=>?_);clear V K;try dsimp only[Act.put]
  change wpAnyH _ _ _ _ _ 6 _ _ _;refine tkQ (i:=11) rfl hHeld ?_;try simp only[Act.put,Xa,Xc,Xd]
  refine tkQ (i:=12) rfl hHeld ?_;try simp only[Act.put,Xa,Xc,Xd]
  refine tkQ (i:=13) rfl hHeld ?_;try simp only[Act.put,Xa,Xc,Xd]
  refine wpAnyH_ready (rs:=[16]) (fuel:=2) (by kernel_rfl) (by simp) ?_;refine AllReadyH.cons (i:=16) rfl (fun K V=>?_) AllReadyH.nil;go_simp;refine(HFi.out _ r.at'.below).mono ?_;rintro e w5⟨rfl,hB5⟩;have Y:=r.step hB5;refine V.out _ _ (⟨Y.at'.cells.1,(J.out _ _ _ _ _ _ _ _ _ Y).cell 3,(A.out _ _ _ _ _ _ _ _ _ Y).cell 0,(A.out _ _ _ _ _ _ _ _ _ Y).cell 1,(Y.at'.at1 k.out).1⟩) (fun hHeld=>?_);clear V K;try dsimp only[Act.put]
  change wpAnyH _ _ _ _ _ 2 _ _ _;refine tkQ (i:=17) rfl hHeld ?_;try simp only[Act.put,Xa,Xc,Xd]
  refine wpAnyH_ready (rs:=[18]) (fuel:=0) (by kernel_rfl) (by simp) ?_;refine AllReadyH.cons (i:=18) rfl (fun K V=>?_) AllReadyH.nil;go_simp;refine(aB.out _).mono ?_;rintro e w6⟨rfl,rfl⟩;exact⟨rfl,rfl,_,ps,_,_,h.out _ _ _ _ _ _ _ _ _ Y,rfl⟩
 |true =>
  rw[if_pos rfl];have aB:Hid (∀wx,_):=fun wx=>Q8 wx
  clear h0 h1 hj hS z hm hf aA hk y hjl hx hfx;go_enter Tryz.func89,Tryz.ntmps89;go_upto_region 1 with fail;rw[HW1.out];go_upto_region 24 with fail;go_region_held3 (fun w'=>w'.cell? ⟨q.cb,11,none⟩=some (.slice (some ⟨o,0,none⟩) (L.length+1) d)/\w'.cell? ⟨o,L.length*2,none⟩=some (.int .i64 v.kind)/\w'.cell? ⟨o,L.length*2+1,none⟩=some (.int .i64 v.n)) (go_keep)
   (first|(fail))
  go_upto_region 25 with fail;obtain⟨R,G⟩:∃R,m.alloc (.cells #[.int .i64 v.kind,.int .i64 v.n] 43)=R:=⟨_,rfl⟩;obtain⟨f,I,H,A,-⟩:=P.out.boxes G;have h:Hid (∀w' C D E F tv' th' st' ov',MW O R f w' M B C D E F tv' th' st' ov'->MW O wr X w' M B C D E F tv' th' st' ov'):=fun w' C D E F tv' th' st' ov' U=>s.out _ _ _ _ _ _ _ _ _ (H.out _ _ _ _ _ _ _ _ _ U)
  have J:Hid (∀w' C D E F tv' th' st' ov',MW O R f w' M B C D E F tv' th' st' ov'->Blk w' w.heap.size 34 [.int .i64 22,.int .i64 a,.int .i64 b,.string t,.string cls,.string N]):=fun w' C D E F tv' th' st' ov' U=>Z.out _ _ _ _ _ _ _ _ _ (H.out _ _ _ _ _ _ _ _ _ U)
  have v0:=(A.out _ _ _ _ _ _ _ _ _ I).cell 0;have v1:=(A.out _ _ _ _ _ _ _ _ _ I).cell 1;rw[G];generalize m.heap.size=vb at *;clear G H;refine wp_region_held_drew (S:=fun w'=>w'.cell? ⟨M,0,none⟩=some (.map (some B))/\w'.cell? ⟨w.heap.size,3,none⟩=some (.string t)/\w'.cell? ⟨vb,0,none⟩=some (.int .i64 v.kind)/\w'.cell? ⟨vb,1,none⟩=some (.int .i64 v.n)/\w'.cell? ⟨g,j*2,none⟩=some (.string x.type)) (by kernel_rfl) (⟨I.at'.cells.1,(J.out _ _ _ _ _ _ _ _ _ I).cell 3,(A.out _ _ _ _ _ _ _ _ _ I).cell 0,(A.out _ _ _ _ _ _ _ _ _ I).cell 1,(I.at'.at1 k.out).1⟩) (fun hHeld=>?_);change wpAnyH _ _ _ _ _ 19 _ _ _;refine tkQ (i:=0) rfl hHeld ?_;try simp only[Act.put,Xa,Xc,Xd]
  refine tkQ (i:=1) rfl hHeld ?_;try simp only[Act.put,Xa,Xc,Xd]
  refine tkQ (i:=2) rfl hHeld ?_;try simp only[Act.put,Xa,Xc,Xd]
  refine tkQ (i:=3) rfl hHeld ?_;try simp only[Act.put,Xa,Xc,Xd]
  refine tkQ (i:=4) rfl hHeld ?_;try simp only[Act.put,Xa,Xc,Xd]
  refine tkQ (i:=5) rfl hHeld ?_;try simp only[Act.put,Xa,Xc,Xd]
  refine tkQ (i:=6) rfl hHeld ?_;try simp only[Act.put,Xa,Xc,Xd]
  refine tkQ (i:=7) rfl hHeld ?_;try simp only[Act.put,Xa,Xc,Xd]
  refine tkQ (i:=8) rfl hHeld ?_;try simp only[Act.put,Xa,Xc,Xd]
  refine tkQ (i:=9) rfl hHeld ?_;try simp only[Act.put,Xa,Xc,Xd]
  refine tkQ (i:=14) rfl hHeld ?_;try simp only[Act.put,Xa,Xc,Xd]
  refine tkQ (i:=15) rfl hHeld ?_;try simp only[Act.put,Xa,Xc,Xd]
  refine wpAnyH_ready (rs:=[10]) (fuel:=6) (by kernel_rfl) (by simp) ?_;refine AllReadyH.cons (i:=10) rfl (fun K V=>?_) AllReadyH.nil;go_simp;refine(HTh.out _ _ _ I.drew.drew).mono ?_;rintro e w4⟨rfl,r⟩;refine V.out _ _ (⟨r.at'.cells.1,(J.out _ _ _ _ _ _ _ _ _ r).cell 3,(A.out _ _ _ _ _ _ _ _ _ r).cell 0,(A.out _ _ _ _ _ _ _ _ _ r).cell 1,(r.at'.at1 k.out).1⟩) (fun hHeld=>?_);clear V K;try dsimp only[Act.put]
  change wpAnyH _ _ _ _ _ 6 _ _ _;refine tkQ (i:=11) rfl hHeld ?_;try simp only[Act.put,Xa,Xc,Xd]
  refine tkQ (i:=12) rfl hHeld ?_;try simp only[Act.put,Xa,Xc,Xd]
  refine tkQ (i:=13) rfl hHeld ?_;try simp only[Act.put,Xa,Xc,Xd]
  refine wpAnyH_ready (rs:=[16]) (fuel:=2) (by kernel_rfl) (by simp) ?_;refine AllReadyH.cons (i:=16) rfl (fun K V=>?_) AllReadyH.nil;go_simp;refine(HFi.out _ r.at'.below).mono ?_;rintro e w5⟨rfl,hB5⟩;have Y:=r.step hB5;refine V.out _ _ (⟨Y.at'.cells.1,(J.out _ _ _ _ _ _ _ _ _ Y).cell 3,(A.out _ _ _ _ _ _ _ _ _ Y).cell 0,(A.out _ _ _ _ _ _ _ _ _ Y).cell 1,(Y.at'.at1 k.out).1⟩) (fun hHeld=>?_);clear V K;try dsimp only[Act.put]
  change wpAnyH _ _ _ _ _ 2 _ _ _;refine tkQ (i:=17) rfl hHeld ?_;try simp only[Act.put,Xa,Xc,Xd]
  refine wpAnyH_ready (rs:=[18]) (fuel:=0) (by kernel_rfl) (by simp) ?_;refine AllReadyH.cons (i:=18) rfl (fun K V=>?_) AllReadyH.nil;go_simp;refine(aB.out _).mono ?_;rintro e w6⟨rfl,rfl⟩;refine V.out _ _ (⟨Y.at'.cells.1,(J.out _ _ _ _ _ _ _ _ _ Y).cell 3,(A.out _ _ _ _ _ _ _ _ _ Y).cell 0,(A.out _ _ _ _ _ _ _ _ _ Y).cell 1,(Y.at'.at1 k.out).1⟩) (fun hHeld=>?_);clear V K;try dsimp only[Act.put]
  refine wpAnyH_done (by kernel_rfl) ?_ _;clear hHeld;go_wp2_with fail;go_end0;exact⟨rfl,_,ps,_,h.out _ _ _ _ _ _ _ _ _ Y,rfl⟩
theorem Ze9(M w:World)(N B:Nat)(hv cv:Value)(ps:List (Zc×Value))(qs:List Zs)(q:Zs)(tv:Val)(th:Str)(st:Int)(ov:Bool)(wr:World)(X:Nat->Prop)(T:MW M wr X w N B hv cv ps (qs++[q]) tv th st ov)(r:ps.length<=50)(hn:q.c.S.length<=4194304)(a b:Int)(t cls J:Str)(w00:World)(l:List qa)(hm:Zi w00 M B l)(hf:Qx (Za l) (ps.map (·.1))=0)(hk:Qg (Za l) t=0)(ty:Ty)(s:qd ty=lst t)(T0:List Val)(v:Val)(hS:q.c.S=T0++[v])(hj:0<v.n->v.n.toNat-1<ps.length):
 Calls Tryz.prog 89 #[.pointer (some ⟨N,0,none⟩),.pointer (some ⟨q.cb,0,none⟩),.agg #[.int .i64 23,.int .i64 a,.int .i64 b,.string t,.string cls,.string J]] w (Z6 M wr X N B cv (ps.map (·.1)) qs q tv th st ov (zeW.ok (ps.map (·.1)) (T0++[⟨1,if 0<v.n/\ZA (Za l) (Qy (zl (ps.map (·.1)) v).type) (Qy t)=true then 1 else 0⟩]))):=by
 obtain⟨w1,hw1⟩:∃w1,w.alloc (.cells #[.int .i64 23,.int .i64 a,.int .i64 b,.string t,.string cls,.string J] 34)=w1:=⟨_,rfl⟩;obtain⟨X1,U1,f,P,HXl,HS1,-⟩:=T.boxes hw1;have hfd:=ZaH;obtain⟨i0,-,-,i3,i4,i5⟩:=(P.out _ _ _ _ _ _ _ _ _ U1).cells6;have HW1:=Xh hw1;have y:=Xh U1;have HN:=Xh hn;clear U1 hw1 hn T;have HS:=Xh hS;have HTl:T0.length<=4194304:=by have:=HN.out;rw[hS]at this;simp at this;omega
 by_cases h0:0<v.n;rotate_left
 ·rw[if_neg (fun h=>h0 h.1)];have z0:decide (0<v.n)=false:=Xi h0;clear h0 hj hS r hm hf s hk;go_enter Tryz.func89,Tryz.ntmps89;go_upto_region 1 with fail;rw[HW1.out];go_upto_region 28 with(go_fit (y.out.pop HS.out);rintro e w2⟨rfl,-,m,U2⟩)
  obtain⟨R,G⟩:∃R,w2.alloc (.cells #[.int .i64 v.kind,.int .i64 v.n] 43)=R:=⟨_,rfl⟩;obtain⟨k,I,H,A,-⟩:=U2.boxes G;have d:Hid (∀w' C D E F tv' th' st' ov',MW M R k w' N B C D E F tv' th' st' ov'->MW M wr X w' N B C D E F tv' th' st' ov'):=fun w' C D E F tv' th' st' ov' U=>f.out _ _ _ _ _ _ _ _ _ (H.out _ _ _ _ _ _ _ _ _ U)
  have L:Hid (∀w' C D E F tv' th' st' ov',MW M R k w' N B C D E F tv' th' st' ov'->Blk w' w.heap.size 34 [.int .i64 23,.int .i64 a,.int .i64 b,.string t,.string cls,.string J]):=fun w' C D E F tv' th' st' ov' U=>P.out _ _ _ _ _ _ _ _ _ (H.out _ _ _ _ _ _ _ _ _ U)
  have v0:=(A.out _ _ _ _ _ _ _ _ _ I).cell 0;have v1:=(A.out _ _ _ _ _ _ _ _ _ I).cell 1;rw[G];generalize w2.heap.size=vb at *;clear G H U2;go_upto_region 29 with fail;refine wp_region_held_drew (S:=fun w'=>w'.cell? ⟨vb,1,none⟩=some (.int .i64 v.n)) (by kernel_rfl) (v1) (fun hHeld=>?_);change wpAnyH _ _ _ _ _ 18 _ _ _;refine tkQ (i:=0) rfl hHeld ?_;try simp only[Act.put,Xa,Xc,Xd]
  refine tkQ (i:=1) rfl hHeld ?_;try simp only[Act.put,Xa,Xc,Xd]
  refine tkQ (i:=2) rfl hHeld ?_;try simp only[Act.put,Xa,Xc,Xd]
  refine tkQ (i:=3) rfl hHeld ?_;try simp only[Act.put,Xa,Xc,Xd]
  refine tkP (i:=4) rfl hHeld ?_;try simp only[Act.put,Xa,Xc,Xd]
  refine tkP (i:=5) rfl hHeld ?_;try simp only[Act.put,Xa,Xc,Xd]
  refine tkP (i:=6) rfl hHeld ?_;try simp only[Act.put,Xa,Xc,Xd]
  refine tkP (i:=7) rfl hHeld ?_;try simp only[Act.put,Xa,Xc,Xd]
  refine tkP (i:=8) rfl hHeld ?_;try simp only[Act.put,Xa,Xc,Xd]
  refine tkP (i:=9) rfl hHeld ?_;try simp only[Act.put,Xa,Xc,Xd]
  refine tkP (i:=10) rfl hHeld ?_;try simp only[Act.put,Xa,Xc,Xd]
  refine tkP (i:=11) rfl hHeld ?_;try simp only[Act.put,Xa,Xc,Xd]
  refine tkP (i:=12) rfl hHeld ?_;try simp only[Act.put,Xa,Xc,Xd]
  refine tkP (i:=13) rfl hHeld ?_;try simp only[Act.put,Xa,Xc,Xd]
  refine tkP (i:=14) rfl hHeld ?_;try simp only[Act.put,Xa,Xc,Xd]
  refine tkP (i:=15) rfl hHeld ?_;try simp only[Act.put,Xa,Xc,Xd]
  refine tkP (i:=16) rfl hHeld ?_;try simp only[Act.put,Xa,Xc,Xd]
  refine tkQ (i:=17) rfl hHeld ?_;try simp only[Act.put,Xa,Xc,Xd]
  refine wpAnyH_done (by kernel_rfl) ?_ _;clear hHeld;go_wp2_with (go_fit (I.drew.put HTl ⟨1,0⟩);rintro e w7⟨rfl,-,sv7,U7⟩)
  go_end0;exact⟨rfl,_,ps,_,d.out _ _ _ _ _ _ _ _ _ U7,rfl⟩
 have z0:decide (0<v.n)=true:=Xj h0;obtain⟨j,Z⟩:∃j:Nat,v.n=(j:Int)+1:=⟨v.n.toNat-1,by omega⟩;have z:j<ps.length:=by have:=hj (by omega);omega
 obtain⟨⟨x,xv⟩,hx⟩:∃p,ps[j]? = some p:=⟨_,Xn z⟩;rw[QK hx Z];obtain⟨g,cap,rfl,-,-,-,⟨xp,xk,rfl⟩,-⟩:=y.out.at'.thingAt hx;have HTh:Hid (∀wx wr2 k m,MW M wr2 k wx N B (.slice (some ⟨g,0,none⟩) ps.length cap) cv ps (qs++[(⟨q.cb,q.cv,q.hv,q.lv,m,{ q.c with S:=T0 }⟩:Zs)]) tv th st ov->_):=fun wx wr2 k m U=>U.thing_yes rfl v j Z z r
 have hfx:qy (Za l) x=0:=(Z2 hf).2.1 x (by rw[<-QK hx Z];exact Zbr hx Z);have HFi:Hid (∀wx,Below M.heap.size M wx->_):=fun wx hb=>zdz w00 wx B l (hm.step hb) hfx hk s
 have V:=Xh hx;generalize ZA (Za l) (Qy x.type) (Qy t)=ok at *;cases ok with
 |false =>
  rw[if_neg (by simp)];clear h0 hj hS r hm hf s hk Z z hx hfx;go_enter Tryz.func89,Tryz.ntmps89;go_upto_region 1 with fail;rw[HW1.out];go_upto_region 28 with(go_fit (y.out.pop HS.out);rintro e w2⟨rfl,-,m,U2⟩)
  obtain⟨R,G⟩:∃R,w2.alloc (.cells #[.int .i64 v.kind,.int .i64 v.n] 43)=R:=⟨_,rfl⟩;obtain⟨k,I,H,A,-⟩:=U2.boxes G;have d:Hid (∀w' C D E F tv' th' st' ov',MW M R k w' N B C D E F tv' th' st' ov'->MW M wr X w' N B C D E F tv' th' st' ov'):=fun w' C D E F tv' th' st' ov' U=>f.out _ _ _ _ _ _ _ _ _ (H.out _ _ _ _ _ _ _ _ _ U)
  have L:Hid (∀w' C D E F tv' th' st' ov',MW M R k w' N B C D E F tv' th' st' ov'->Blk w' w.heap.size 34 [.int .i64 23,.int .i64 a,.int .i64 b,.string t,.string cls,.string J]):=fun w' C D E F tv' th' st' ov' U=>P.out _ _ _ _ _ _ _ _ _ (H.out _ _ _ _ _ _ _ _ _ U)
  have v0:=(A.out _ _ _ _ _ _ _ _ _ I).cell 0;have v1:=(A.out _ _ _ _ _ _ _ _ _ I).cell 1;rw[G];generalize w2.heap.size=vb at *;clear G H U2;go_upto_region 29 with fail;refine wp_region_held_drew (S:=fun w'=>w'.cell? ⟨N,0,none⟩=some (.map (some B))/\w'.cell? ⟨w.heap.size,3,none⟩=some (.string t)/\w'.cell? ⟨vb,0,none⟩=some (.int .i64 v.kind)/\w'.cell? ⟨vb,1,none⟩=some (.int .i64 v.n)/\w'.cell? ⟨g,j*2,none⟩=some (.string x.type)) (by kernel_rfl) (⟨I.at'.cells.1,(L.out _ _ _ _ _ _ _ _ _ I).cell 3,(A.out _ _ _ _ _ _ _ _ _ I).cell 0,(A.out _ _ _ _ _ _ _ _ _ I).cell 1,(I.at'.at1 V.out).1⟩) (fun hHeld=>?_);change wpAnyH _ _ _ _ _ 18 _ _ _;refine tkQ (i:=0) rfl hHeld ?_;try simp only[Act.put,Xa,Xc,Xd]
  refine tkQ (i:=1) rfl hHeld ?_;try simp only[Act.put,Xa,Xc,Xd]
  refine tkQ (i:=2) rfl hHeld ?_;try simp only[Act.put,Xa,Xc,Xd]
  refine tkQ (i:=3) rfl hHeld ?_;try simp only[Act.put,Xa,Xc,Xd]
  refine tkQ (i:=4) rfl hHeld ?_;try simp only[Act.put,Xa,Xc,Xd]
  refine tkQ (i:=5) rfl hHeld ?_;try simp only[Act.put,Xa,Xc,Xd]
  refine tkQ (i:=6) rfl hHeld ?_;try simp only[Act.put,Xa,Xc,Xd]
  refine tkQ (i:=7) rfl hHeld ?_;try simp only[Act.put,Xa,Xc,Xd]
  refine tkQ (i:=8) rfl hHeld ?_;try simp only[Act.put,Xa,Xc,Xd]
  refine tkQ (i:=9) rfl hHeld ?_;try simp only[Act.put,Xa,Xc,Xd]
  refine tkQ (i:=14) rfl hHeld ?_;try simp only[Act.put,Xa,Xc,Xd]
  refine tkQ (i:=15) rfl hHeld ?_;try simp only[Act.put,Xa,Xc,Xd]
  refine wpAnyH_ready (rs:=[10]) (fuel:=5) (by kernel_rfl) (by simp) ?_;refine AllReadyH.cons (i:=10) rfl (fun K o=>?_) AllReadyH.nil;go_simp;refine(HTh.out _ _ _ _ I.drew).mono ?_;rintro e w4⟨rfl,O⟩;refine o.out _ _ (⟨O.at'.cells.1,(L.out _ _ _ _ _ _ _ _ _ O).cell 3,(A.out _ _ _ _ _ _ _ _ _ O).cell 0,(A.out _ _ _ _ _ _ _ _ _ O).cell 1,(O.at'.at1 V.out).1⟩) (fun hHeld=>?_);clear o K;try dsimp only[Act.put]
  change wpAnyH _ _ _ _ _ 5 _ _ _;refine tkQ (i:=11) rfl hHeld ?_;try simp only[Act.put,Xa,Xc,Xd]
  refine tkQ (i:=12) rfl hHeld ?_;try simp only[Act.put,Xa,Xc,Xd]
  refine tkQ (i:=13) rfl hHeld ?_;try simp only[Act.put,Xa,Xc,Xd]
  refine wpAnyH_ready (rs:=[16]) (fuel:=1) (by kernel_rfl) (by simp) ?_;refine AllReadyH.cons (i:=16) rfl (fun K o=>?_) AllReadyH.nil;go_simp;refine(HFi.out _ O.at'.below).mono ?_;rintro e w5⟨rfl,hB5⟩;have Y:=O.step hB5;refine o.out _ _ (⟨Y.at'.cells.1,(L.out _ _ _ _ _ _ _ _ _ Y).cell 3,(A.out _ _ _ _ _ _ _ _ _ Y).cell 0,(A.out _ _ _ _ _ _ _ _ _ Y).cell 1,(Y.at'.at1 V.out).1⟩) (fun hHeld=>?_);clear o K;try dsimp only[Act.put]
  change wpAnyH _ _ _ _ _ 1 _ _ _;refine tkQ (i:=17) rfl hHeld ?_;try simp only[Act.put,Xa,Xc,Xd]
  refine wpAnyH_done (by kernel_rfl) ?_ _;clear hHeld;go_wp2_with (go_fit (Y.put HTl ⟨1,0⟩);rintro e w7⟨rfl,-,sv7,U7⟩)
  go_end0;exact⟨rfl,_,ps,_,d.out _ _ _ _ _ _ _ _ _ U7,rfl⟩
 |true =>
  rw[if_pos ⟨h0,rfl⟩];clear h0 hj hS r hm hf s hk Z z hx hfx;go_enter Tryz.func89,Tryz.ntmps89;go_upto_region 1 with fail;rw[HW1.out];go_upto_region 28 with(go_fit (y.out.pop HS.out);rintro e w2⟨rfl,-,m,U2⟩)
  obtain⟨R,G⟩:∃R,w2.alloc (.cells #[.int .i64 v.kind,.int .i64 v.n] 43)=R:=⟨_,rfl⟩;obtain⟨k,I,H,A,-⟩:=U2.boxes G;have d:Hid (∀w' C D E F tv' th' st' ov',MW M R k w' N B C D E F tv' th' st' ov'->MW M wr X w' N B C D E F tv' th' st' ov'):=fun w' C D E F tv' th' st' ov' U=>f.out _ _ _ _ _ _ _ _ _ (H.out _ _ _ _ _ _ _ _ _ U)
  have L:Hid (∀w' C D E F tv' th' st' ov',MW M R k w' N B C D E F tv' th' st' ov'->Blk w' w.heap.size 34 [.int .i64 23,.int .i64 a,.int .i64 b,.string t,.string cls,.string J]):=fun w' C D E F tv' th' st' ov' U=>P.out _ _ _ _ _ _ _ _ _ (H.out _ _ _ _ _ _ _ _ _ U)
  have v0:=(A.out _ _ _ _ _ _ _ _ _ I).cell 0;have v1:=(A.out _ _ _ _ _ _ _ _ _ I).cell 1;rw[G];generalize w2.heap.size=vb at *;clear G H U2;go_upto_region 29 with fail;refine wp_region_held_drew (S:=fun w'=>w'.cell? ⟨N,0,none⟩=some (.map (some B))/\w'.cell? ⟨w.heap.size,3,none⟩=some (.string t)/\w'.cell? ⟨vb,0,none⟩=some (.int .i64 v.kind)/\w'.cell? ⟨vb,1,none⟩=some (.int .i64 v.n)/\w'.cell? ⟨g,j*2,none⟩=some (.string x.type)) (by kernel_rfl) (⟨I.at'.cells.1,(L.out _ _ _ _ _ _ _ _ _ I).cell 3,(A.out _ _ _ _ _ _ _ _ _ I).cell 0,(A.out _ _ _ _ _ _ _ _ _ I).cell 1,(I.at'.at1 V.out).1⟩) (fun hHeld=>?_);change wpAnyH _ _ _ _ _ 18 _ _ _;refine tkQ (i:=0) rfl hHeld ?_;try simp only[Act.put,Xa,Xc,Xd]
  refine tkQ (i:=1) rfl hHeld ?_;try simp only[Act.put,Xa,Xc,Xd]
  refine tkQ (i:=2) rfl hHeld ?_;try simp only[Act.put,Xa,Xc,Xd]
  refine tkQ (i:=3) rfl hHeld ?_;try simp only[Act.put,Xa,Xc,Xd]
  refine tkQ (i:=4) rfl hHeld ?_;try simp only[Act.put,Xa,Xc,Xd]
  refine tkQ (i:=5) rfl hHeld ?_;try simp only[Act.put,Xa,Xc,Xd]
  refine tkQ (i:=6) rfl hHeld ?_;try simp only[Act.put,Xa,Xc,Xd]
  refine tkQ (i:=7) rfl hHeld ?_;try simp only[Act.put,Xa,Xc,Xd]
  refine tkQ (i:=8) rfl hHeld ?_;try simp only[Act.put,Xa,Xc,Xd]
  refine tkQ (i:=9) rfl hHeld ?_;try simp only[Act.put,Xa,Xc,Xd]
  refine tkQ (i:=14) rfl hHeld ?_;try simp only[Act.put,Xa,Xc,Xd]
  refine tkQ (i:=15) rfl hHeld ?_;try simp only[Act.put,Xa,Xc,Xd]
  refine wpAnyH_ready (rs:=[10]) (fuel:=5) (by kernel_rfl) (by simp) ?_;refine AllReadyH.cons (i:=10) rfl (fun K o=>?_) AllReadyH.nil;go_simp;refine(HTh.out _ _ _ _ I.drew).mono ?_;rintro e w4⟨rfl,O⟩;refine o.out _ _ (⟨O.at'.cells.1,(L.out _ _ _ _ _ _ _ _ _ O).cell 3,(A.out _ _ _ _ _ _ _ _ _ O).cell 0,(A.out _ _ _ _ _ _ _ _ _ O).cell 1,(O.at'.at1 V.out).1⟩) (fun hHeld=>?_);clear o K;try dsimp only[Act.put]
  change wpAnyH _ _ _ _ _ 5 _ _ _;refine tkQ (i:=11) rfl hHeld ?_;try simp only[Act.put,Xa,Xc,Xd]
  refine tkQ (i:=12) rfl hHeld ?_;try simp only[Act.put,Xa,Xc,Xd]
  refine tkQ (i:=13) rfl hHeld ?_;try simp only[Act.put,Xa,Xc,Xd]
  refine wpAnyH_ready (rs:=[16]) (fuel:=1) (by kernel_rfl) (by simp) ?_;refine AllReadyH.cons (i:=16) rfl (fun K o=>?_) AllReadyH.nil;go_simp;refine(HFi.out _ O.at'.below).mono ?_;rintro e w5⟨rfl,hB5⟩;have Y:=O.step hB5;refine o.out _ _ (⟨Y.at'.cells.1,(L.out _ _ _ _ _ _ _ _ _ Y).cell 3,(A.out _ _ _ _ _ _ _ _ _ Y).cell 0,(A.out _ _ _ _ _ _ _ _ _ Y).cell 1,(Y.at'.at1 V.out).1⟩) (fun hHeld=>?_);clear o K;try dsimp only[Act.put]
  change wpAnyH _ _ _ _ _ 1 _ _ _;refine tkQ (i:=17) rfl hHeld ?_;try simp only[Act.put,Xa,Xc,Xd]
  refine wpAnyH_done (by kernel_rfl) ?_ _;clear hHeld;go_wp2_with (go_fit (Y.put HTl ⟨1,1⟩);rintro e w7⟨rfl,-,sv7,U7⟩)
  go_end0;exact⟨rfl,_,ps,_,d.out _ _ _ _ _ _ _ _ _ U7,rfl⟩
theorem Qew(J w:World)(F B:Nat)(V L:Value)(ps:List (Zc×Value))(qs:List Zs)(q:Zs)(M:Val)(N:Str)(O:Int)(P:Bool)(wr:World)(X:Nat->Prop)(T:MW J wr X w F B V L ps (qs++[q]) M N O P)(_h50:ps.length<=50)(R:q.c.S.length<=4194304)(a b:Int)(t cls A:Str)(o:Int)(Y:¬(15<=o/\o<=23)):
 Calls Tryz.prog 89 #[.pointer (some ⟨F,0,none⟩),.pointer (some ⟨q.cb,0,none⟩),.agg #[.int .i64 o,.int .i64 a,.int .i64 b,.string t,.string cls,.string A]] w (Z6 J wr X F B L (ps.map (·.1)) qs q M N O P (.ok (ps.map (·.1)) q.c.S)):=by
 obtain⟨U,C⟩:∃U,w.alloc (.cells #[.int .i64 o,.int .i64 a,.int .i64 b,.string t,.string cls,.string A] 34)=U:=⟨_,rfl⟩;obtain⟨r,I,D,E,m,n,-⟩:=T.boxes C;have Z:=ZaH;obtain⟨s,-,-,v,x,y⟩:=(E.out _ _ _ _ _ _ _ _ _ I).cells6;have G:=Xh C;have H:=Xh I;have p:=Xh R;clear I C R T;have d:(o==15)=false:=by simp;omega
 have e:(o==16)=false:=by simp;omega
 have f:(o==17)=false:=by simp;omega
 have g:(o==18)=false:=by simp;omega
 have h:(o==19)=false:=by simp;omega
 have i:(o==20)=false:=by simp;omega
 have j:(o==21)=false:=by simp;omega
 have k:(o==22)=false:=by simp;omega
 have l:(o==23)=false:=by simp;omega
 clear Y;go_enter Tryz.func89,Tryz.ntmps89;go_upto_region 1 with fail;rw[G.out];go_wp2_with fail;go_end0;exact⟨rfl,_,ps,_,D.out _ _ _ _ _ _ _ _ _ H.out,rfl⟩
set_option maxRecDepth 512
structure zci (cs:List qa) (h:List Zc) (x:Ins) (S:List Val):Prop where
 new:x.op=15->(Qb cs x.cls).isSome=true
 one:x.op=16\/x.op=18\/x.op=19\/x.op=22\/x.op=23->∃T v,S=T++[v]
 top:x.op=16\/x.op=19\/x.op=22\/x.op=23->0<(Qj S).n->(Qj S).n.toNat-1<h.length
 two:x.op=17\/x.op=20->∃T u v,S=T++[u]++[v]/\(0<u.n->u.n.toNat-1<h.length)
 get:x.op=16->(Qb cs x.cls).isSome=true/\∃n,zat cs x.cls x.name=some n/\(0<(Qj S).n->n<(zl h (Qj S)).has.length)
 put:x.op=17->(Qb cs x.cls).isSome=true/\∃n,zat cs x.cls x.name=some n/\(0<(Qj S.dropLast).n->n<(zl h (Qj S.dropLast)).has.length)
 arr:x.op=18->Qg cs x.type=0/\qo (91::lst x.type)=true
 three:x.op=21->∃T a i u,S=T++[a]++[i]++[u]/\(0<a.n->a.n.toNat-1<h.length/\∃e,qd (.ar e)=lst (zl h a).type)
 cast:x.op=22\/x.op=23->Qg cs x.type=0/\∃y,qd y=lst x.type
theorem zX(T:List Val)(v:Val):Qj (T++[v])=v:=by simp[Qj]
set_option maxRecDepth 100000
theorem qbr(I w:World)(J B:Nat)(U L:Value)(ps:List (Zc×Value))(qs:List Zs)(q:Zs)(M:Val)(N:Str)(O:Int)(P:Bool)(wr:World)(X:Nat->Prop)(T:MW I wr X w J B U L ps (qs++[q]) M N O P)(Y:q.c.S.length<=4194304)(F:World)(l:List qa)(d:Zi F I B l)(m:Qx (Za l) (ps.map (·.1))=0)(x:Ins)(H:zci (Za l) (ps.map (·.1)) x q.c.S):
 Calls Tryz.prog 89 #[.pointer (some ⟨J,0,none⟩),.pointer (some ⟨q.cb,0,none⟩),qao x] w (Z6 I wr X J B L (ps.map (·.1)) qs q M N O P (qM (Za l) (ps.map (·.1)) x q.c.S)):=by
 have D:ps.length<=50:=by have:=(Z2 m).1;rwa [List.length_map]at this
 have j:(ps.map (·.1)).length=ps.length:=List.length_map ..;obtain⟨R,a,b,t,cls,A⟩:=x;obtain⟨z,f,g,o,g5,g6,g7,p,r⟩:=H;rw[j]at g o p;dsimp only at z f g o g5 g6 g7 p r;have e:R=15\/R=16\/R=17\/R=18\/R=19\/R=20\/R=21\/R=22\/R=23\/¬(15<=R/\R<=23):=by omega
 unfold qao;rcases e with rfl|rfl|rfl|rfl|rfl|rfl|rfl|rfl|rfl|s
 ·exact qeW I w J B U L ps qs q M N O P wr X T D Y a b t cls A F l d (z rfl)
 ·obtain⟨G,v,C⟩:=f (by simp);obtain⟨Z,n,V,k⟩:=g5 rfl;have E:=g (by simp);rw[C,zX]at k E;have:=QeW I w J B U L ps qs q M N O P wr X T D Y a b t cls A F l d Z G v C E n V k;unfold qM;simp only[C,zX,List.dropLast_concat,V];exact this
 ·obtain⟨G,u,v,C,E⟩:=o (by simp);obtain⟨Z,n,V,k⟩:=g6 rfl;rw[C,List.dropLast_concat,zX]at k;have:=zeX I w J B U L ps qs q M N O P wr X T D Y a b t cls A F l d Z G u v C E n V k;unfold qM;simp only[C,zX,List.dropLast_concat,V];exact this
 ·obtain⟨G,v,C⟩:=f (by simp);obtain⟨Z,V⟩:=g7 rfl;have:=qdU I w J B U L ps qs q M N O P wr X T D Y a b t cls A F l d Z V G v C;unfold qM;simp only[C,zX,List.dropLast_concat];exact this
 ·obtain⟨G,v,C⟩:=f (by simp);have E:=g (by simp);rw[C,zX]at E;have:=ZeW I w J B U L ps qs q M N O P wr X T D Y a b t cls A G v C E;unfold qM;simp only[C,zX,List.dropLast_concat];exact this
 ·obtain⟨G,u,v,C,E⟩:=o (by simp);have:=ZdU I w J B U L ps qs q M N O P wr X T D Y a b t cls A G u v C E;unfold qM;simp only[C,zX,List.dropLast_concat];exact this
 ·obtain⟨G,v,i,u,C,E⟩:=p rfl;have:=Zdz I w J B U L ps qs q M N O P wr X T D Y a b t cls A F l d m G v i u C (fun h=>(E h).1) (fun h=>(E h).2);unfold qM;simp only[C,zX,List.dropLast_concat];exact this
 ·obtain⟨G,v,C⟩:=f (by simp);obtain⟨Z,y,V⟩:=r (by simp);have E:=g (by simp);rw[C,zX]at E;have:=qew I w J B U L ps qs q M N O P wr X T D Y a b t cls A F l d m Z y V G v C E;unfold qM;rw[C]at this ⊢;simp only[zX];exact this
 ·obtain⟨G,v,C⟩:=f (by simp);obtain⟨Z,y,V⟩:=r (by simp);have E:=g (by simp);rw[C,zX]at E;have:=Ze9 I w J B U L ps qs q M N O P wr X T D Y a b t cls A F l d m Z y V G v C E;unfold qM;simp only[C,zX,List.dropLast_concat];exact this
 ·have:=Qew I w J B U L ps qs q M N O P wr X T D Y a b t cls A R s;unfold qM;dsimp only;rw[if_neg (by omega),if_neg (by omega),if_neg (by omega),if_neg (by omega),if_neg (by omega),if_neg (by omega),if_neg (by omega),if_neg (by omega),if_neg (by omega)];exact this
set_option maxRecDepth 512
end Go.Proofs.YtmclocdhcblbiaaGreatDoor
