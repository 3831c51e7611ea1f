/- Lemmas; conditions: as each states. -/
import Derived.Test.YtmclocdhcblbiaaGreatDoorZRunCal
set_option maxHeartbeats 4000000
namespace Go.Proofs.YtmclocdhcblbiaaGreatDoor
open Go.RowKit Go.Shelf Go.Lib Tryz
theorem zac{n:Nat}(h:n<=4194304):wrap64 ((n:Int)+1)=(n:Int)+1:=by unfold wrap64;omega
theorem qbM{w:World}{base:Nat}{t:TypeId}{v:Value}{l:List Val}(h:w.ownsRow base t 2 v l.length (l.flatMap Zt)){k:Nat}{x:Val}(B:l[k]? = some x):
 ∃g cap,v=.slice (some ⟨g,0,none⟩) l.length cap/\g<w.heap.size/\w.cell? ⟨g,k*2,none⟩=some (.int .i64 x.kind)/\w.cell? ⟨g,k*2+1,none⟩=some (.int .i64 x.n)/\w.frozen? ⟨g,k*2,none⟩=false/\w.frozen? ⟨g,k*2+1,none⟩=false:=by
 obtain⟨p,c,rfl⟩:=Ze h;obtain⟨g,rfl,_,C,A⟩:=zaZ ZaJ h rfl B;exact⟨g,c,rfl,C,A 0 (by decide),A 1 (by decide),h.frozenAt _,h.frozenAt _⟩
theorem CW.local{base:Nat}{w:World}{E:Nat}{G H I:Value}{F:Nat}{J:List Value}{wx:World}{A:Value}{c:Cal}{g n cap k:Nat}(T:CW base w E G H (.slice (some ⟨g,0,none⟩) n cap) I F J wx A c)(N:k<c.L.length)(v:Val):
 CW base w E G H (.slice (some ⟨g,0,none⟩) n cap) I F J ((wx.setCell ⟨g,k*2,none⟩ (.int .i64 v.kind)).setCell ⟨g,k*2+1,none⟩ (.int .i64 v.n)) A { c with L:=c.L.set k v }:=by
 have M:=T.cal.locals;have O:n=c.L.length:=by
  obtain⟨_,R|⟨U,c',S,k,_⟩⟩:=M
  ·cases R.1
  ·injection k
 subst O;have P:Qaq E (.slice (some ⟨g,0,none⟩) c.L.length cap) A g:=Or.inr (Or.inl rfl);have B:F≠g:=fun e=>T.far (by rw[e];exact P)
 have C:E≠g:=fun e=>T.cal.lfar (by rw[e];rfl)
 have D:A.ownBlock≠some g:=T.cal.apart g rfl;refine⟨(T.chg.set (p:=⟨g,k*2,none⟩) (fun _=>Or.inr (Or.inl rfl)) (.int .i64 v.kind)).set (p:=⟨g,k*2+1,none⟩) (fun _=>Or.inr (Or.inl rfl)) (.int .i64 v.n),⟨(T.cal.blk.other C _ _).other C _ _,?_,Z1 (Z1 T.cal.stack D _ _) D _ _,T.cal.apart,T.cal.lfar,T.cal.sfar,T.cal.low⟩,T.new,(T.box.other B _ _).other B _ _,T.far⟩;have:=Zbr M N v;simpa using this
set_option maxRecDepth 100000
theorem ZdD(base:Nat)(w:World)(B:Nat)(D E F G:Value)(c:Cal)(h:ZE base w B D E F G c)(H:c.S.length<=4194304)(I:c.pc<=4194304)(a b:Int)(t cls name:Str):
 Calls prog 88 #[.pointer (some ⟨B,0,none⟩),.agg #[.int .i64 2,.int .i64 a,.int .i64 b,.string t,.string cls,.string name]] w (Z6 base w B D E F G c (some (.int .i64 ((c.pc:Int)+1),c.L,c.S++[⟨Zab t,a⟩]))):=by
 have A:=CW.start h [.int .i64 2,.int .i64 a,.int .i64 b,.string t,.string cls,.string name];have M:=zac I;have N:=A.cal.blk.lt;have O:Hid (∀wx,_):=fun wx=>zdA t wx
 obtain⟨X,Y,Z,d,f,g⟩:=A.cells;have V:(w.alloc (.cells #[.int .i64 2,.int .i64 a,.int .i64 b,.string t,.string cls,.string name] 34)).cell? ⟨B,9,none⟩=some (.int .i64 c.pc):=A.cal.blk.cell 9;have C:=Xh A;have P:=Xh H;clear A h I H;go_enter func88,ntmps88;go_upto_region 2 with fail;generalize w.alloc (.cells #[.int .i64 2,.int .i64 a,.int .i64 b,.string t,.string cls,.string name] 34)=U at *;go_upto_region 4 with fail;refine wp_region_still_tail 7 (by kernel_rfl) (by kernel_rfl) ?_;simp only[List.take_succ_cons,List.take_zero,List.drop_succ_cons,List.drop_zero];repeat still_step
 still_call (O.out _)
 repeat still_step
 refine wpStill_nil ?_;change wpList _ _ _ _ _ U.drew;go_wp2_with (go_fit (C.out.drew.put P.out ⟨Zab t,a⟩);rintro e i⟨rfl,J,R,T⟩)
 go_ret;exact⟨rfl,T.post⟩
theorem qdD(base:Nat)(w:World)(B:Nat)(D E F G:Value)(c:Cal)(h:ZE base w B D E F G c)(H:c.S.length<=4194304)(I:c.pc<=4194304)(a b:Int)(t cls name:Str):
 Calls prog 88 #[.pointer (some ⟨B,0,none⟩),.agg #[.int .i64 3,.int .i64 a,.int .i64 b,.string t,.string cls,.string name]] w (Z6 base w B D E F G c (some (.int .i64 ((c.pc:Int)+1),c.L,c.S++[⟨3,0⟩]))):=by
 have A:=CW.start h [.int .i64 3,.int .i64 a,.int .i64 b,.string t,.string cls,.string name];have M:=zac I;have N:=A.cal.blk.lt;obtain⟨U,V,X,Y,Z,d⟩:=A.cells;have T:(w.alloc (.cells #[.int .i64 3,.int .i64 a,.int .i64 b,.string t,.string cls,.string name] 34)).cell? ⟨B,9,none⟩=some (.int .i64 c.pc):=A.cal.blk.cell 9;have C:=Xh A;have O:=Xh H;clear A h I H;go_enter func88,ntmps88;go_upto_region 2 with fail;generalize w.alloc (.cells #[.int .i64 3,.int .i64 a,.int .i64 b,.string t,.string cls,.string name] 34)=g at *;go_wp2_with (go_fit (C.out.put O.out ⟨3,0⟩);rintro e f⟨rfl,J,P,R⟩)
 go_ret;exact⟨rfl,R.post⟩
theorem QdD(base:Nat)(w:World)(B:Nat)(E F G H:Value)(c:Cal)(h:ZE base w B E F G H c)(I:c.S.length<=4194304)(J:c.pc<=4194304)(k:Nat)(b:Int)(t cls name:Str)(x:Val)(C:c.L[k]? = some x):
 Calls prog 88 #[.pointer (some ⟨B,0,none⟩),.agg #[.int .i64 4,.int .i64 (k:Int),.int .i64 b,.string t,.string cls,.string name]] w (Z6 base w B E F G H c (some (.int .i64 ((c.pc:Int)+1),c.L,c.S++[x]))):=by
 have A:=CW.start h [.int .i64 4,.int .i64 (k:Int),.int .i64 b,.string t,.string cls,.string name];have O:=zac J;have P:=A.cal.blk.lt;have M:=A.cal.locals;obtain⟨g,cap,rfl,f,i,j,_,_⟩:=qbM M C;have a:=(List.getElem?_eq_some_iff.1 C).1;have R:(0:Int)<=(k:Int):=by omega
 have T:(k:Int)<(c.L.length:Int):=by omega
 have U:(w.alloc (.cells #[.int .i64 4,.int .i64 (k:Int),.int .i64 b,.string t,.string cls,.string name] 34)).cell? ⟨B,10,none⟩=some (.slice (some ⟨g,0,none⟩) c.L.length cap):=A.cal.blk.cell 10;clear M C;obtain⟨l,m,n,o,p,q⟩:=A.cells;have d:(w.alloc (.cells #[.int .i64 4,.int .i64 (k:Int),.int .i64 b,.string t,.string cls,.string name] 34)).cell? ⟨B,9,none⟩=some (.int .i64 c.pc):=A.cal.blk.cell 9;have D:=Xh A;have V:=Xh I;clear A h J I;go_enter func88,ntmps88;go_upto_region 2 with fail;generalize w.alloc (.cells #[.int .i64 4,.int .i64 (k:Int),.int .i64 b,.string t,.string cls,.string name] 34)=Z at *;go_upto_region 8 with fail;refine wp_region_still_tail 9 (by kernel_rfl) (by kernel_rfl) ?_;simp only[List.take_succ_cons,List.take_zero,List.drop_succ_cons,List.drop_zero];repeat still_step
 refine wpStill_nil ?_;change wpList _ _ _ _ _ Z.drew;go_wp2_with (go_fit (D.out.drew.put V.out x);rintro e r⟨rfl,N,X,Y⟩)
 go_ret;exact⟨rfl,Y.post⟩
theorem qdf(base:Nat)(w:World)(A:Nat)(M N O P:Value)(c:Cal)(h:ZE base w A M N O P c)(R:c.S.length<=4194304)(U:c.pc<=4194304)(k:Nat)(b:Int)(t cls name:Str)(T:List Val)(v:Val)(V:c.S=T++[v])(X:k<c.L.length):
 Calls prog 88 #[.pointer (some ⟨A,0,none⟩),.agg #[.int .i64 5,.int .i64 (k:Int),.int .i64 b,.string t,.string cls,.string name]] w (Z6 base w A M N O P c (some (.int .i64 ((c.pc:Int)+1),c.L.set k v,T))):=by
 have B:=CW.start h [.int .i64 5,.int .i64 (k:Int),.int .i64 b,.string t,.string cls,.string name];have Z:=zac U;have a:=B.cal.blk.lt;obtain⟨x,I⟩:∃x,c.L[k]? = some x:=⟨_,Xn X⟩;have Y:=B.cal.locals;obtain⟨g,cap,rfl,hg,_⟩:=qbM Y I;have d:(0:Int)<=(k:Int):=by omega
 have f:(k:Int)<(c.L.length:Int):=by omega
 have i:(w.alloc (.cells #[.int .i64 5,.int .i64 (k:Int),.int .i64 b,.string t,.string cls,.string name] 34)).cell? ⟨A,10,none⟩=some (.slice (some ⟨g,0,none⟩) c.L.length cap):=B.cal.blk.cell 10;have j:=Xh V;have l:=Xh I;have E:¬A=g:=fun e=>B.cal.lfar (by rw[e];rfl)
 have m:¬g=A:=fun e=>E e.symm
 have F:¬w.heap.size=g:=by have:=(h.locals.lt g rfl).2;omega
 have n:¬g=w.heap.size:=fun e=>F e.symm
 clear Y I V;obtain⟨i0,i1,i2,i3,i4,i5⟩:=B.cells;have r:(w.alloc (.cells #[.int .i64 5,.int .i64 (k:Int),.int .i64 b,.string t,.string cls,.string name] 34)).cell? ⟨A,9,none⟩=some (.int .i64 c.pc):=B.cal.blk.cell 9;have G:=Xh B;have s:=Xh R;clear B h U R;go_enter func88,ntmps88;go_upto_region 2 with fail;generalize w.alloc (.cells #[.int .i64 5,.int .i64 (k:Int),.int .i64 b,.string t,.string cls,.string name] 34)=w1 at *;go_upto_region 10 with fail;go_region_held3 (fun w'=>w'.cell? ⟨A,10,none⟩=some (.slice (some ⟨g,0,none⟩) c.L.length cap)/\w'.cell? ⟨w.heap.size,1,none⟩=some (.int .i64 (k:Int))) (go_keep)
  (first|(go_fit (G.out.drew.pop j.out);rintro e w2⟨rfl,_,q,D,_⟩;(have y:=D.box.cell 1);(have z:=D.cal.blk.cell 10);(have H:=Xh D);obtain⟨o,C,J,p,y0,y1,f0,f1⟩:=qbM D.cal.locals l.out;obtain⟨rfl,rfl⟩:g=o/\cap=C:=by simpa using J))
 all_goals
  go_wp2_with fail;go_ret;exact⟨rfl,(H.out.local X v).post⟩
theorem qdY(base:Nat)(w:World)(B:Nat)(D E F G:Value)(c:Cal)(h:ZE base w B D E F G c)(H:c.S.length<=4194304)(I:c.pc<=4194304)(a b:Int)(t cls name:Str)(T:List Val)(v:Val)(J:c.S=T++[v]):
 Calls prog 88 #[.pointer (some ⟨B,0,none⟩),.agg #[.int .i64 6,.int .i64 a,.int .i64 b,.string t,.string cls,.string name]] w (Z6 base w B D E F G c (some (.int .i64 ((c.pc:Int)+1),c.L,T))):=by
 have A:=CW.start h [.int .i64 6,.int .i64 a,.int .i64 b,.string t,.string cls,.string name];have O:=zac I;have P:=A.cal.blk.lt;have R:=Xh J;clear J;obtain⟨Z,d,f,g,i,j⟩:=A.cells;have X:(w.alloc (.cells #[.int .i64 6,.int .i64 a,.int .i64 b,.string t,.string cls,.string name] 34)).cell? ⟨B,9,none⟩=some (.int .i64 c.pc):=A.cal.blk.cell 9;have C:=Xh A;have Y:=Xh H;clear A h I H;go_enter func88,ntmps88;go_upto_region 2 with fail;generalize w.alloc (.cells #[.int .i64 6,.int .i64 a,.int .i64 b,.string t,.string cls,.string name] 34)=l at *;go_wp2_with (go_fit (C.out.pop R.out);rintro e k⟨rfl,M,U,V,N⟩)
 go_ret;exact⟨rfl,V.post⟩
theorem QdY(base:Nat)(w:World)(C:Nat)(F G H I:Value)(c:Cal)(h:ZE base w C F G H I c)(J:c.S.length<=4194304)(M:c.pc<=4194304)(a b:Int)(t cls name:Str)(T:List Val)(v:Val)(D:c.S=T++[v]):
 Calls prog 88 #[.pointer (some ⟨C,0,none⟩),.agg #[.int .i64 7,.int .i64 a,.int .i64 b,.string t,.string cls,.string name]] w (Z6 base w C F G H I c (some (.int .i64 ((c.pc:Int)+1),c.L,c.S++[v]))):=by
 have B:=CW.start h [.int .i64 7,.int .i64 a,.int .i64 b,.string t,.string cls,.string name];have P:=zac M;have R:=B.cal.blk.lt;have N:c.S[T.length]? = some v:=by rw[D];simp
 obtain⟨g,cap,rfl,l,m,n,_,_⟩:=qbM B.cal.stack N;have A:c.S.length=T.length+1:=by rw[D];simp
 have U:(w.alloc (.cells #[.int .i64 7,.int .i64 a,.int .i64 b,.string t,.string cls,.string name] 34)).cell? ⟨C,11,none⟩=some (.slice (some ⟨g,0,none⟩) (T.length+1) cap):=by rw[<-A];exact B.cal.blk.cell 11
 have i:wrap64 (T.length:Int)=(T.length:Int):=by unfold wrap64;omega
 have V:(0:Int)<=(T.length:Int):=by omega
 have X:(T.length:Int)<(T.length:Int)+1:=by omega
 have j:IntKind.i64.wrap (T.length:Int)=(T.length:Int):=IntWalk.i64_in _ (by omega);clear N D A;obtain⟨o,p,q,r,s,x⟩:=B.cells;have k:(w.alloc (.cells #[.int .i64 7,.int .i64 a,.int .i64 b,.string t,.string cls,.string name] 34)).cell? ⟨C,9,none⟩=some (.int .i64 c.pc):=B.cal.blk.cell 9;have E:=Xh B;have Y:=Xh J;clear B h M J;go_enter func88,ntmps88;go_upto_region 2 with fail;generalize w.alloc (.cells #[.int .i64 7,.int .i64 a,.int .i64 b,.string t,.string cls,.string name] 34)=f at *;go_upto_region 14 with fail;refine wp_region_still_tail 13 (by kernel_rfl) (by kernel_rfl) ?_;simp only[List.take_succ_cons,List.take_zero,List.drop_succ_cons,List.drop_zero];repeat still_step
 refine wpStill_nil ?_;change wpList _ _ _ _ _ f.drew;go_wp2_with (go_fit (E.out.drew.put Y.out v);rintro e y⟨rfl,O,Z,d⟩)
 go_ret;exact⟨rfl,d.post⟩
theorem zdE(base:Nat)(w:World)(C:Nat)(Y Z J d:Value)(c:Cal)(h:ZE base w C Y Z J d c)(I:c.S.length<=4194304)(f:c.pc<=4194304)(a b:Int)(t cls name:Str)(T:List Val)(u v:Val)(M:c.S=T++[u]++[v]):
 Calls prog 88 #[.pointer (some ⟨C,0,none⟩),.agg #[.int .i64 8,.int .i64 a,.int .i64 b,.string t,.string cls,.string name]] w (Z6 base w C Y Z J d c (some (.int .i64 ((c.pc:Int)+1),c.L,T++[v]++[u]))):=by
 have D:=CW.start h [.int .i64 8,.int .i64 a,.int .i64 b,.string t,.string cls,.string name];have l:=zac f;have m:=D.cal.blk.lt;have o:=Xh M;have p:T.length+1<=4194304:=by rw[M]at I;simp at I;omega
 clear M;obtain⟨i0,i1,i2,i3,i4,i5⟩:=D.cells;have q9:(w.alloc (.cells #[.int .i64 8,.int .i64 a,.int .i64 b,.string t,.string cls,.string name] 34)).cell? ⟨C,9,none⟩=some (.int .i64 c.pc):=D.cal.blk.cell 9;have N:=Xh D;have HN:=Xh I;clear D h f I;go_enter func88,ntmps88;go_upto_region 2 with fail;generalize w.alloc (.cells #[.int .i64 8,.int .i64 a,.int .i64 b,.string t,.string cls,.string name] 34)=w1 at *;go_upto_region 17 with(first|(go_fit (N.out.pop o.out);rintro e w2⟨rfl,G,q,i,j⟩)|(go_fit (i.pop rfl);rintro e A⟨rfl,H,U,V,k⟩))
 have g:=(V.alloc (.cells #[.int .i64 v.kind,.int .i64 v.n] 43)).alloc (.cells #[.int .i64 u.kind,.int .i64 u.n] 43);have B:Blk ((A.alloc (.cells #[.int .i64 v.kind,.int .i64 v.n] 43)).alloc (.cells #[.int .i64 u.kind,.int .i64 u.n] 43)) A.heap.size 43 [.int .i64 v.kind,.int .i64 v.n]:=(Blk.new A _ [.int .i64 v.kind,.int .i64 v.n]).step (Xb.alloc Xl _);have E:Blk ((A.alloc (.cells #[.int .i64 v.kind,.int .i64 v.n] 43)).alloc (.cells #[.int .i64 u.kind,.int .i64 u.n] 43)) (A.heap.size+1) 43 [.int .i64 u.kind,.int .i64 u.n]:=by
  have:=Blk.new (A.alloc (.cells #[.int .i64 v.kind,.int .i64 v.n] 43)) 43 [.int .i64 u.kind,.int .i64 u.n];simpa using this
 have O:¬Qaq C J U (A.heap.size+1):=fun z=>by have:=(V.cal.in z).2;omega
 have a0:=B.cell 0;have a1:=B.cell 1;generalize (A.alloc (.cells #[.int .i64 v.kind,.int .i64 v.n] 43)).alloc (.cells #[.int .i64 u.kind,.int .i64 u.n] 43)=w4 at *;have P:=Xh g;have R:=Xh E;clear g V i B E G H;go_wp2_with (first
  |(go_fit (P.out.put (by show T.length<=_;omega) v);rintro e w5⟨rfl,X,r,s⟩;(have F:=R.out.chg X O);(have b0:=F.cell 0);(have b1:=F.cell 1))
  |(go_fit (s.put (by show(T++[v]).length<=_;simp;omega) u);rintro e w6⟨rfl,_,x,y⟩))
 go_ret;exact⟨rfl,y.post⟩
theorem Qdf(base:Nat)(w:World)(B:Nat)(E F G H:Value)(c:Cal)(h:ZE base w B E F G H c)(O:c.S.length<=4194304)(P:c.pc<=4194304)(b:Int)(t cls name:Str)(U:QX (lst t)=true)(T:List Val)(v:Val)(R:c.S=T++[v]):
 Calls prog 88 #[.pointer (some ⟨B,0,none⟩),.agg #[.int .i64 9,.int .i64 12,.int .i64 b,.string t,.string cls,.string name]] w (Z6 base w B E F G H c (if ofB 12 0 then some (.int .i64 ((c.pc:Int)+1),c.L,T++[⟨Zab t,ofN (isI t) 12 v.n 0⟩]) else none)):=by
 have C:=CW.start h [.int .i64 9,.int .i64 12,.int .i64 b,.string t,.string cls,.string name];have V:=zac P;have X:=C.cal.blk.lt;have Y:=Xh R;clear R;obtain⟨j,k,l,m,o,p⟩:=C.cells;have i:(w.alloc (.cells #[.int .i64 9,.int .i64 12,.int .i64 b,.string t,.string cls,.string name] 34)).cell? ⟨B,9,none⟩=some (.int .i64 c.pc):=C.cal.blk.cell 9;have A:=Xh C;have Z:=Xh O;clear C h P O;go_enter func88,ntmps88;go_upto_region 2 with fail;generalize w.alloc (.cells #[.int .i64 9,.int .i64 12,.int .i64 b,.string t,.string cls,.string name] 34)=g at *;obtain⟨I,J⟩:∃I,ofB 12 0=I:=⟨_,rfl⟩;have D:=Xh (Zew base g B E F G H c A.out.cal Z.out 9 b t cls name U T v Y.out);rw[J]at D ⊢;cases I with
 |false =>
  have D:Hid _:=D;go_wp2_with (go_fit D.out;rintro e f N;obtain⟨rfl,S,M⟩:=N)
  exact⟨rfl,rfl,S,(A.out.after M).2.elim fun _ T=>T.post⟩
 |true =>
  go_wp2_with (go_fit D.out;rintro e f N;obtain⟨rfl,M⟩:=N;obtain⟨_,a,d⟩:=A.out.after M)
  go_ret;exact⟨rfl,d.post⟩
theorem zdg(base:Nat)(w:World)(B:Nat)(E F G H:Value)(c:Cal)(h:ZE base w B E F G H c)(O:c.S.length<=4194304)(P:c.pc<=4194304)(a b:Int)(t cls name:Str)(V:QX (lst t)=true)(R:a≠12)(T:List Val)(u v:Val)(U:c.S=T++[u]++[v]):
 Calls prog 88 #[.pointer (some ⟨B,0,none⟩),.agg #[.int .i64 9,.int .i64 a,.int .i64 b,.string t,.string cls,.string name]] w (Z6 base w B E F G H c (if ofB a v.n then some (.int .i64 ((c.pc:Int)+1),c.L,T++[⟨Zab t,ofN (isI t) a u.n v.n⟩]) else none)):=by
 have C:=CW.start h [.int .i64 9,.int .i64 a,.int .i64 b,.string t,.string cls,.string name];have X:=zac P;have Y:=C.cal.blk.lt;have Z:=Xh U;have d:=Xh R;clear U R;obtain⟨m,o,p,q,r,s⟩:=C.cells;have l:(w.alloc (.cells #[.int .i64 9,.int .i64 a,.int .i64 b,.string t,.string cls,.string name] 34)).cell? ⟨B,9,none⟩=some (.int .i64 c.pc):=C.cal.blk.cell 9;have A:=Xh C;have f:=Xh O;clear C h P O;go_enter func88,ntmps88;go_upto_region 2 with fail;generalize w.alloc (.cells #[.int .i64 9,.int .i64 a,.int .i64 b,.string t,.string cls,.string name] 34)=k at *;obtain⟨I,J⟩:∃I,ofB a v.n=I:=⟨_,rfl⟩;have D:=Xh (qew base k B E F G H c A.out.cal f.out 9 a b t cls name V d.out T u v Z.out);rw[J]at D ⊢;cases I with
 |false =>
  have D:Hid _:=D;go_wp2_with (go_fit D.out;rintro e j N;obtain⟨rfl,S,M⟩:=N)
  exact⟨rfl,rfl,S,(A.out.after M).2.elim fun _ T=>T.post⟩
 |true =>
  go_wp2_with (go_fit D.out;rintro e j N;obtain⟨rfl,M⟩:=N;obtain⟨_,g,i⟩:=A.out.after M)
  go_ret;exact⟨rfl,i.post⟩
theorem ZdE(base:Nat)(w:World)(C:Nat)(I J M N:Value)(c:Cal)(h:ZE base w C I J M N c)(D:c.S.length<=4194304)(O:c.pc<=4194304)(a b:Int)(t cls name:Str)(T:List Val)(v:Val)(E:c.S=T++[v]):
 Calls prog 88 #[.pointer (some ⟨C,0,none⟩),.agg #[.int .i64 10,.int .i64 a,.int .i64 b,.string t,.string cls,.string name]] w (Z6 base w C I J M N c (some (.int .i64 ((c.pc:Int)+1),c.L,T++[⟨Zab t,if isI t then wrap32 v.n else v.n⟩]))):=by
 have A:=CW.start h [.int .i64 10,.int .i64 a,.int .i64 b,.string t,.string cls,.string name];have R:=zac O;have U:=A.cal.blk.lt;obtain⟨H,B⟩:∃H,isI t=H:=⟨_,rfl⟩;rw[B];unfold isI at B;have V:Hid (∀wx,_):=fun wx=>Zbz t wx
 have X:Hid (∀wx,_):=fun wx=>ZaH v.n wx
 have Y:=QaL;have Z:=Xh E;have F:T.length<=4194304:=by rw[E]at D;simp at D;omega
 clear E;obtain⟨m,o,p,q,r,s⟩:=A.cells;have j:(w.alloc (.cells #[.int .i64 10,.int .i64 a,.int .i64 b,.string t,.string cls,.string name] 34)).cell? ⟨C,9,none⟩=some (.int .i64 c.pc):=A.cal.blk.cell 9;have G:=Xh A;have k:=Xh D;clear A h O D;go_enter func88,ntmps88;go_upto_region 2 with fail;generalize w.alloc (.cells #[.int .i64 10,.int .i64 a,.int .i64 b,.string t,.string cls,.string name] 34)=z at *;cases H;all_goals
  go_wp2_with (first
   |(go_fit (G.out.pop Z.out);rintro e x⟨rfl,_,d,P,_⟩;(have l:=P.box.cell 3))
   |(go_fit (X.out _);rintro e f⟨rfl,rfl⟩)
   |(go_fit (V.out _);rintro e f⟨rfl,rfl⟩)
   |(go_fit (P.put F ⟨Zab t,_⟩);rintro e y⟨rfl,_,g,i⟩))
  go_ret;exact⟨rfl,i.post⟩
theorem Zdg(base:Nat)(w:World)(M:Nat)(V X Y Z:Value)(c:Cal)(h:ZE base w M V X Y Z c)(N:c.S.length<=4194304)(d:c.pc<=4194304)(a b:Int)(t cls name:Str)(T:List Val)(u v:Val)(P:c.S=T++[u]++[v]):
 Calls prog 88 #[.pointer (some ⟨M,0,none⟩),.agg #[.int .i64 11,.int .i64 a,.int .i64 b,.string t,.string cls,.string name]] w (Z6 base w M V X Y Z c (some (.int .i64 ((c.pc:Int)+1),c.L,T++[⟨1,zcG u.n v.n⟩]))):=by
 have D:=CW.start h [.int .i64 11,.int .i64 a,.int .i64 b,.string t,.string cls,.string name];have m:=zac d;have p:=D.cal.blk.lt;obtain⟨o,O⟩:∃o,o=zcG u.n v.n:=⟨_,rfl⟩;rw[<-O];unfold zcG at O;have R:=Xh O;clear O;have q:=QaL;have U:=Xh P;have B:T.length<=4194304:=by rw[P]at N;simp at N;omega
 clear P;obtain⟨x,y,z,i3,i4,i5⟩:=D.cells;have r:(w.alloc (.cells #[.int .i64 11,.int .i64 a,.int .i64 b,.string t,.string cls,.string name] 34)).cell? ⟨M,9,none⟩=some (.int .i64 c.pc):=D.cal.blk.cell 9;have C:=Xh D;have s:=Xh N;clear D h d N;go_enter func88,ntmps88;go_upto_region 2 with fail;generalize w.alloc (.cells #[.int .i64 11,.int .i64 a,.int .i64 b,.string t,.string cls,.string name] 34)=w1 at *;by_cases f:u.n<v.n
 ·have A:Hid (o = -1):=R.out.trans (if_pos f);go_wp2_with (first
   |(go_fit (C.out.pop U.out);rintro e j⟨rfl,_,E,F,_⟩)
   |(go_fit (F.pop rfl);rintro e k⟨rfl,_,G,H,_⟩)
   |(go_fit (H.put B ⟨1,-1⟩);rintro e l⟨rfl,_,I,J⟩))
  go_ret;exact⟨rfl,by rw[A.out];exact J.post⟩
 ·have g:=Xh f;by_cases i:v.n<u.n
  ·have A:Hid (o=1):=R.out.trans ((if_neg g.out).trans (if_pos i));go_wp2_with (first
    |(go_fit (C.out.pop U.out);rintro e j⟨rfl,_,E,F,_⟩)
    |(go_fit (F.pop rfl);rintro e k⟨rfl,_,G,H,_⟩)
    |(go_fit (H.put B ⟨1,1⟩);rintro e l⟨rfl,_,I,J⟩))
   go_ret;exact⟨rfl,by rw[A.out];exact J.post⟩
  ·have A:Hid (o=0):=R.out.trans ((if_neg g.out).trans (if_neg i));go_wp2_with (first
    |(go_fit (C.out.pop U.out);rintro e j⟨rfl,_,E,F,_⟩)
    |(go_fit (F.pop rfl);rintro e k⟨rfl,_,G,H,_⟩)
    |(go_fit (H.put B ⟨1,0⟩);rintro e l⟨rfl,_,I,J⟩))
   go_ret;exact⟨rfl,by rw[A.out];exact J.post⟩
theorem QeA(base:Nat)(w:World)(B:Nat)(F G H I:Value)(c:Cal)(h:ZE base w B F G H I c)(J:c.S.length<=4194304)(M:c.pc<=4194304)(a b:Int)(t cls name:Str)(T:List Val)(v:Val)(N:c.S=T++[v]):
 Calls prog 88 #[.pointer (some ⟨B,0,none⟩),.agg #[.int .i64 12,.int .i64 a,.int .i64 b,.string t,.string cls,.string name]] w (Z6 base w B F G H I c (some (.int .i64 (if QbE b v.n then a else ((c.pc:Int)+1)),c.L,T))):=by
 have A:=CW.start h [.int .i64 12,.int .i64 a,.int .i64 b,.string t,.string cls,.string name];have O:=zac M;have P:=A.cal.blk.lt;have R:=QaL;have U:=Xh N;have C:Hid (∀wx,_):=fun wx=>zew b v.n wx
 clear N;obtain⟨g,i,j,k,l,m⟩:=A.cells;have Y:(w.alloc (.cells #[.int .i64 12,.int .i64 a,.int .i64 b,.string t,.string cls,.string name] 34)).cell? ⟨B,9,none⟩=some (.int .i64 c.pc):=A.cal.blk.cell 9;have D:=Xh A;have Z:=Xh J;clear A h M J;go_enter func88,ntmps88;go_upto_region 2 with fail;generalize w.alloc (.cells #[.int .i64 12,.int .i64 a,.int .i64 b,.string t,.string cls,.string name] 34)=q at *;go_upto_region 35 with fail;generalize QbE b v.n=X at *;cases X;all_goals
  go_region_held3 (fun w'=>w'.cell? ⟨w.heap.size,2,none⟩=some (.int .i64 b)) (go_keep)
   (first
    |(go_fit (D.out.drew.pop U.out);rintro e o⟨rfl,_,V,E,_⟩;(have d:=E.box.cell 2))
    |(go_fit (C.out _);rintro e p⟨rfl,rfl⟩))
  all_goals
   have f:=E.box.cell 1;go_wp2_with fail;go_ret;exact⟨rfl,E.post⟩
theorem QcN(base:Nat)(w:World)(D:Nat)(H I J M:Value)(c:Cal)(h:ZE base w D H I J M c)(N:c.S.length<=4194304)(O:c.pc<=4194304)(a b:Int)(t cls name:Str)(T:List Val)(v:Val)(P:c.S=T++[v]):
 Calls prog 88 #[.pointer (some ⟨D,0,none⟩),.agg #[.int .i64 13,.int .i64 a,.int .i64 b,.string t,.string cls,.string name]] w (Z6 base w D H I J M c (some (.int .i64 (if v.n=0 then a else ((c.pc:Int)+1)),c.L,T))):=by
 have B:=CW.start h [.int .i64 13,.int .i64 a,.int .i64 b,.string t,.string cls,.string name];have U:=zac O;have V:=B.cal.blk.lt;have X:=QaL;have R:=Xh P;clear P;obtain⟨g,i,j,k,l,m⟩:=B.cells;have Z:(w.alloc (.cells #[.int .i64 13,.int .i64 a,.int .i64 b,.string t,.string cls,.string name] 34)).cell? ⟨D,9,none⟩=some (.int .i64 c.pc):=B.cal.blk.cell 9;have C:=Xh B;have d:=Xh N;clear B h O N;go_enter func88,ntmps88;go_upto_region 2 with fail;generalize w.alloc (.cells #[.int .i64 13,.int .i64 a,.int .i64 b,.string t,.string cls,.string name] 34)=o at *;by_cases A:v.n=0
 ·have F:(v.n==0)=true:=by simpa using A
  have A:=Xh A;go_wp2_with (go_fit (C.out.pop R.out);rintro e Y⟨rfl,_,G,E,_⟩;(have f:=E.box.cell 1))
  go_ret;exact⟨rfl,E.post⟩
 ·have F:(v.n==0)=false:=by simpa using A
  have A:=Xh A;go_wp2_with (go_fit (C.out.pop R.out);rintro e Y⟨rfl,_,G,E,_⟩)
  go_ret;exact⟨rfl,E.post⟩
theorem qdE(base:Nat)(w:World)(B:Nat)(D E F G:Value)(c:Cal)(h:ZE base w B D E F G c)(H:c.S.length<=4194304)(I:c.pc<=4194304)(a b:Int)(t cls name:Str):
 Calls prog 88 #[.pointer (some ⟨B,0,none⟩),.agg #[.int .i64 14,.int .i64 a,.int .i64 b,.string t,.string cls,.string name]] w (Z6 base w B D E F G c (some (.int .i64 a,c.L,c.S))):=by
 have A:=CW.start h [.int .i64 14,.int .i64 a,.int .i64 b,.string t,.string cls,.string name];have J:=zac I;have M:=A.cal.blk.lt;obtain⟨P,R,T,U,V,X⟩:=A.cells;have N:(w.alloc (.cells #[.int .i64 14,.int .i64 a,.int .i64 b,.string t,.string cls,.string name] 34)).cell? ⟨B,9,none⟩=some (.int .i64 c.pc):=A.cal.blk.cell 9;have C:=Xh A;have O:=Xh H;clear A h I H;go_enter func88,ntmps88;go_upto_region 2 with fail;generalize w.alloc (.cells #[.int .i64 14,.int .i64 a,.int .i64 b,.string t,.string cls,.string name] 34)=Y at *;go_wp2_with fail;go_ret;exact⟨rfl,C.out.post⟩
theorem QdE(base:Nat)(w:World)(C:Nat)(F G H I:Value)(c:Cal)(h:ZE base w C F G H I c)(J:c.S.length<=4194304)(M:c.pc<=4194304)(A a b:Int)(t cls name:Str)(N:A=1\/15<=A):
 Calls prog 88 #[.pointer (some ⟨C,0,none⟩),.agg #[.int .i64 A,.int .i64 a,.int .i64 b,.string t,.string cls,.string name]] w (Z6 base w C F G H I c (some (.int .i64 ((c.pc:Int)+1),c.L,c.S))):=by
 have B:=CW.start h [.int .i64 A,.int .i64 a,.int .i64 b,.string t,.string cls,.string name];have D:=zac M;have O:=B.cal.blk.lt;have X:(A==2)=false:=by simp;omega
 have Y:(A==3)=false:=by simp;omega
 have Z:(A==4)=false:=by simp;omega
 have d:(A==5)=false:=by simp;omega
 have e:(A==6)=false:=by simp;omega
 have f:(A==7)=false:=by simp;omega
 have g:(A==8)=false:=by simp;omega
 have i:(A==9)=false:=by simp;omega
 have P:(A==10)=false:=by simp;omega
 have R:(A==11)=false:=by simp;omega
 have T:(A==12)=false:=by simp;omega
 have U:(A==13)=false:=by simp;omega
 have V:(A==14)=false:=by simp;omega
 clear N;obtain⟨l,m,n,o,p,q⟩:=B.cells;have j:(w.alloc (.cells #[.int .i64 A,.int .i64 a,.int .i64 b,.string t,.string cls,.string name] 34)).cell? ⟨C,9,none⟩=some (.int .i64 c.pc):=B.cal.blk.cell 9;have E:=Xh B;have k:=Xh J;clear B h M J;go_enter func88,ntmps88;go_upto_region 2 with fail;generalize w.alloc (.cells #[.int .i64 A,.int .i64 a,.int .i64 b,.string t,.string cls,.string name] 34)=r at *;go_wp2_with fail;go_ret;exact⟨by simp[D],E.out.post⟩
structure qcE (x:Ins) (L S:List Val):Prop where
 load:x.op=4->∃v,L[x.a.toNat]? = some v
 store:x.op=5->x.a.toNat<L.length
 pos:x.op=4\/x.op=5\/x.op=12\/x.op=13\/x.op=14->0<=x.a
 one:x.op=5\/x.op=6\/x.op=7\/x.op=10\/x.op=12\/x.op=13\/(x.op=9/\x.a=12)->1<=S.length
 two:x.op=8\/x.op=11\/(x.op=9/\x.a≠12)->2<=S.length
 word:x.op=9->QX (lst x.type)=true
theorem zaw{S:List Val}(h:1<=S.length):S=S.dropLast++[Qj S]:=by
 rcases List.eq_nil_or_concat S with rfl|⟨r,v,rfl⟩
 ·simp at h
 ·rw[List.concat_eq_append];unfold Qj;simp
theorem zb8{S:List Val}(h:2<=S.length):S=S.dropLast.dropLast++[Qj S.dropLast]++[Qj S]:=by
 have A:=zaw (S:=S) (by omega);have B:=zaw (S:=S.dropLast) (by rw[List.length_dropLast];omega);rw[<-B];exact A
theorem qbj(base:Nat)(w:World)(A:Nat)(B C D E:Value)(c:Cal)(h:ZE base w A B C D E c)(G:c.S.length<=4194304)(H:c.pc<=4194304)(x:Ins)(Y:qcE x c.L c.S)(Z:1<=x.op):
 Calls prog 88 #[.pointer (some ⟨A,0,none⟩),zaq x] w (Z6 base w A B C D E c ((zao c.pc x c.L c.S).map fun p=>(.int .i64 (p.1:Int),p.2.1,p.2.2))):=by
 obtain⟨F,a,b,t,cls,name⟩:=x;have M:F=2\/F=3\/F=4\/F=5\/F=6\/F=7\/F=8\/F=9\/F=10\/F=11\/F=12\/F=13\/F=14\/(F=1\/15<=F):=by dsimp only at Z;omega
 obtain⟨V,X,N,J,R,T⟩:=Y;dsimp only at V X N J R T;have O:((c.pc+1:Nat):Int)=(c.pc:Int)+1:=by omega
 unfold zaq;rcases M with rfl|rfl|rfl|rfl|rfl|rfl|rfl|rfl|rfl|rfl|rfl|rfl|rfl|U
 ·exact ZdD base w A B C D E c h G H a b t cls name
 ·exact qdD base w A B C D E c h G H a b t cls name
 ·obtain⟨v,P⟩:=V rfl;have I:=N (by simp);have:=QdD base w A B C D E c h G H a.toNat b t cls name v P;rw[Int.toNat_of_nonneg I]at this;show Calls _ _ _ _ (Z6 base w A B C D E c (some (.int .i64 ((c.pc+1:Nat):Int),c.L,c.S++[c.L.getD a.toNat v0])))
  rw[List.getD_eq_getElem?_getD,P];exact this
 ·have I:=N (by simp);have:=qdf base w A B C D E c h G H a.toNat b t cls name _ _ (zaw (J (by simp))) (X rfl);rw[Int.toNat_of_nonneg I]at this;exact this
 ·exact qdY base w A B C D E c h G H a b t cls name _ _ (zaw (J (by simp)))
 ·exact QdY base w A B C D E c h G H a b t cls name _ _ (zaw (J (by simp)))
 ·have:=zdE base w A B C D E c h G H a b t cls name _ _ _ (zb8 (R (by simp)));rw[List.append_assoc]at this;exact this
 ·by_cases I:a=12
  ·subst I;have:=Qdf base w A B C D E c h G H b t cls name (T rfl) _ _ (zaw (J (by simp)));exact this
  ·have:=zdg base w A B C D E c h G H a b t cls name (T rfl) I _ _ _ (zb8 (R (by simp[I])));have e:zao c.pc ⟨9,a,b,t,cls,name⟩ c.L c.S=if ofB a (Qj c.S).n then some (c.pc+1,c.L,c.S.dropLast.dropLast++[⟨Zab t,ofN (isI t) a (Qj c.S.dropLast).n (Qj c.S).n⟩]) else none:=by
    show(if a=12 then _ else _)=_
    rw[if_neg I]
   rw[e];generalize ofB a (Qj c.S).n=d at *;cases d<;>exact this
 ·exact ZdE base w A B C D E c h G H a b t cls name _ _ (zaw (J (by simp)))
 ·exact Zdg base w A B C D E c h G H a b t cls name _ _ _ (zb8 (R (by simp)))
 ·have I:=N (by simp);have:=QeA base w A B C D E c h G H a b t cls name _ _ (zaw (J (by simp)));show Calls _ _ _ _ (Z6 base w A B C D E c (some (.int .i64 ((if QbE b (Qj c.S).n then a.toNat else c.pc+1:Nat):Int),c.L,c.S.dropLast)))
  have e:((if QbE b (Qj c.S).n then a.toNat else c.pc+1:Nat):Int)=if QbE b (Qj c.S).n then a else (c.pc:Int)+1:=by
   cases QbE b (Qj c.S).n
   ·exact O
   ·exact Int.toNat_of_nonneg I
  rw[e];exact this
 ·have I:=N (by simp);have:=QcN base w A B C D E c h G H a b t cls name _ _ (zaw (J (by simp)));show Calls _ _ _ _ (Z6 base w A B C D E c (some (.int .i64 ((if (Qj c.S).n=0 then a.toNat else c.pc+1:Nat):Int),c.L,c.S.dropLast)))
  have e:((if (Qj c.S).n=0 then a.toNat else c.pc+1:Nat):Int)=if (Qj c.S).n=0 then a else (c.pc:Int)+1:=by
   split
   ·exact Int.toNat_of_nonneg I
   ·exact O
  rw[e];exact this
 ·have I:=N (by simp);have:=qdE base w A B C D E c h G H a b t cls name;show Calls _ _ _ _ (Z6 base w A B C D E c (some (.int .i64 (a.toNat:Int),c.L,c.S)))
  rw[Int.toNat_of_nonneg I];exact this
 ·have e:zao c.pc ⟨F,a,b,t,cls,name⟩ c.L c.S=some (c.pc+1,c.L,c.S):=by
   unfold zao;dsimp only;repeat rw[if_neg (by omega)]
  rw[e];exact QdE base w A B C D E c h G H F a b t cls name U
