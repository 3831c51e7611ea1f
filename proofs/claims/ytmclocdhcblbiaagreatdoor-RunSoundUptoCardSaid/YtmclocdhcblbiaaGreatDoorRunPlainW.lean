/- Lemmas; conditions: as each states. -/
import Derived.Test.YtmclocdhcblbiaaGreatDoorRunCal
set_option maxHeartbeats 4000000
namespace Go.Proofs.YtmclocdhcblbiaaGreatDoor
open Go.RowKit Go.Shelf Go.Lib
theorem Zaa{n:Nat}(h:n<=4194304):wrap64 ((n:Int)+1)=(n:Int)+1:=by unfold wrap64;omega
theorem ZbK{w:World}{base:Nat}{t:TypeId}{v:Value}{l:List Val}(h:w.ownsRow base t 2 v l.length (l.flatMap qt)){k:Nat}{x:Val}(B:l[k]? = some x):
 ∃g cap,v=.slice (some ⟨g,0,none⟩) l.length cap/\g<w.heap.size/\w.cell? ⟨g,k*2,none⟩=some (.int .i64 x.kind)/\w.cell? ⟨g,k*2+1,none⟩=some (.int .i64 x.n)/\w.frozen? ⟨g,k*2,none⟩=false/\w.frozen? ⟨g,k*2+1,none⟩=false:=by
 obtain⟨p,c,rfl⟩:=Qd h;obtain⟨g,rfl,_,C,A⟩:=Qbd qaF h rfl B;exact⟨g,c,rfl,C,A 0 (by decide),A 1 (by decide),h.frozenAt _,h.frozenAt _⟩
theorem CW.local{base:Nat}{w:World}{E:Nat}{G H I:Value}{F:Nat}{J:List Value}{wx:World}{A:Value}{c:Cal}{g n cap k:Nat}(T:CW base w E G H (.slice (some ⟨g,0,none⟩) n cap) I F J wx A c)(N:k<c.L.length)(v:Val):
 CW base w E G H (.slice (some ⟨g,0,none⟩) n cap) I F J ((wx.setCell ⟨g,k*2,none⟩ (.int .i64 v.kind)).setCell ⟨g,k*2+1,none⟩ (.int .i64 v.n)) A { c with L:=c.L.set k v }:=by
 have M:=T.cal.locals;have O:n=c.L.length:=by
  obtain⟨_,R|⟨U,c',S,k,_⟩⟩:=M
  ·cases R.1
  ·injection k
 subst O;have P:Qao E (.slice (some ⟨g,0,none⟩) c.L.length cap) A g:=Or.inr (Or.inl rfl);have B:F≠g:=fun e=>T.far (by rw[e];exact P)
 have C:E≠g:=fun e=>T.cal.lfar (by rw[e];rfl)
 have D:A.ownBlock≠some g:=T.cal.apart g rfl;refine⟨(T.chg.set (p:=⟨g,k*2,none⟩) (fun _=>Or.inr (Or.inl rfl)) (.int .i64 v.kind)).set (p:=⟨g,k*2+1,none⟩) (fun _=>Or.inr (Or.inl rfl)) (.int .i64 v.n),⟨(T.cal.blk.other C _ _).other C _ _,?_,ZX (ZX T.cal.stack D _ _) D _ _,T.cal.apart,T.cal.lfar,T.cal.sfar,T.cal.low⟩,T.new,(T.box.other B _ _).other B _ _,T.far⟩;have:=Zbo M N v;simpa using this
set_option maxRecDepth 100000
theorem qdz(base:Nat)(w:World)(C:Nat)(E F G H:Value)(c:Cal)(h:QD base w C E F G H c)(I:c.S.length<=4194304)(J:c.pc<=4194304)(a b:Int)(t cls A:Str):
 Calls Tryz.prog 88 #[.pointer (some ⟨C,0,none⟩),.agg #[.int .i64 2,.int .i64 a,.int .i64 b,.string t,.string cls,.string A]] w (Q1 base w C E F G H c (some (.int .i64 ((c.pc:Int)+1),c.L,c.S++[⟨zag t,a⟩]))):=by
 have B:=CW.start h [.int .i64 2,.int .i64 a,.int .i64 b,.string t,.string cls,.string A];have N:=Zaa J;have O:=B.cal.blk.lt;have P:Hid (∀wx,_):=fun wx=>Qdw t wx
 obtain⟨Y,Z,d,f,g,i⟩:=B.cells;have X:(w.alloc (.cells #[.int .i64 2,.int .i64 a,.int .i64 b,.string t,.string cls,.string A] 34)).cell? ⟨C,9,none⟩=some (.int .i64 c.pc):=B.cal.blk.cell 9;have D:=Xh B;have R:=Xh I;clear B h J I;go_enter Tryz.func88,Tryz.ntmps88;go_upto_region 2 with fail;generalize w.alloc (.cells #[.int .i64 2,.int .i64 a,.int .i64 b,.string t,.string cls,.string A] 34)=V at *;go_upto_region 4 with fail;refine wp_region_still_tail 7 (by kernel_rfl) (by kernel_rfl) ?_;simp only[List.take_succ_cons,List.take_zero,List.drop_succ_cons,List.drop_zero];repeat still_step
 still_call (P.out _)
 repeat still_step
 refine wpStill_nil ?_;change wpList _ _ _ _ _ V.drew;go_wp2_with (go_fit (D.out.drew.put R.out ⟨zag t,a⟩);rintro e j⟨rfl,M,T,U⟩)
 go_ret;exact⟨rfl,U.post⟩
theorem Qdz(base:Nat)(w:World)(C:Nat)(E F G H:Value)(c:Cal)(h:QD base w C E F G H c)(I:c.S.length<=4194304)(J:c.pc<=4194304)(a b:Int)(t cls A:Str):
 Calls Tryz.prog 88 #[.pointer (some ⟨C,0,none⟩),.agg #[.int .i64 3,.int .i64 a,.int .i64 b,.string t,.string cls,.string A]] w (Q1 base w C E F G H c (some (.int .i64 ((c.pc:Int)+1),c.L,c.S++[⟨3,0⟩]))):=by
 have B:=CW.start h [.int .i64 3,.int .i64 a,.int .i64 b,.string t,.string cls,.string A];have N:=Zaa J;have O:=B.cal.blk.lt;obtain⟨V,X,Y,Z,d,f⟩:=B.cells;have U:(w.alloc (.cells #[.int .i64 3,.int .i64 a,.int .i64 b,.string t,.string cls,.string A] 34)).cell? ⟨C,9,none⟩=some (.int .i64 c.pc):=B.cal.blk.cell 9;have D:=Xh B;have P:=Xh I;clear B h J I;go_enter Tryz.func88,Tryz.ntmps88;go_upto_region 2 with fail;generalize w.alloc (.cells #[.int .i64 3,.int .i64 a,.int .i64 b,.string t,.string cls,.string A] 34)=i at *;go_wp2_with (go_fit (D.out.put P.out ⟨3,0⟩);rintro e g⟨rfl,M,R,T⟩)
 go_ret;exact⟨rfl,T.post⟩
theorem zdA(base:Nat)(w:World)(C:Nat)(F G H I:Value)(c:Cal)(h:QD base w C F G H I c)(J:c.S.length<=4194304)(M:c.pc<=4194304)(k:Nat)(b:Int)(t cls A:Str)(x:Val)(D:c.L[k]? = some x):
 Calls Tryz.prog 88 #[.pointer (some ⟨C,0,none⟩),.agg #[.int .i64 4,.int .i64 (k:Int),.int .i64 b,.string t,.string cls,.string A]] w (Q1 base w C F G H I c (some (.int .i64 ((c.pc:Int)+1),c.L,c.S++[x]))):=by
 have B:=CW.start h [.int .i64 4,.int .i64 (k:Int),.int .i64 b,.string t,.string cls,.string A];have P:=Zaa M;have R:=B.cal.blk.lt;have N:=B.cal.locals;obtain⟨g,cap,rfl,i,j,l,_,_⟩:=ZbK N D;have d:=(List.getElem?_eq_some_iff.1 D).1;have T:(0:Int)<=(k:Int):=by omega
 have U:(k:Int)<(c.L.length:Int):=by omega
 have V:(w.alloc (.cells #[.int .i64 4,.int .i64 (k:Int),.int .i64 b,.string t,.string cls,.string A] 34)).cell? ⟨C,10,none⟩=some (.slice (some ⟨g,0,none⟩) c.L.length cap):=B.cal.blk.cell 10;clear N D;obtain⟨m,n,o,p,q,r⟩:=B.cells;have f:(w.alloc (.cells #[.int .i64 4,.int .i64 (k:Int),.int .i64 b,.string t,.string cls,.string A] 34)).cell? ⟨C,9,none⟩=some (.int .i64 c.pc):=B.cal.blk.cell 9;have E:=Xh B;have X:=Xh J;clear B h M J;go_enter Tryz.func88,Tryz.ntmps88;go_upto_region 2 with fail;generalize w.alloc (.cells #[.int .i64 4,.int .i64 (k:Int),.int .i64 b,.string t,.string cls,.string A] 34)=a at *;go_upto_region 8 with fail;refine wp_region_still_tail 9 (by kernel_rfl) (by kernel_rfl) ?_;simp only[List.take_succ_cons,List.take_zero,List.drop_succ_cons,List.drop_zero];repeat still_step
 refine wpStill_nil ?_;change wpList _ _ _ _ _ a.drew;go_wp2_with (go_fit (E.out.drew.put X.out x);rintro e s⟨rfl,O,Y,Z⟩)
 go_ret;exact⟨rfl,Z.post⟩
theorem Zde(base:Nat)(w:World)(B:Nat)(N O P R:Value)(c:Cal)(h:QD base w B N O P R c)(U:c.S.length<=4194304)(V:c.pc<=4194304)(k:Nat)(b:Int)(t cls A:Str)(T:List Val)(v:Val)(X:c.S=T++[v])(Y:k<c.L.length):
 Calls Tryz.prog 88 #[.pointer (some ⟨B,0,none⟩),.agg #[.int .i64 5,.int .i64 (k:Int),.int .i64 b,.string t,.string cls,.string A]] w (Q1 base w B N O P R c (some (.int .i64 ((c.pc:Int)+1),c.L.set k v,T))):=by
 have C:=CW.start h [.int .i64 5,.int .i64 (k:Int),.int .i64 b,.string t,.string cls,.string A];have a:=Zaa V;have d:=C.cal.blk.lt;obtain⟨x,J⟩:∃x,c.L[k]? = some x:=⟨_,Xn Y⟩;have Z:=C.cal.locals;obtain⟨g,cap,rfl,hg,_⟩:=ZbK Z J;have f:(0:Int)<=(k:Int):=by omega
 have i:(k:Int)<(c.L.length:Int):=by omega
 have j:(w.alloc (.cells #[.int .i64 5,.int .i64 (k:Int),.int .i64 b,.string t,.string cls,.string A] 34)).cell? ⟨B,10,none⟩=some (.slice (some ⟨g,0,none⟩) c.L.length cap):=C.cal.blk.cell 10;have l:=Xh X;have m:=Xh J;have F:¬B=g:=fun e=>C.cal.lfar (by rw[e];rfl)
 have n:¬g=B:=fun e=>F e.symm
 have G:¬w.heap.size=g:=by have:=(h.locals.lt g rfl).2;omega
 have o:¬g=w.heap.size:=fun e=>G e.symm
 clear Z J X;obtain⟨i0,i1,i2,i3,i4,i5⟩:=C.cells;have s:(w.alloc (.cells #[.int .i64 5,.int .i64 (k:Int),.int .i64 b,.string t,.string cls,.string A] 34)).cell? ⟨B,9,none⟩=some (.int .i64 c.pc):=C.cal.blk.cell 9;have H:=Xh C;have y:=Xh U;clear C h V U;go_enter Tryz.func88,Tryz.ntmps88;go_upto_region 2 with fail;generalize w.alloc (.cells #[.int .i64 5,.int .i64 (k:Int),.int .i64 b,.string t,.string cls,.string A] 34)=w1 at *;go_upto_region 10 with fail;go_region_held3 (fun w'=>w'.cell? ⟨B,10,none⟩=some (.slice (some ⟨g,0,none⟩) c.L.length cap)/\w'.cell? ⟨w.heap.size,1,none⟩=some (.int .i64 (k:Int))) (go_keep)
  (first|(go_fit (H.out.drew.pop l.out);rintro e w2⟨rfl,_,r,E,_⟩;(have z:=E.box.cell 1);(have j2:=E.cal.blk.cell 10);(have I:=Xh E);obtain⟨p,D,M,q,y0,y1,f0,f1⟩:=ZbK E.cal.locals m.out;obtain⟨rfl,rfl⟩:g=p/\cap=D:=by simpa using M))
 all_goals
  go_wp2_with fail;go_ret;exact⟨rfl,(I.out.local Y v).post⟩
theorem zdV(base:Nat)(w:World)(C:Nat)(E F G H:Value)(c:Cal)(h:QD base w C E F G H c)(I:c.S.length<=4194304)(J:c.pc<=4194304)(a b:Int)(t cls A:Str)(T:List Val)(v:Val)(M:c.S=T++[v]):
 Calls Tryz.prog 88 #[.pointer (some ⟨C,0,none⟩),.agg #[.int .i64 6,.int .i64 a,.int .i64 b,.string t,.string cls,.string A]] w (Q1 base w C E F G H c (some (.int .i64 ((c.pc:Int)+1),c.L,T))):=by
 have B:=CW.start h [.int .i64 6,.int .i64 a,.int .i64 b,.string t,.string cls,.string A];have P:=Zaa J;have R:=B.cal.blk.lt;have U:=Xh M;clear M;obtain⟨d,f,g,i,j,k⟩:=B.cells;have Y:(w.alloc (.cells #[.int .i64 6,.int .i64 a,.int .i64 b,.string t,.string cls,.string A] 34)).cell? ⟨C,9,none⟩=some (.int .i64 c.pc):=B.cal.blk.cell 9;have D:=Xh B;have Z:=Xh I;clear B h J I;go_enter Tryz.func88,Tryz.ntmps88;go_upto_region 2 with fail;generalize w.alloc (.cells #[.int .i64 6,.int .i64 a,.int .i64 b,.string t,.string cls,.string A] 34)=m at *;go_wp2_with (go_fit (D.out.pop U.out);rintro e l⟨rfl,N,V,X,O⟩)
 go_ret;exact⟨rfl,X.post⟩
theorem ZdV(base:Nat)(w:World)(D:Nat)(G H I J:Value)(c:Cal)(h:QD base w D G H I J c)(M:c.S.length<=4194304)(N:c.pc<=4194304)(a b:Int)(t cls A:Str)(T:List Val)(v:Val)(E:c.S=T++[v]):
 Calls Tryz.prog 88 #[.pointer (some ⟨D,0,none⟩),.agg #[.int .i64 7,.int .i64 a,.int .i64 b,.string t,.string cls,.string A]] w (Q1 base w D G H I J c (some (.int .i64 ((c.pc:Int)+1),c.L,c.S++[v]))):=by
 have C:=CW.start h [.int .i64 7,.int .i64 a,.int .i64 b,.string t,.string cls,.string A];have R:=Zaa N;have U:=C.cal.blk.lt;have O:c.S[T.length]? = some v:=by rw[E];simp
 obtain⟨g,cap,rfl,m,n,o,_,_⟩:=ZbK C.cal.stack O;have B:c.S.length=T.length+1:=by rw[E];simp
 have V:(w.alloc (.cells #[.int .i64 7,.int .i64 a,.int .i64 b,.string t,.string cls,.string A] 34)).cell? ⟨D,11,none⟩=some (.slice (some ⟨g,0,none⟩) (T.length+1) cap):=by rw[<-B];exact C.cal.blk.cell 11
 have j:wrap64 (T.length:Int)=(T.length:Int):=by unfold wrap64;omega
 have X:(0:Int)<=(T.length:Int):=by omega
 have Y:(T.length:Int)<(T.length:Int)+1:=by omega
 have k:IntKind.i64.wrap (T.length:Int)=(T.length:Int):=IntWalk.i64_in _ (by omega);clear O E B;obtain⟨p,q,r,s,x,y⟩:=C.cells;have l:(w.alloc (.cells #[.int .i64 7,.int .i64 a,.int .i64 b,.string t,.string cls,.string A] 34)).cell? ⟨D,9,none⟩=some (.int .i64 c.pc):=C.cal.blk.cell 9;have F:=Xh C;have Z:=Xh M;clear C h N M;go_enter Tryz.func88,Tryz.ntmps88;go_upto_region 2 with fail;generalize w.alloc (.cells #[.int .i64 7,.int .i64 a,.int .i64 b,.string t,.string cls,.string A] 34)=i at *;go_upto_region 14 with fail;refine wp_region_still_tail 13 (by kernel_rfl) (by kernel_rfl) ?_;simp only[List.take_succ_cons,List.take_zero,List.drop_succ_cons,List.drop_zero];repeat still_step
 refine wpStill_nil ?_;change wpList _ _ _ _ _ i.drew;go_wp2_with (go_fit (F.out.drew.put Z.out v);rintro e z⟨rfl,P,d,f⟩)
 go_ret;exact⟨rfl,f.post⟩
theorem ZdA(base:Nat)(w:World)(D:Nat)(Z d M f:Value)(c:Cal)(h:QD base w D Z d M f c)(J:c.S.length<=4194304)(g:c.pc<=4194304)(a b:Int)(t cls A:Str)(T:List Val)(u v:Val)(N:c.S=T++[u]++[v]):
 Calls Tryz.prog 88 #[.pointer (some ⟨D,0,none⟩),.agg #[.int .i64 8,.int .i64 a,.int .i64 b,.string t,.string cls,.string A]] w (Q1 base w D Z d M f c (some (.int .i64 ((c.pc:Int)+1),c.L,T++[v]++[u]))):=by
 have E:=CW.start h [.int .i64 8,.int .i64 a,.int .i64 b,.string t,.string cls,.string A];have m:=Zaa g;have o:=E.cal.blk.lt;have p:=Xh N;have q:T.length+1<=4194304:=by rw[N]at J;simp at J;omega
 clear N;obtain⟨i0,i1,i2,i3,i4,i5⟩:=E.cells;have q9:(w.alloc (.cells #[.int .i64 8,.int .i64 a,.int .i64 b,.string t,.string cls,.string A] 34)).cell? ⟨D,9,none⟩=some (.int .i64 c.pc):=E.cal.blk.cell 9;have O:=Xh E;have HN:=Xh J;clear E h g J;go_enter Tryz.func88,Tryz.ntmps88;go_upto_region 2 with fail;generalize w.alloc (.cells #[.int .i64 8,.int .i64 a,.int .i64 b,.string t,.string cls,.string A] 34)=w1 at *;go_upto_region 17 with(first|(go_fit (O.out.pop p.out);rintro e w2⟨rfl,H,r,j,k⟩)|(go_fit (j.pop rfl);rintro e B⟨rfl,I,V,X,l⟩))
 have i:=(X.alloc (.cells #[.int .i64 v.kind,.int .i64 v.n] 43)).alloc (.cells #[.int .i64 u.kind,.int .i64 u.n] 43);have C:Blk ((B.alloc (.cells #[.int .i64 v.kind,.int .i64 v.n] 43)).alloc (.cells #[.int .i64 u.kind,.int .i64 u.n] 43)) B.heap.size 43 [.int .i64 v.kind,.int .i64 v.n]:=(Blk.new B _ [.int .i64 v.kind,.int .i64 v.n]).step (Xb.alloc Xl _);have F:Blk ((B.alloc (.cells #[.int .i64 v.kind,.int .i64 v.n] 43)).alloc (.cells #[.int .i64 u.kind,.int .i64 u.n] 43)) (B.heap.size+1) 43 [.int .i64 u.kind,.int .i64 u.n]:=by
  have:=Blk.new (B.alloc (.cells #[.int .i64 v.kind,.int .i64 v.n] 43)) 43 [.int .i64 u.kind,.int .i64 u.n];simpa using this
 have P:¬Qao D M V (B.heap.size+1):=fun hx=>by have:=(X.cal.in hx).2;omega
 have a0:=C.cell 0;have a1:=C.cell 1;generalize (B.alloc (.cells #[.int .i64 v.kind,.int .i64 v.n] 43)).alloc (.cells #[.int .i64 u.kind,.int .i64 u.n] 43)=w4 at *;have R:=Xh i;have U:=Xh F;clear i X j C F H I;go_wp2_with (first
  |(go_fit (R.out.put (by show T.length<=_;omega) v);rintro e w5⟨rfl,Y,s,x⟩;(have G:=U.out.chg Y P);(have b0:=G.cell 0);(have b1:=G.cell 1))
  |(go_fit (x.put (by show(T++[v]).length<=_;simp;omega) u);rintro e w6⟨rfl,_,y,z⟩))
 go_ret;exact⟨rfl,z.post⟩
theorem qde(base:Nat)(w:World)(C:Nat)(F G H I:Value)(c:Cal)(h:QD base w C F G H I c)(P:c.S.length<=4194304)(R:c.pc<=4194304)(b:Int)(t cls A:Str)(V:ZO (lst t)=true)(T:List Val)(v:Val)(U:c.S=T++[v]):
 Calls Tryz.prog 88 #[.pointer (some ⟨C,0,none⟩),.agg #[.int .i64 9,.int .i64 12,.int .i64 b,.string t,.string cls,.string A]] w (Q1 base w C F G H I c (if ofB 12 0 then some (.int .i64 ((c.pc:Int)+1),c.L,T++[⟨zag t,ofN (isI t) 12 v.n 0⟩]) else none)):=by
 have D:=CW.start h [.int .i64 9,.int .i64 12,.int .i64 b,.string t,.string cls,.string A];have X:=Zaa R;have Y:=D.cal.blk.lt;have Z:=Xh U;clear U;obtain⟨k,l,m,o,p,q⟩:=D.cells;have j:(w.alloc (.cells #[.int .i64 9,.int .i64 12,.int .i64 b,.string t,.string cls,.string A] 34)).cell? ⟨C,9,none⟩=some (.int .i64 c.pc):=D.cal.blk.cell 9;have B:=Xh D;have a:=Xh P;clear D h R P;go_enter Tryz.func88,Tryz.ntmps88;go_upto_region 2 with fail;generalize w.alloc (.cells #[.int .i64 9,.int .i64 12,.int .i64 b,.string t,.string cls,.string A] 34)=i at *;obtain⟨J,M⟩:∃J,ofB 12 0=J:=⟨_,rfl⟩;have E:=Xh (Zeu base i C F G H I c B.out.cal a.out 9 b t cls A V T v Z.out);rw[M]at E ⊢;cases J with
 |false =>
  have E:Hid _:=E;go_wp2_with (go_fit E.out;rintro e g O;obtain⟨rfl,S,N⟩:=O)
  exact⟨rfl,rfl,S,(B.out.after N).2.elim fun _ T=>T.post⟩
 |true =>
  go_wp2_with (go_fit E.out;rintro e g O;obtain⟨rfl,N⟩:=O;obtain⟨_,d,f⟩:=B.out.after N)
  go_ret;exact⟨rfl,f.post⟩
theorem Qde(base:Nat)(w:World)(C:Nat)(F G H I:Value)(c:Cal)(h:QD base w C F G H I c)(P:c.S.length<=4194304)(R:c.pc<=4194304)(a b:Int)(t cls A:Str)(X:ZO (lst t)=true)(U:a≠12)(T:List Val)(u v:Val)(V:c.S=T++[u]++[v]):
 Calls Tryz.prog 88 #[.pointer (some ⟨C,0,none⟩),.agg #[.int .i64 9,.int .i64 a,.int .i64 b,.string t,.string cls,.string A]] w (Q1 base w C F G H I c (if ofB a v.n then some (.int .i64 ((c.pc:Int)+1),c.L,T++[⟨zag t,ofN (isI t) a u.n v.n⟩]) else none)):=by
 have D:=CW.start h [.int .i64 9,.int .i64 a,.int .i64 b,.string t,.string cls,.string A];have Y:=Zaa R;have Z:=D.cal.blk.lt;have d:=Xh V;have f:=Xh U;clear V U;obtain⟨o,p,q,r,s,x⟩:=D.cells;have m:(w.alloc (.cells #[.int .i64 9,.int .i64 a,.int .i64 b,.string t,.string cls,.string A] 34)).cell? ⟨C,9,none⟩=some (.int .i64 c.pc):=D.cal.blk.cell 9;have B:=Xh D;have g:=Xh P;clear D h R P;go_enter Tryz.func88,Tryz.ntmps88;go_upto_region 2 with fail;generalize w.alloc (.cells #[.int .i64 9,.int .i64 a,.int .i64 b,.string t,.string cls,.string A] 34)=l at *;obtain⟨J,M⟩:∃J,ofB a v.n=J:=⟨_,rfl⟩;have E:=Xh (qeu base l C F G H I c B.out.cal g.out 9 a b t cls A X f.out T u v d.out);rw[M]at E ⊢;cases J with
 |false =>
  have E:Hid _:=E;go_wp2_with (go_fit E.out;rintro e k O;obtain⟨rfl,S,N⟩:=O)
  exact⟨rfl,rfl,S,(B.out.after N).2.elim fun _ T=>T.post⟩
 |true =>
  go_wp2_with (go_fit E.out;rintro e k O;obtain⟨rfl,N⟩:=O;obtain⟨_,i,j⟩:=B.out.after N)
  go_ret;exact⟨rfl,j.post⟩
theorem qdA(base:Nat)(w:World)(D:Nat)(J M N O:Value)(c:Cal)(h:QD base w D J M N O c)(E:c.S.length<=4194304)(P:c.pc<=4194304)(a b:Int)(t cls A:Str)(T:List Val)(v:Val)(F:c.S=T++[v]):
 Calls Tryz.prog 88 #[.pointer (some ⟨D,0,none⟩),.agg #[.int .i64 10,.int .i64 a,.int .i64 b,.string t,.string cls,.string A]] w (Q1 base w D J M N O c (some (.int .i64 ((c.pc:Int)+1),c.L,T++[⟨zag t,if isI t then wrap32 v.n else v.n⟩]))):=by
 have B:=CW.start h [.int .i64 10,.int .i64 a,.int .i64 b,.string t,.string cls,.string A];have U:=Zaa P;have V:=B.cal.blk.lt;obtain⟨I,C⟩:∃I,isI t=I:=⟨_,rfl⟩;rw[C];unfold isI at C;have X:Hid (∀wx,_):=fun wx=>Zbx t wx
 have Y:Hid (∀wx,_):=fun wx=>QaD v.n wx
 have Z:=ZaH;have d:=Xh F;have G:T.length<=4194304:=by rw[F]at E;simp at E;omega
 clear F;obtain⟨o,p,q,r,s,x⟩:=B.cells;have k:(w.alloc (.cells #[.int .i64 10,.int .i64 a,.int .i64 b,.string t,.string cls,.string A] 34)).cell? ⟨D,9,none⟩=some (.int .i64 c.pc):=B.cal.blk.cell 9;have H:=Xh B;have l:=Xh E;clear B h P E;go_enter Tryz.func88,Tryz.ntmps88;go_upto_region 2 with fail;generalize w.alloc (.cells #[.int .i64 10,.int .i64 a,.int .i64 b,.string t,.string cls,.string A] 34)=w1 at *;cases I;all_goals
  go_wp2_with (first
   |(go_fit (H.out.pop d.out);rintro e y⟨rfl,_,f,R,_⟩;(have m:=R.box.cell 3))
   |(go_fit (Y.out _);rintro e g⟨rfl,rfl⟩)
   |(go_fit (X.out _);rintro e g⟨rfl,rfl⟩)
   |(go_fit (R.put G ⟨zag t,_⟩);rintro e z⟨rfl,_,i,j⟩))
  go_ret;exact⟨rfl,j.post⟩
theorem zdf(base:Nat)(w:World)(N:Nat)(X Y Z d:Value)(c:Cal)(h:QD base w N X Y Z d c)(O:c.S.length<=4194304)(f:c.pc<=4194304)(a b:Int)(t cls A:Str)(T:List Val)(u v:Val)(R:c.S=T++[u]++[v]):
 Calls Tryz.prog 88 #[.pointer (some ⟨N,0,none⟩),.agg #[.int .i64 11,.int .i64 a,.int .i64 b,.string t,.string cls,.string A]] w (Q1 base w N X Y Z d c (some (.int .i64 ((c.pc:Int)+1),c.L,T++[⟨1,ZcD u.n v.n⟩]))):=by
 have E:=CW.start h [.int .i64 11,.int .i64 a,.int .i64 b,.string t,.string cls,.string A];have p:=Zaa f;have q:=E.cal.blk.lt;obtain⟨o,P⟩:∃o,o=ZcD u.n v.n:=⟨_,rfl⟩;rw[<-P];unfold ZcD at P;have U:=Xh P;clear P;have r:=ZaH;have V:=Xh R;have C:T.length<=4194304:=by rw[R]at O;simp at O;omega
 clear R;obtain⟨y,z,i2,i3,i4,i5⟩:=E.cells;have s:(w.alloc (.cells #[.int .i64 11,.int .i64 a,.int .i64 b,.string t,.string cls,.string A] 34)).cell? ⟨N,9,none⟩=some (.int .i64 c.pc):=E.cal.blk.cell 9;have D:=Xh E;have x:=Xh O;clear E h f O;go_enter Tryz.func88,Tryz.ntmps88;go_upto_region 2 with fail;generalize w.alloc (.cells #[.int .i64 11,.int .i64 a,.int .i64 b,.string t,.string cls,.string A] 34)=w1 at *;by_cases g:u.n<v.n
 ·have B:Hid (o = -1):=U.out.trans (if_pos g);go_wp2_with (first
   |(go_fit (D.out.pop V.out);rintro e k⟨rfl,_,F,G,_⟩)
   |(go_fit (G.pop rfl);rintro e l⟨rfl,_,H,I,_⟩)
   |(go_fit (I.put C ⟨1,-1⟩);rintro e m⟨rfl,_,J,M⟩))
  go_ret;exact⟨rfl,by rw[B.out];exact M.post⟩
 ·have i:=Xh g;by_cases j:v.n<u.n
  ·have B:Hid (o=1):=U.out.trans ((if_neg i.out).trans (if_pos j));go_wp2_with (first
    |(go_fit (D.out.pop V.out);rintro e k⟨rfl,_,F,G,_⟩)
    |(go_fit (G.pop rfl);rintro e l⟨rfl,_,H,I,_⟩)
    |(go_fit (I.put C ⟨1,1⟩);rintro e m⟨rfl,_,J,M⟩))
   go_ret;exact⟨rfl,by rw[B.out];exact M.post⟩
  ·have B:Hid (o=0):=U.out.trans ((if_neg i.out).trans (if_neg j));go_wp2_with (first
    |(go_fit (D.out.pop V.out);rintro e k⟨rfl,_,F,G,_⟩)
    |(go_fit (G.pop rfl);rintro e l⟨rfl,_,H,I,_⟩)
    |(go_fit (I.put C ⟨1,0⟩);rintro e m⟨rfl,_,J,M⟩))
   go_ret;exact⟨rfl,by rw[B.out];exact M.post⟩
theorem Zey(base:Nat)(w:World)(C:Nat)(G H I J:Value)(c:Cal)(h:QD base w C G H I J c)(M:c.S.length<=4194304)(N:c.pc<=4194304)(a b:Int)(t cls A:Str)(T:List Val)(v:Val)(O:c.S=T++[v]):
 Calls Tryz.prog 88 #[.pointer (some ⟨C,0,none⟩),.agg #[.int .i64 12,.int .i64 a,.int .i64 b,.string t,.string cls,.string A]] w (Q1 base w C G H I J c (some (.int .i64 (if QbC b v.n then a else ((c.pc:Int)+1)),c.L,T))):=by
 have B:=CW.start h [.int .i64 12,.int .i64 a,.int .i64 b,.string t,.string cls,.string A];have P:=Zaa N;have R:=B.cal.blk.lt;have U:=ZaH;have V:=Xh O;have D:Hid (∀wx,_):=fun wx=>zeu b v.n wx
 clear O;obtain⟨i,j,k,l,m,o⟩:=B.cells;have Z:(w.alloc (.cells #[.int .i64 12,.int .i64 a,.int .i64 b,.string t,.string cls,.string A] 34)).cell? ⟨C,9,none⟩=some (.int .i64 c.pc):=B.cal.blk.cell 9;have E:=Xh B;have d:=Xh M;clear B h N M;go_enter Tryz.func88,Tryz.ntmps88;go_upto_region 2 with fail;generalize w.alloc (.cells #[.int .i64 12,.int .i64 a,.int .i64 b,.string t,.string cls,.string A] 34)=r at *;go_upto_region 35 with fail;generalize QbC b v.n=Y at *;cases Y;all_goals
  go_region_held3 (fun w'=>w'.cell? ⟨w.heap.size,2,none⟩=some (.int .i64 b)) (go_keep)
   (first
    |(go_fit (E.out.drew.pop V.out);rintro e p⟨rfl,_,X,F,_⟩;(have f:=F.box.cell 2))
    |(go_fit (D.out _);rintro e q⟨rfl,rfl⟩))
  all_goals
   have g:=F.box.cell 1;go_wp2_with fail;go_ret;exact⟨rfl,F.post⟩
theorem zcN(base:Nat)(w:World)(E:Nat)(I J M N:Value)(c:Cal)(h:QD base w E I J M N c)(O:c.S.length<=4194304)(P:c.pc<=4194304)(a b:Int)(t cls A:Str)(T:List Val)(v:Val)(R:c.S=T++[v]):
 Calls Tryz.prog 88 #[.pointer (some ⟨E,0,none⟩),.agg #[.int .i64 13,.int .i64 a,.int .i64 b,.string t,.string cls,.string A]] w (Q1 base w E I J M N c (some (.int .i64 (if v.n=0 then a else ((c.pc:Int)+1)),c.L,T))):=by
 have C:=CW.start h [.int .i64 13,.int .i64 a,.int .i64 b,.string t,.string cls,.string A];have V:=Zaa P;have X:=C.cal.blk.lt;have Y:=ZaH;have U:=Xh R;clear R;obtain⟨i,j,k,l,m,o⟩:=C.cells;have d:(w.alloc (.cells #[.int .i64 13,.int .i64 a,.int .i64 b,.string t,.string cls,.string A] 34)).cell? ⟨E,9,none⟩=some (.int .i64 c.pc):=C.cal.blk.cell 9;have D:=Xh C;have f:=Xh O;clear C h P O;go_enter Tryz.func88,Tryz.ntmps88;go_upto_region 2 with fail;generalize w.alloc (.cells #[.int .i64 13,.int .i64 a,.int .i64 b,.string t,.string cls,.string A] 34)=p at *;by_cases B:v.n=0
 ·have G:(v.n==0)=true:=by simpa using B
  have B:=Xh B;go_wp2_with (go_fit (D.out.pop U.out);rintro e Z⟨rfl,_,H,F,_⟩;(have g:=F.box.cell 1))
  go_ret;exact⟨rfl,F.post⟩
 ·have G:(v.n==0)=false:=by simpa using B
  have B:=Xh B;go_wp2_with (go_fit (D.out.pop U.out);rintro e Z⟨rfl,_,H,F,_⟩)
  go_ret;exact⟨rfl,F.post⟩
theorem QdA(base:Nat)(w:World)(C:Nat)(E F G H:Value)(c:Cal)(h:QD base w C E F G H c)(I:c.S.length<=4194304)(J:c.pc<=4194304)(a b:Int)(t cls A:Str):
 Calls Tryz.prog 88 #[.pointer (some ⟨C,0,none⟩),.agg #[.int .i64 14,.int .i64 a,.int .i64 b,.string t,.string cls,.string A]] w (Q1 base w C E F G H c (some (.int .i64 a,c.L,c.S))):=by
 have B:=CW.start h [.int .i64 14,.int .i64 a,.int .i64 b,.string t,.string cls,.string A];have M:=Zaa J;have N:=B.cal.blk.lt;obtain⟨R,T,U,V,X,Y⟩:=B.cells;have O:(w.alloc (.cells #[.int .i64 14,.int .i64 a,.int .i64 b,.string t,.string cls,.string A] 34)).cell? ⟨C,9,none⟩=some (.int .i64 c.pc):=B.cal.blk.cell 9;have D:=Xh B;have P:=Xh I;clear B h J I;go_enter Tryz.func88,Tryz.ntmps88;go_upto_region 2 with fail;generalize w.alloc (.cells #[.int .i64 14,.int .i64 a,.int .i64 b,.string t,.string cls,.string A] 34)=Z at *;go_wp2_with fail;go_ret;exact⟨rfl,D.out.post⟩
theorem zdB(base:Nat)(w:World)(D:Nat)(G H I J:Value)(c:Cal)(h:QD base w D G H I J c)(M:c.S.length<=4194304)(N:c.pc<=4194304)(A a b:Int)(t cls B:Str)(O:A=1\/15<=A):
 Calls Tryz.prog 88 #[.pointer (some ⟨D,0,none⟩),.agg #[.int .i64 A,.int .i64 a,.int .i64 b,.string t,.string cls,.string B]] w (Q1 base w D G H I J c (some (.int .i64 ((c.pc:Int)+1),c.L,c.S))):=by
 have C:=CW.start h [.int .i64 A,.int .i64 a,.int .i64 b,.string t,.string cls,.string B];have E:=Zaa N;have P:=C.cal.blk.lt;have Y:(A==2)=false:=by simp;omega
 have Z:(A==3)=false:=by simp;omega
 have d:(A==4)=false:=by simp;omega
 have e:(A==5)=false:=by simp;omega
 have f:(A==6)=false:=by simp;omega
 have g:(A==7)=false:=by simp;omega
 have i:(A==8)=false:=by simp;omega
 have j:(A==9)=false:=by simp;omega
 have R:(A==10)=false:=by simp;omega
 have T:(A==11)=false:=by simp;omega
 have U:(A==12)=false:=by simp;omega
 have V:(A==13)=false:=by simp;omega
 have X:(A==14)=false:=by simp;omega
 clear O;obtain⟨m,n,o,p,q,r⟩:=C.cells;have k:(w.alloc (.cells #[.int .i64 A,.int .i64 a,.int .i64 b,.string t,.string cls,.string B] 34)).cell? ⟨D,9,none⟩=some (.int .i64 c.pc):=C.cal.blk.cell 9;have F:=Xh C;have l:=Xh M;clear C h N M;go_enter Tryz.func88,Tryz.ntmps88;go_upto_region 2 with fail;generalize w.alloc (.cells #[.int .i64 A,.int .i64 a,.int .i64 b,.string t,.string cls,.string B] 34)=s at *;go_wp2_with fail;go_ret;exact⟨by simp[E],F.out.post⟩
set_option maxRecDepth 512
structure qcB (x:Ins) (L S:List Val):Prop where
 load:x.op=4->∃v,L[x.a.toNat]? = some v
 store:x.op=5->x.a.toNat<L.length
 pos:x.op=4\/x.op=5\/x.op=12\/x.op=13\/x.op=14->0<=x.a
 one:x.op=5\/x.op=6\/x.op=7\/x.op=10\/x.op=12\/x.op=13\/(x.op=9/\x.a=12)->1<=S.length
 two:x.op=8\/x.op=11\/(x.op=9/\x.a≠12)->2<=S.length
 word:x.op=9->ZO (lst x.type)=true
theorem qat{S:List Val}(h:1<=S.length):S=S.dropLast++[Qj S]:=by
 rcases List.eq_nil_or_concat S with rfl|⟨r,v,rfl⟩
 ·simp at h
 ·rw[List.concat_eq_append];unfold Qj;simp
theorem qb6{S:List Val}(h:2<=S.length):S=S.dropLast.dropLast++[Qj S.dropLast]++[Qj S]:=by
 have A:=qat (S:=S) (by omega);have B:=qat (S:=S.dropLast) (by rw[List.length_dropLast];omega);rw[<-B];exact A
theorem qbg(base:Nat)(w:World)(B:Nat)(C D E F:Value)(c:Cal)(h:QD base w B C D E F c)(H:c.S.length<=4194304)(I:c.pc<=4194304)(x:Ins)(Z:qcB x c.L c.S)(d:1<=x.op):
 Calls Tryz.prog 88 #[.pointer (some ⟨B,0,none⟩),qao x] w (Q1 base w B C D E F c ((Qam c.pc x c.L c.S).map fun p=>(.int .i64 (p.1:Int),p.2.1,p.2.2))):=by
 obtain⟨G,a,b,t,cls,A⟩:=x;have N:G=2\/G=3\/G=4\/G=5\/G=6\/G=7\/G=8\/G=9\/G=10\/G=11\/G=12\/G=13\/G=14\/(G=1\/15<=G):=by dsimp only at d;omega
 obtain⟨X,Y,O,M,T,U⟩:=Z;dsimp only at X Y O M T U;have P:((c.pc+1:Nat):Int)=(c.pc:Int)+1:=by omega
 unfold qao;rcases N with rfl|rfl|rfl|rfl|rfl|rfl|rfl|rfl|rfl|rfl|rfl|rfl|rfl|V
 ·exact qdz base w B C D E F c h H I a b t cls A
 ·exact Qdz base w B C D E F c h H I a b t cls A
 ·obtain⟨v,R⟩:=X rfl;have J:=O (by simp);have:=zdA base w B C D E F c h H I a.toNat b t cls A v R;rw[Int.toNat_of_nonneg J]at this;show Calls _ _ _ _ (Q1 base w B C D E F c (some (.int .i64 ((c.pc+1:Nat):Int),c.L,c.S++[c.L.getD a.toNat v0])))
  rw[List.getD_eq_getElem?_getD,R];exact this
 ·have J:=O (by simp);have:=Zde base w B C D E F c h H I a.toNat b t cls A _ _ (qat (M (by simp))) (Y rfl);rw[Int.toNat_of_nonneg J]at this;exact this
 ·exact zdV base w B C D E F c h H I a b t cls A _ _ (qat (M (by simp)))
 ·exact ZdV base w B C D E F c h H I a b t cls A _ _ (qat (M (by simp)))
 ·have:=ZdA base w B C D E F c h H I a b t cls A _ _ _ (qb6 (T (by simp)));rw[List.append_assoc]at this;exact this
 ·by_cases J:a=12
  ·subst J;have:=qde base w B C D E F c h H I b t cls A (U rfl) _ _ (qat (M (by simp)));exact this
  ·have:=Qde base w B C D E F c h H I a b t cls A (U rfl) J _ _ _ (qb6 (T (by simp[J])));have e:Qam c.pc ⟨9,a,b,t,cls,A⟩ c.L c.S=if ofB a (Qj c.S).n then some (c.pc+1,c.L,c.S.dropLast.dropLast++[⟨zag t,ofN (isI t) a (Qj c.S.dropLast).n (Qj c.S).n⟩]) else none:=by
    show(if a=12 then _ else _)=_
    rw[if_neg J]
   rw[e];generalize ofB a (Qj c.S).n=f at *;cases f<;>exact this
 ·exact qdA base w B C D E F c h H I a b t cls A _ _ (qat (M (by simp)))
 ·exact zdf base w B C D E F c h H I a b t cls A _ _ _ (qb6 (T (by simp)))
 ·have J:=O (by simp);have:=Zey base w B C D E F c h H I a b t cls A _ _ (qat (M (by simp)));show Calls _ _ _ _ (Q1 base w B C D E F c (some (.int .i64 ((if QbC b (Qj c.S).n then a.toNat else c.pc+1:Nat):Int),c.L,c.S.dropLast)))
  have e:((if QbC b (Qj c.S).n then a.toNat else c.pc+1:Nat):Int)=if QbC b (Qj c.S).n then a else (c.pc:Int)+1:=by
   cases QbC b (Qj c.S).n
   ·exact P
   ·exact Int.toNat_of_nonneg J
  rw[e];exact this
 ·have J:=O (by simp);have:=zcN base w B C D E F c h H I a b t cls A _ _ (qat (M (by simp)));show Calls _ _ _ _ (Q1 base w B C D E F c (some (.int .i64 ((if (Qj c.S).n=0 then a.toNat else c.pc+1:Nat):Int),c.L,c.S.dropLast)))
  have e:((if (Qj c.S).n=0 then a.toNat else c.pc+1:Nat):Int)=if (Qj c.S).n=0 then a else (c.pc:Int)+1:=by
   split
   ·exact Int.toNat_of_nonneg J
   ·exact P
  rw[e];exact this
 ·have J:=O (by simp);have:=QdA base w B C D E F c h H I a b t cls A;show Calls _ _ _ _ (Q1 base w B C D E F c (some (.int .i64 (a.toNat:Int),c.L,c.S)))
  rw[Int.toNat_of_nonneg J];exact this
 ·have e:Qam c.pc ⟨G,a,b,t,cls,A⟩ c.L c.S=some (c.pc+1,c.L,c.S):=by
   unfold Qam;dsimp only;repeat rw[if_neg (by omega)]
  rw[e];exact zdB base w B C D E F c h H I G a b t cls A V
end Go.Proofs.YtmclocdhcblbiaaGreatDoor
