/- Lemmas; conditions: as each states. -/
import Derived.Test.YtmclocdhcblbiaaGreatDoorZRunEnterW
import Derived.Deep.LoopGhost
set_option maxHeartbeats 4000000
namespace Go.Proofs.YtmclocdhcblbiaaGreatDoor
open Go.RowKit Go.Shelf Go.Lib Tryz
set_option maxRecDepth 100000
theorem Qd2(w0 w:World)(B:Nat)(cs:List qa)(hm:Qn w0 w B cs)(hn:(cs.map (·.name)).Nodup)(h8:∀c∈cs,c.faces.length<=8)(h12:cs.length<=12)(g:zaN cs)(m:qc)(cv hv:Value)(C:Int)(n:Str)(hk:(Qb cs n).isSome=true)(N:∀h∈m.handlers,QY h)(i:Qe w 4 Qp hv m.handlers)(r:Int)(b:Bool)(hr:Q3 cs (qi cs n) C m.handlers=(r,b)):
 Calls prog 114 #[.map (some B),ZR m cv hv,.int .i64 C,.string n] w fun e w'=>e=.returned (.tuple #[.int .i64 r,.bool b])/\Below w.heap.size w w':=by
 have HE:Hid (∀wx,Below w.heap.size w wx->_):=fun wx hb=>qbw w0 wx B cs (hm.step hb) hn h8 h12 g n hk
 have HLk:Hid (∀n:Str,n.size<=maxLen->_):=fun n hs=>hm.look3 hn n hs
 have HC0:Hid (∀v wx x,qp wx v (Zad (qi cs n))->_):=fun v wx x h=>Qao (Zad (qi cs n)) v x wx h
 obtain⟨ph,l,rfl,hc1,hc2,p⟩:=i.open;have HC:=Xh p;have HO:=Xh N;have U:Hid ((r,b)=Q3 cs (qi cs n) C m.handlers):=hr.symm;clear p i N hr hm hn h8 g hk;unfold ZR;obtain⟨name,q,S,abs,s,T,code,A⟩:=m;dsimp only at *;have hlen:A.length<=9223372036854775807:=Xf hc1 hc2;go_enter func114,ntmps114;go_wp2_with (go_fit (HE.out _ (Xb.alloc Xl _));rintro e w2⟨⟨ve,rfl,z⟩,P⟩;obtain⟨pe,ke,rfl,_⟩:=z.open;obtain⟨V,_⟩:=zaO P;(have r7:=V w.heap.size 7 (by simp)))
 have BX:zL w w2 [.string name,.string q,.bool S,.bool abs,.bool s,.int .i64 T,cv,.slice ph A.length l]:=⟨Qa (Xb.alloc Xl _) Xl P,Nat.lt_of_lt_of_le (by simp) P.size,qw.mono P (by simp) (by simp[qw])⟩;clear V P r7 HE;go_loopw [21] (fun x wr=>∃k,k<=A.length/\Hid (Q3 cs (qi cs n) C (A.drop k)=Q3 cs (qi cs n) C A)/\Below w2.heap.size w2 wr/\x=.int .i64 k) (fun x _=>A.length-(intOf x).toNat)
 case atStart=>exact⟨0,by omega,rfl,Xb,rfl⟩
 case round =>
  obtain⟨k,hkk,M,f,rfl⟩:=hrel;have j:=z.mono f;have D:=BX.step f;by_cases hkl:k<A.length
  ·obtain⟨h,t⟩:∃x,A[k]? = some x:=⟨A[k],by simp[hkl]⟩;have N:=HO.out h (Xe t);obtain⟨b0,o,vs,rfl,rfl,_,Zd⟩:=HC.out k h t;have Zd:=Zd.mono D.below Zd.lt;have E:=Qc7 cs (qi cs n) C A k h t;rw[M.out]at E;obtain⟨p1,k1,p2,k2,p3,k3,_,_,_,y⟩:=HLk.out h.cls (Xf N.cls (by decide));have H:=(y _ (D.alloc (.cells #[.int .i64 h.lo,.int .i64 h.hi,.int .i64 h.dest,.string h.cls] 56)).below).1;have HX:=Xh t;clear t N y;obtain⟨c0,c1,c2,c3,_⟩:=Zd;have F:=fun wx hs=>HC0.out (.slice pe (Zad (qi cs n)).length ke) wx h.cls hs
   rw[Za8]at F;by_cases I:C<h.lo\/h.hi<=C
   ·rw[if_pos I]at E;have X:=Xh E.symm;have HI:=Xh I;clear I E U H F;go_wp2_with fail;all_goals first|(exfalso;have:=HI.out;omega)|skip
    all_goals
     go_roundw;case rel=>exact⟨k+1,by omega,X.out,f.alloc (Xf Xl f.size) _,by simp⟩
     case measure=>simp[intOf];omega
   ·rw[if_neg I]at E;simp only[not_or,Int.not_lt,Int.not_le]at I;obtain⟨i1,i2⟩:=I;have Y:=f.alloc f.size (.cells #[.int .i64 h.lo,.int .i64 h.hi,.int .i64 h.dest,.string h.cls] 56);cases O:(Qb cs h.cls).isSome with
    |false =>
     rw[O]at E H;have G:Hid ((r,b)=(-1,false)):=(by rw[U.out,E];rfl);clear E O U M F;generalize (Qb cs h.cls).getD qg=d at *;obtain⟨n2,s2,f2,b2,d2,m2⟩:=d;unfold Zu at H;dsimp only at H;have Z:=Xh (D.step (ZJ wr (.cells #[.int .i64 h.lo,.int .i64 h.hi,.int .i64 h.dest,.string h.cls] 56) (.cells #[.string n2,.string s2,.slice p1 f2.length k1,.bool b2,.slice p2 d2.length k2,.slice p3 m2.length k3] 31)));clear Y BX D;go_wp2_with fail;all_goals first|(exfalso;omega)|skip
     cases G.out;go_ret2;exact⟨rfl,Z.out.below⟩
    |true =>
     rw[O]at E H;replace E:Q3 cs (qi cs n) C A=if zak (qi cs n) h.cls then (h.dest,true) else Q3 cs (qi cs n) C (A.drop (k+1)):=E
     generalize (Qb cs h.cls).getD qg=d at *;obtain⟨n2,s2,f2,b2,d2,m2⟩:=d;unfold Zu at H;dsimp only at H;have R:=ZJ wr (.cells #[.int .i64 h.lo,.int .i64 h.hi,.int .i64 h.dest,.string h.cls] 56) (.cells #[.string n2,.string s2,.slice p1 f2.length k1,.bool b2,.slice p2 d2.length k2,.slice p3 m2.length k3] 31);have Z:=Xh (D.step R);have HB4:=Xh (Qa f Xl R);have J:=F _ (j.mono R);clear F R;cases L:zak (qi cs n) h.cls with
     |true =>
      rw[L]at J;rw[L,if_pos rfl]at E;have G:Hid ((r,b)=(h.dest,true)):=(by rw[U.out,E];rfl);have a:=Xh J;clear J E O U M L Y BX D;go_wp2_with (go_fit a.out;rintro e w3⟨rfl,rfl⟩)
      all_goals first|(exfalso;omega)|skip
      cases G.out;go_ret2;exact⟨rfl,Z.out.below⟩
     |false =>
      rw[L]at J;rw[L,if_neg (by decide)]at E;have X:=Xh E.symm;have a:=Xh J;clear J E O U M L Y BX D;go_wp2_with (go_fit a.out;rintro e w3⟨rfl,rfl⟩)
      all_goals first|(exfalso;omega)|skip
      go_roundw;case rel=>exact⟨k+1,by omega,X.out,HB4,by simp⟩
      case measure=>simp[intOf];omega
  ·have G:Hid ((r,b)=(-1,true)):=by
    rw[U.out,<-M.out,Xg (by omega)];rfl
   obtain rfl:k=A.length:=(by omega);clear M U;go_wp2_with fail;cases G.out;go_ret2;exact⟨rfl,D.below⟩
theorem Chg.one(w:World)(b j:Nat)(u:Value):Chg (fun x=>x=b) w (w.setCell ⟨b,j,none⟩ u):=by
 have h:=Chg.refl (fun x=>x=b) w;exact h.set (p:=⟨b,j,none⟩) (fun _=>rfl) u
theorem Chg.also{a w:World}{b:Nat}(h:Chg (fun x=>x=b) a w)(j:Nat)(u:Value):Chg (fun x=>x=b) a (w.setCell ⟨b,j,none⟩ u):=h.set (p:=⟨b,j,none⟩) (fun _=>rfl) u
theorem ZE.moved{base:Nat}{w:World}{A:Nat}{cv hv C B:Value}{c:Cal}(h:ZE base w A cv hv C B c)(n:Nat):Z4 base w A cv hv C B { c with pc:=n } (w.setCell ⟨A,9,none⟩ (.int .i64 n)) :=
 ⟨(Chg.one w A 9 (.int .i64 n)).mono (fun _ _ e=>Or.inl e),B,⟨h.blk.put 9 (.int .i64 n),Z1 h.locals h.lfar _ _,Z1 h.stack h.sfar _ _,h.apart,h.lfar,h.sfar,h.low⟩,Or.inl rfl⟩
section
variable {w0 wr w w':World} {X:Nat->Prop} {kb B:Nat} {hv cv:Value} {ps:List (Zc×Value)} {qs:List Zs} {q:Zs} {tv:Val} {th:Str} {st:Int} {ov:Bool}
theorem XS.m:XS kb hv cv ps qs kb:=⟨.m,rfl⟩
theorem MW.tell(T:MW w0 wr X w kb B hv cv ps qs tv th st ov){tv':Val}{th':Str}{st':Int}{ov':Bool}(A:Chg (fun b=>b=kb) w w')(C:Blk w' kb 82 [.map (some B),hv,cv,.int .i64 tv'.kind,.int .i64 tv'.n,.string th',.int .i64 st',.bool ov']):MW w0 wr X w' kb B hv cv ps qs tv' th' st' ov' :=
 ⟨T.at'.tell A C,T.over (A.mono fun _ _ h=>by rw[h];exact XS.m),T.parts⟩
theorem MW.drop(T:MW w0 wr X w kb B hv cv ps (qs++[q]) tv th st ov){g cap:Nat}(D:cv=.slice (some ⟨g,0,none⟩) (qs.length+1) cap)(E:Chg (fun b=>b=kb) w w')(G:Blk w' kb 82 [.map (some B),hv,.slice (some ⟨g,0,none⟩) qs.length cap,.int .i64 tv.kind,.int .i64 tv.n,.string th,.int .i64 st,.bool ov]):MW w0 wr X w' kb B hv (.slice (some ⟨g,0,none⟩) qs.length cap) ps qs tv th st ov:=by
 refine⟨T.at'.drop D E G,T.over (E.mono fun _ _ h=>by rw[h];exact XS.m),fun r b A=>?_⟩;cases r with
 |m=>exact T.parts .m b A
 |hs=>exact T.parts .hs b A
 |cs=>exact T.parts .cs b (by rw[D];exact A)
 |has i=>exact T.parts (.has i) b A
 |call i =>
  refine T.parts (.call i) b ?_;change (qs[i]?).map _=some b at A;show((qs++[q])[i]?).map _=some b
  cases C:qs[i]? with
  |none=>rw[C]at A;cases A
  |some x=>rw[List.getElem?_append_left (List.getElem?_eq_some_iff.1 C).1];exact A
 |loc i =>
  refine T.parts (.loc i) b ?_;change (qs[i]?).bind _=some b at A;show((qs++[q])[i]?).bind _=some b
  cases C:qs[i]? with
  |none=>rw[C]at A;cases A
  |some x=>rw[List.getElem?_append_left (List.getElem?_eq_some_iff.1 C).1];exact A
 |stk i =>
  refine T.parts (.stk i) b ?_;change (qs[i]?).bind _=some b at A;show((qs++[q])[i]?).bind _=some b
  cases C:qs[i]? with
  |none=>rw[C]at A;cases A
  |some x=>rw[List.getElem?_append_left (List.getElem?_eq_some_iff.1 C).1];exact A
theorem Qk.last(h:Qk w0 w kb B hv cv ps (qs++[q]) tv th st ov):∃g cap,cv=.slice (some ⟨g,0,none⟩) (qs.length+1) cap/\w.cell? ⟨g,qs.length,none⟩=some (.pointer (some ⟨q.cb,0,none⟩))/\g<w.heap.size/\g≠kb/\qs.length+1<=cap/\cap<=maxLen:=by
 have D:=h.calls;rw[List.length_append,List.map_append]at D;obtain⟨g,cap,E,A,C⟩:∃g cap,cv=.slice (some ⟨g,0,none⟩) (qs.length+1) cap/\qs.length+1<=cap/\cap<=maxLen:=by
  rcases D.2 with⟨_,F⟩|⟨g,cap,G,H,_,_,I,J,_⟩
  ·simp at F
  ·exact⟨g,cap,H,I,J⟩
 subst E;refine⟨g,cap,rfl,?_,(D.lt g rfl).2,fun e=>?_,A,C⟩
 ·rw[D.cellAt qs.length (by simp),List.getElem?_append_right (by simp)];simp
 ·have:=h.sep .m .cs kb rfl (by show some g=some kb;rw[e]);cases this
end
theorem zd2(w0 w:World)(kb B:Nat)(hv cv:Value)(ps:List (Zc×Value))(q:Zs)(tv:Val)(th:Str)(st:Int)(ov:Bool)(M:Qk w0 w kb B hv cv ps [q] tv th st ov)(v:Val):
 Calls prog 85 #[.pointer (some ⟨kb,0,none⟩),.agg #[.int .i64 v.kind,.int .i64 v.n]] w fun e w'=>e=.returned (.tuple #[])/\QaC w0 w (XS kb hv cv ps [q]) kb B (ps.map (·.1)) [] v th st true w':=by
 obtain⟨g,cap,rfl,U,f,V,_⟩:=Qk.last (qs:=[]) M;have I:=M.start.alloc (.cells #[.int .i64 v.kind,.int .i64 v.n] 43);have D:=Blk.new w 43 [.int .i64 v.kind,.int .i64 v.n];have P:=M.blk.lt;generalize H:w.alloc (.cells #[.int .i64 v.kind,.int .i64 v.n] 43)=J at *;have E:=Xh H;have C:=Xh I;have R:J.cell? ⟨kb,2,none⟩=some (.slice (some ⟨g,0,none⟩) 1 cap):=I.at'.cells.2.2.1;have S:=I.at'.blk.frozen 2;have T:¬kb=w.heap.size:=by omega
 have L:¬w.heap.size=kb:=by omega
 clear I H U M;go_enter func85,ntmps85;go_upto_region 1 with fail;rw[E.out];go_region
 have A:=(C.out.drop (qs:=[]) (w':=J.setCell ⟨kb,2,none⟩ (.slice (some ⟨g,0,none⟩) 0 cap)) rfl (Chg.one _ _ _ _) (C.out.at'.blk.put 2 (.slice (some ⟨g,0,none⟩) 0 cap))).drew;have O:=D.other L 2 (.slice (some ⟨g,0,none⟩) 0 cap);have F:Blk (J.setCell ⟨kb,2,none⟩ (.slice (some ⟨g,0,none⟩) 0 cap)).drew w.heap.size 43 [.int .i64 v.kind,.int .i64 v.n]:=O;clear O D R S E C;generalize (J.setCell ⟨kb,2,none⟩ (.slice (some ⟨g,0,none⟩) 0 cap)).drew=N at *;have G:=Xh A;have X:=A.at'.cells.2.2.1;have Y:N.cell? ⟨kb,3,none⟩=some (.int .i64 tv.kind):=A.at'.blk.cell 3;have Z:N.cell? ⟨kb,4,none⟩=some (.int .i64 tv.n):=A.at'.blk.cell 4;have a:N.cell? ⟨kb,7,none⟩=some (.bool ov):=A.at'.blk.cell 7;have b:=A.at'.blk.frozen 3;have c:=A.at'.blk.frozen 4;have d:=A.at'.blk.frozen 7;obtain⟨h,i⟩:=F.cells2;clear A F;go_wp2_with fail;refine bodyPost_ret (v:=.tuple #[]) (by simp[results,results85,go_sem]) rfl ?_;exact⟨rfl,hv,_,ps,[],G.out.tell (((Chg.one _ _ _ _).also _ _).also _ _) (((G.out.at'.blk.put 3 (.int .i64 v.kind)).put 4 (.int .i64 v.n)).put 7 (.bool true)),rfl,rfl⟩
theorem zeD(w0 w:World)(kb B:Nat)(hv cv:Value)(ps:List (Zc×Value))(qs:List Zs)(A q:Zs)(tv:Val)(th:Str)(st:Int)(ov:Bool)(M:Qk w0 w kb B hv cv ps (qs++[A]++[q]) tv th st ov)(v:Val)(o:A.c.pc<=4194304)(hn:A.c.S.length<=4194304)(R:qs.length<=20):
 Calls prog 85 #[.pointer (some ⟨kb,0,none⟩),.agg #[.int .i64 v.kind,.int .i64 v.n]] w fun e w'=>e=.returned (.tuple #[])/\QaC w0 w (XS kb hv cv ps (qs++[A]++[q])) kb B (ps.map (·.1)) (qs.map (·.c)++[{ A.c with pc:=A.c.pc+1,S:=if v.kind=0 then A.c.S else A.c.S++[v] }]) tv th st ov w':=by
 obtain⟨g,cap,D,c0,hg,hgk,C,j⟩:=M.last;rw[List.length_append]at D C;have T:qs.length+1+1<=cap:=C;clear C j;have D:cv=.slice (some ⟨g,0,none⟩) (qs.length+1+1) cap:=D;have m:=M.boxed (.cells #[.int .i64 v.kind,.int .i64 v.n] 43);have V:=(Below.refl w.heap.size w).alloc Xl (.cells #[.int .i64 v.kind,.int .i64 v.n] 43);have F:=Blk.new w 43 [.int .i64 v.kind,.int .i64 v.n];have p:=M.blk.lt;generalize hX:XS kb hv cv ps (qs++[A]++[q])=X at *;have HX:Hid (∀b,X b->b<w.heap.size):=fun b hb=>by
  rw[<-hX]at hb;obtain⟨r,hr⟩:=hb;exact(M.lt r b hr).2
 subst D;have HU:Hid (∀w' I J L N tv' th' st' ov',MW w0 (w.alloc (.cells #[.int .i64 v.kind,.int .i64 v.n] 43)) X w' kb B I J L N tv' th' st' ov'->MW w0 w X w' kb B I J L N tv' th' st' ov'):=fun w' I J L N tv' th' st' ov' U=>by
  rw[<-hX]at U ⊢;exact M.start.unbox V U
 generalize l:w.alloc (.cells #[.int .i64 v.kind,.int .i64 v.n] 43)=O at *;have Y:=Xh l;have G:=Xh m;have s:O.cell? ⟨kb,2,none⟩=some (.slice (some ⟨g,0,none⟩) (qs.length+1+1) cap):=m.at'.cells.2.2.1;have f2:=m.at'.blk.frozen 2;have hk1:¬kb=w.heap.size:=by omega
 have t:¬w.heap.size=kb:=by omega
 have z2:IntKind.i64.wrap ((qs.length:Int)+1)=(qs.length:Int)+1:=IntWalk.i64_in _ (by omega);have i1:(0:Int)<=(qs.length:Int)+1:=by omega
 have i2:(qs.length:Int)+1<=(cap:Int):=by omega
 clear m l c0 M hX V;go_enter func85,ntmps85;go_upto_region 1 with fail;rw[Y.out];go_region
 have E:MW w0 O X (O.setCell ⟨kb,2,none⟩ (.slice (some ⟨g,0,none⟩) (qs.length+1) cap)) kb B hv (.slice (some ⟨g,0,none⟩) (qs.length+1) cap) ps (qs++[A]) tv th st ov:=by
  have x:(qs++[A]).length=qs.length+1:=by simp
  have:=G.out.drop (qs:=qs++[A]) (w':=O.setCell ⟨kb,2,none⟩ (.slice (some ⟨g,0,none⟩) (qs.length+1) cap)) (g:=g) (cap:=cap) (by rw[x]) (Chg.one _ _ _ _) (by rw[x];exact G.out.at'.blk.put 2 _);rwa [x]at this
 replace E:=E.drew;have y0:=F.other t 2 (.slice (some ⟨g,0,none⟩) (qs.length+1) cap);have H:Blk (O.setCell ⟨kb,2,none⟩ (.slice (some ⟨g,0,none⟩) (qs.length+1) cap)).drew w.heap.size 43 [.int .i64 v.kind,.int .i64 v.n]:=y0;have Z:Hid (w.heap.size<O.heap.size):=F.lt;clear y0 F s f2 Y G i1 i2 z2;generalize (O.setCell ⟨kb,2,none⟩ (.slice (some ⟨g,0,none⟩) (qs.length+1) cap)).drew=w2 at *;obtain⟨g',k,he,c0,-⟩:=E.at'.last;obtain⟨rfl,rfl⟩:g=g'/\cap=k:=by simpa using he
 have p2:=E.at'.cells.2.2.1;have p9:w2.cell? ⟨A.cb,9,none⟩=some (.int .i64 A.c.pc):=E.at'.top.blk.cell 9;have f9:=E.at'.top.blk.frozen 9;obtain⟨r0,r1⟩:=H.cells2;have a:=Xh E;have d:=Xh H;have y:¬A.cb=w.heap.size:=fun e=>by
  rcases E.parts (.call qs.length) A.cb (by show((qs++[A])[qs.length]?).map _=_;rw[Qad];rfl) with h|h
  ·have:=HX.out _ h;omega
  ·have:=Z.out;omega
 have i1:(0:Int)<=(qs.length:Int):=by omega
 have i2:(qs.length:Int)<(qs.length:Int)+1:=by omega
 have z2:IntKind.i64.wrap (qs.length:Int)=(qs.length:Int):=IntWalk.i64_in _ (by omega);have z9:=zac o;have z0:((qs.length:Int)+1==0)=false:=by simp;omega
 have HP:=Xh o;have HN:=Xh hn;have H20:=Xh R;clear E H he o hn R T hg hgk p;go_upto_region 4 with fail;go_quiet (fail);go_upto_region 6 with fail;have z:=a.out.step (below_drewN Xb nq);have C3:=z.at'.top.moved (A.c.pc+1);rw[show((A.c.pc+1:Nat):Int)=(A.c.pc:Int)+1 from by omega]at C3;obtain⟨-,sv3,T3⟩:=z.cal (c':={ A.c with pc:=A.c.pc+1 }) rfl C3;have f:=(d.out.step (below_drewN Xb nq)).other (b':=A.cb) (fun e=>y e.symm) 9 (.int .i64 ((A.c.pc:Int)+1));clear z C3 a d r0 r1 c0 p2 p9 f9;generalize ((w2.drewN nq).setCell ⟨A.cb,9,none⟩ (.int .i64 ((A.c.pc:Int)+1)))=w3 at *;have i:=Xh T3;obtain⟨r0,r1⟩:=f.cells2;clear T3 f;by_cases P:v.kind=0
 ·have hkb:(v.kind != 0)=false:=by simp[P]
  have HK:=Xh P;clear P;go_wp2_with fail;go_end0;try rw[if_pos HK.out]
  exact⟨rfl,hv,_,ps,_,HU.out _ _ _ _ _ _ _ _ _ i.out,rfl,by simp⟩
 ·have hkb:(v.kind != 0)=true:=by simpa using P
  have HK:=Xh P;clear P;go_wp2_with (go_fit (i.out.put HN.out v);rintro e w4⟨rfl,_,sv4,T4⟩)
  go_end0;try rw[if_neg HK.out]
  exact⟨rfl,hv,_,ps,_,HU.out _ _ _ _ _ _ _ _ _ T4,rfl,by simp⟩
theorem ZE.caught{base:Nat}{w:World}{A:Nat}{cv hv F G:Value}{c:Cal}(h:ZE base w A cv hv F G c)(v:Val)(n:Nat):Z4 base w A cv hv F G { c with pc:=n,S:=[v] } (((w.setCell ⟨A,9,none⟩ (.int .i64 n)).setCell ⟨A,11,none⟩ (.slice (some ⟨w.heap.size,0,none⟩) 1 1)).alloc (.cells #[.int .i64 v.kind,.int .i64 v.n] 43)):=by
 have I:=h.blk.lt;have B:((w.setCell ⟨A,9,none⟩ (.int .i64 n)).setCell ⟨A,11,none⟩ (.slice (some ⟨w.heap.size,0,none⟩) 1 1)).heap.size=w.heap.size:=by simp
 have J:=(Below.refl w.heap.size ((w.setCell ⟨A,9,none⟩ (.int .i64 n)).setCell ⟨A,11,none⟩ (.slice (some ⟨w.heap.size,0,none⟩) 1 1))).alloc (by rw[B];exact Xl) (.cells #[.int .i64 v.kind,.int .i64 v.n] 43);have C:=heap_alloc_new ((w.setCell ⟨A,9,none⟩ (.int .i64 n)).setCell ⟨A,11,none⟩ (.slice (some ⟨w.heap.size,0,none⟩) 1 1)) (.cells #[.int .i64 v.kind,.int .i64 v.n] 43);rw[B]at C;have L:Chg (fun x=>x=A) w ((w.setCell ⟨A,9,none⟩ (.int .i64 n)).setCell ⟨A,11,none⟩ (.slice (some ⟨w.heap.size,0,none⟩) 1 1)):=(Chg.one _ _ _ _).also _ _;have D:=(h.blk.put 9 (.int .i64 n)).put 11 (.slice (some ⟨w.heap.size,0,none⟩) 1 1);have E:=Z1 (Z1 h.locals h.lfar 9 (.int .i64 n)) h.lfar 11 (.slice (some ⟨w.heap.size,0,none⟩) 1 1);refine⟨(L.alloc _).mono (fun _ _ e=>Or.inl e),.slice (some ⟨w.heap.size,0,none⟩) 1 1,⟨D.stepB J I,E.alloc _,⟨rfl,Or.inr ⟨w.heap.size,1,_,rfl,h.size,C,Xl,by decide,rfl,rfl⟩⟩,fun g e H=>?_,h.lfar,fun e=>?_,h.low⟩,Or.inr fun g e=>?_⟩
 ·have H:w.heap.size=g:=by injection H
  have:=(h.locals.lt g e).2;omega
 ·have e:w.heap.size=A:=by injection e
  omega
 ·have e:w.heap.size=g:=by injection e
  omega
def Qb6(w0 w:World)(X:Nat->Prop)(kb B:Nat)(h:List Zc)(tv:Val)(th:Str)(st:Int)(ov:Bool)(o:Out)(w':World):Prop:=match o with
 |.on k=>QaC w0 w X kb B k.h k.calls.reverse tv th st ov w'
 |.ends _ t=>QaC w0 w X kb B h [] tv t st true w'
 |.full=>False
def zd3(kb:Nat)(q:Zs)(B:Nat)(w:World)(cv hv:Value):Prop :=
 w.cell? ⟨kb,0,none⟩=some (.map (some B))/\w.cell? ⟨q.cb,1,none⟩=some (.string q.c.m.name)/\w.cell? ⟨q.cb,2,none⟩=some (.string q.c.m.type)/\w.cell? ⟨q.cb,3,none⟩=some (.bool q.c.m.static)/\w.cell? ⟨q.cb,4,none⟩=some (.bool q.c.m.abs)/\w.cell? ⟨q.cb,5,none⟩=some (.bool q.c.m.priv) /\
  w.cell? ⟨q.cb,6,none⟩=some (.int .i64 q.c.m.locals)/\w.cell? ⟨q.cb,7,none⟩=some cv/\w.cell? ⟨q.cb,8,none⟩=some hv/\w.cell? ⟨q.cb,9,none⟩=some (.int .i64 q.c.pc)
theorem QcD(w00 w0 w:World)(kb B:Nat)(hv cv:Value)(ps:List (Zc×Value))(qs:List Zs)(tv:Val)(th:Str)(st:Int)(ov:Bool)(M:Qk w0 w kb B hv cv ps qs tv th st ov)(l:List qa)(hm:qh w00 w0 B l)(k:Int)(i:Nat)(x:Zc)(xv:Value)(hi:ps[i]? = some (x,xv))(h50:ps.length<=50)(tt:Ty)(y:qe tt=lst x.type)(hsz:x.type.size<=maxLen)(hk:(Qb (Za l) (qan x.type)).isSome=true)(hho:∀q∈qs,∀h∈q.c.m.handlers,QY h)(h20:qs.length<=20):
 Calls prog 81 #[.pointer (some ⟨kb,0,none⟩),.agg #[.int .i64 k,.int .i64 ((i:Int)+1)]] w fun e w'=>e=.returned (.tuple #[])/\Qb6 w0 w (XS kb hv cv ps qs) kb B (ps.map (·.1)) tv th st ov (qF (Za l) (ps.map (·.1)) (qan x.type) ⟨k,(i:Int)+1⟩ (qs.map (·.c)).reverse) w':=by
 have hcl:str (zH tt)=qan x.type:=by unfold qan;rw[zU y]
 have HDc:Hid (∀wx,Calls prog 78 #[.string x.type] wx fun e w'=>e=.returned (.string (qan x.type))/\w'=wx):=fun wx=>(zY x.type tt wx y hsz).mono fun e w' ⟨s,E⟩=>⟨by rw[s,hcl],E.symm⟩
 generalize qan x.type=cls at *;obtain⟨va,vc,rfl⟩:=Ze M.things;have T1:=M.boxed (.cells #[.int .i64 k,.int .i64 ((i:Int)+1)] 43);have hBw:=(Below.refl w.heap.size w).alloc Xl (.cells #[.int .i64 k,.int .i64 ((i:Int)+1)] 43);have z:=Blk.new w 43 [.int .i64 k,.int .i64 ((i:Int)+1)];generalize hX:XS kb (.slice va ps.length vc) cv ps qs=X at *;have HX:Hid (∀b,X b->b<w.heap.size):=fun b F=>by
  rw[<-hX]at F;obtain⟨r,hr⟩:=F;exact(M.lt r b hr).2
 have HU:Hid (∀w' hv' J ps' qs' tv' th' st' ov',MW w0 (w.alloc (.cells #[.int .i64 k,.int .i64 ((i:Int)+1)] 43)) X w' kb B hv' J ps' qs' tv' th' st' ov'->MW w0 w X w' kb B hv' J ps' qs' tv' th' st' ov'):=fun w' hv' J ps' qs' tv' th' st' ov' U=>by
  rw[<-hX]at U ⊢;exact M.start.unbox hBw U
 generalize hw1:w.alloc (.cells #[.int .i64 k,.int .i64 ((i:Int)+1)] 43)=w1 at *;have HW1:=Xh hw1;have HS1:Hid (w1.heap.size=w.heap.size+1):=by rw[<-hw1];simp[Hid]
 have aA:=T1.at';obtain⟨g,rfl,_,hg,hc⟩:=zaZ qaS aA.things rfl hi;have q1:w1.cell? ⟨kb,1,none⟩=some (.slice (some ⟨g,0,none⟩) ps.length vc):=aA.cells.2.1;have x1:w1.cell? ⟨w.heap.size,1,none⟩=some (.int .i64 ((i:Int)+1)):=z.cell 1;have hil:=(List.getElem?_eq_some_iff.1 hi).1;have y0:w1.cell? ⟨g,i*2,none⟩=some (.string x.type):=hc 0 (by decide);have hi1:(0:Int)<=(i:Int):=by omega
 have hi2:(i:Int)<(ps.length:Int):=by omega
 have hi3:IntKind.i64.wrap (i:Int)=(i:Int):=IntWalk.i64_in _ (by omega);have HT1:=Xh T1;have Hb1:=Xh z;have HM:=Xh hm;have HK:=Xh hk;have HHo:=Xh hho;have H20:=Xh h20;clear T1 aA z hw1 hBw hX M hc hm hk hho h20 hi hil h50 y hsz hcl;go_enter func81,ntmps81;go_upto_region 1 with fail;rw[HW1.out];refine wp_region_still_tail 12 (by kernel_rfl) (by kernel_rfl) ?_;simp only[List.take_succ_cons,List.take_zero,List.drop_succ_cons,List.drop_zero];repeat still_step
 still_call (HDc.out _)
 repeat still_step
 refine wpStill_nil ?_;change wpList _ _ _ _ _ w1.drew;go_wp2_with fail;have o:=Xh HT1.out.drew;have p:=Xh (Hb1.out.step Xb.drew);clear HT1 Hb1 y0 q1 x1 hi1 hi2 hi3 HDc HW1;go_loopg [] qs.length (fun n wr=>∃(r:List Zs) (J:Value),n=r.length/\Hid (∀q∈r,q∈qs)/\Hid (r.length<=20)/\Hid (MW w0 w1 X wr kb B (.slice (some ⟨g,0,none⟩) ps.length vc) J ps r tv th st ov)/\Hid (Blk wr w.heap.size 43 [.int .i64 k,.int .i64 ((i:Int)+1)])/\Hid (qF (Za l) (ps.map (·.1)) cls ⟨k,(i:Int)+1⟩ (r.map (·.c)).reverse=qF (Za l) (ps.map (·.1)) cls ⟨k,(i:Int)+1⟩ (qs.map (·.c)).reverse))
 case atStart=>exact⟨qs,cv,rfl,fun _ h=>h,H20,o,p,rfl⟩
 case round =>
  clear o p;obtain⟨r,J,hn,hr1,hr2,O,F,he⟩:=hrel;rcases List.eq_nil_or_concat r with rfl|⟨r,q,rfl⟩
  ·obtain⟨T,V,rfl⟩:=Ze O.out.at'.calls;have q2:=O.out.at'.cells.2.2.1;have q3:wr.cell? ⟨kb,5,none⟩=some (.string th):=O.out.at'.blk.cell 5;have q7:wr.cell? ⟨kb,7,none⟩=some (.bool ov):=O.out.at'.blk.cell 7;have f3:=O.out.at'.blk.frozen 5;have f7:=O.out.at'.blk.frozen 7;go_wp2_with fail;go_end0;refine⟨rfl,?_⟩;rw[<-he.out];exact⟨_,_,ps,[],HU.out _ _ _ _ _ _ _ _ _ (O.out.tell ((Chg.one _ _ _ _).also _ _) ((O.out.at'.blk.put 5 (.string cls)).put 7 (.bool true))),rfl,rfl⟩
  ·rw[List.concat_eq_append]at *;obtain⟨g2,cap,rfl,c0,-,hgk,hcap,-⟩:=O.out.at'.last;have hr20:r.length+1<=20:=(by have:=hr2.out;simpa using this);have q2:=O.out.at'.cells.2.2.1;have q2:wr.cell? ⟨kb,2,none⟩=some (.slice (some ⟨g2,0,none⟩) (r.length+1) cap):=q2;have z0:decide ((0:Int)<(r.length:Int)+1)=true:=Xj (by omega);have i1:(0:Int)<=(r.length:Int):=(by omega);have i2:(r.length:Int)<(r.length:Int)+1:=(by omega);have i3:(r.length:Int)<=(cap:Int):=(by omega);have z2:IntKind.i64.wrap (r.length:Int)=(r.length:Int):=IntWalk.i64_in _ (by omega);have hn:Hid (gk=r.length+1):=(by unfold Hid;simpa using hn);clear hcap hr20;go_upto_region 3 with fail;go_quiet (fail);go_upto_region 4 with fail;have C:=O.out.step (below_drewN Xb nq);have hb4:=F.out.step (below_drewN Xb nq);clear q2 c0;generalize wr.drewN nq=A at *;have q0:=C.at'.cells.1;have q2:=C.at'.cells.2.2.1;have f2:=C.at'.blk.frozen 2;have q2:A.cell? ⟨kb,2,none⟩=some (.slice (some ⟨g2,0,none⟩) (r.length+1) cap):=q2;have D:=C.at'.top;have m1:A.cell? ⟨q.cb,1,none⟩=some (.string q.c.m.name):=D.blk.cell 1;have m2:A.cell? ⟨q.cb,2,none⟩=some (.string q.c.m.type):=D.blk.cell 2;have m3:A.cell? ⟨q.cb,3,none⟩=some (.bool q.c.m.static):=D.blk.cell 3;have m4:A.cell? ⟨q.cb,4,none⟩=some (.bool q.c.m.abs):=D.blk.cell 4;have m5:A.cell? ⟨q.cb,5,none⟩=some (.bool q.c.m.priv):=D.blk.cell 5;have m6:A.cell? ⟨q.cb,6,none⟩=some (.int .i64 q.c.m.locals):=D.blk.cell 6;have m7:A.cell? ⟨q.cb,7,none⟩=some q.cv:=D.blk.cell 7;have m8:A.cell? ⟨q.cb,8,none⟩=some q.hv:=D.blk.cell 8;have m9:A.cell? ⟨q.cb,9,none⟩=some (.int .i64 q.c.pc):=D.blk.cell 9;have d:=C.at'.meth q (by simp);have hB0:=C.at'.below;obtain⟨Y,fb,hf⟩:∃Y fb,Q3 (Za l) (qi (Za l) cls) q.c.pc q.c.m.handlers=(Y,fb):=⟨_,_,rfl⟩;have G:Hid (∀wx,Below A.heap.size A wx->_):=fun wx F=>Qd2 w00 wx B (Za l) ((HM.out.step hB0).step F).map HM.out.right.nodup HM.out.faces HM.out.right.small HM.out.right.closed q.c.m q.cv q.hv q.c.pc cls HK.out (HHo.out q (hr1.out q (by simp))) ((d.2.mono hB0 (by decide) (fun _ _ h=>h)).mono F (by decide) (fun _ _ h=>h)) Y fb hf
   unfold ZR at G;obtain⟨T,Z,V,f⟩:∃T Z V,q.cv=.slice T Z V:=by
    rcases d.1 with⟨e,_⟩|⟨a,cap,e,_⟩
    ·exact⟨_,_,_,e⟩
    ·exact⟨_,_,_,e⟩
   obtain⟨hp,L,N,j⟩:∃T Z V,q.hv=.slice T Z V:=by
    rcases d.2 with⟨e,_⟩|⟨a,cap,e,_⟩
    ·exact⟨_,_,_,e⟩
    ·exact⟨_,_,_,e⟩
   rw[f]at m7 G;rw[j]at m8 G;have HT4:=Xh C;have Hb4:=Xh hb4;have P:Hid (∀w',Below A.heap.size A w'->zd3 kb q B w' q.cv q.hv):=fun w' F=>by
    have s:=C.at'.step F;have E:=s.top;exact⟨s.cells.1,E.blk.cell 1,E.blk.cell 2,E.blk.cell 3,E.blk.cell 4,E.blk.cell 5,E.blk.cell 6,E.blk.cell 7,E.blk.cell 8,E.blk.cell 9⟩
   rw[f,j]at P;have Hf:=Xh hf;have Hcv:=Xh f;have Hhv:=Xh j;clear D d hB0 hf f j O F C hb4;have hD:=(Below.refl A.heap.size A).drew;by_cases h0:0<=Y
   ·have zf:decide (0<=Y)=true:=Xj h0;have H0:=Xh h0;clear h0;have R:Hid (∀wx,Below A.heap.size A wx->Calls prog 114 #[.map (some B),.agg #[.string q.c.m.name,.string q.c.m.type,.bool q.c.m.static,.bool q.c.m.abs,.bool q.c.m.priv,.int .i64 q.c.m.locals,.slice T Z V,.slice hp L N],.int .i64 q.c.pc,.string cls] wx fun e w'=>e=.returned (.tuple #[.int .i64 Y,.bool fb])/\Below wx.heap.size wx w'/\zd3 kb q B w' (.slice T Z V) (.slice hp L N)):=fun wx F=>(G.out wx F).mono fun e w' ⟨s,E⟩=>⟨s,E,P.out w' (Qa F Xl E)⟩
    go_region_held3 (fun w'=>w'.cell? ⟨kb,0,none⟩=some (.map (some B))/\w'.cell? ⟨q.cb,1,none⟩=some (.string q.c.m.name)/\w'.cell? ⟨q.cb,2,none⟩=some (.string q.c.m.type)/\w'.cell? ⟨q.cb,3,none⟩=some (.bool q.c.m.static)/\w'.cell? ⟨q.cb,4,none⟩=some (.bool q.c.m.abs)/\w'.cell? ⟨q.cb,5,none⟩=some (.bool q.c.m.priv)/\w'.cell? ⟨q.cb,6,none⟩=some (.int .i64 q.c.m.locals)/\w'.cell? ⟨q.cb,7,none⟩=some (.slice T Z V)/\w'.cell? ⟨q.cb,8,none⟩=some (.slice hp L N)/\w'.cell? ⟨q.cb,9,none⟩=some (.int .i64 q.c.pc)) (go_keep)
     (first|(go_fit (R.out _ hD);rintro e w3⟨rfl,H,k0,k1,k2,k3,k4,k5,k6,k7,k8,k9⟩))
    all_goals
     have t:=HT4.out.drew.step H;have b5:=(Hb4.out.step Xb.drew).step H;obtain⟨x0,x1⟩:=b5.cells2;have D:=t.at'.top;have n9:w3.cell? ⟨q.cb,9,none⟩=some (.int .i64 q.c.pc):=D.blk.cell 9;have n11:w3.cell? ⟨q.cb,11,none⟩=some q.sv:=D.blk.cell 11;have f9:=D.blk.frozen 9;have f11:=D.blk.frozen 11;have hlt:=D.blk.lt;have I:=Xh t;clear t b5 D H G R P hD m1 m2 m3 m4 m5 m6 m7 m8 m9 q0 k0 k1 k2 k3 k4 k5 k6 k7 k8 k9;go_upto_region 6 with fail;go_region
     all_goals
      go_wp2_with fail;refine bodyPost_ret (v:=.tuple #[]) (by simp[results,results81,go_sem]) rfl ⟨rfl,?_⟩;have C6:=I.out.at'.top.caught ⟨k,(i:Int)+1⟩ Y.toNat;rw[Int.toNat_of_nonneg H0.out]at C6;obtain⟨-,sv6,T6⟩:=I.out.cal (c':={ q.c with pc:=Y.toNat,S:=[⟨k,(i:Int)+1⟩] }) rfl C6;rw[<-he.out,List.map_append,List.reverse_append];show Qb6 w0 w X kb B _ tv th st ov (qF (Za l) _ cls _ (q.c::(r.map (·.c)).reverse)) _
      unfold qF;rw[Hf.out];rw[if_pos H0.out];exact⟨_,_,ps,_,HU.out _ _ _ _ _ _ _ _ _ T6.drew,rfl,by simp⟩
   ·have zf:decide (0<=Y)=false:=Xi h0;have H0:=Xh h0;clear h0;have R:Hid (∀wx,Below A.heap.size A wx->Calls prog 114 #[.map (some B),.agg #[.string q.c.m.name,.string q.c.m.type,.bool q.c.m.static,.bool q.c.m.abs,.bool q.c.m.priv,.int .i64 q.c.m.locals,.slice T Z V,.slice hp L N],.int .i64 q.c.pc,.string cls] wx fun e w'=>e=.returned (.tuple #[.int .i64 Y,.bool fb])/\Below wx.heap.size wx w'/\zd3 kb q B w' (.slice T Z V) (.slice hp L N)):=fun wx F=>(G.out wx F).mono fun e w' ⟨s,E⟩=>⟨s,E,P.out w' (Qa F Xl E)⟩
    go_region_held3 (fun w'=>w'.cell? ⟨kb,0,none⟩=some (.map (some B))/\w'.cell? ⟨q.cb,1,none⟩=some (.string q.c.m.name)/\w'.cell? ⟨q.cb,2,none⟩=some (.string q.c.m.type)/\w'.cell? ⟨q.cb,3,none⟩=some (.bool q.c.m.static)/\w'.cell? ⟨q.cb,4,none⟩=some (.bool q.c.m.abs)/\w'.cell? ⟨q.cb,5,none⟩=some (.bool q.c.m.priv)/\w'.cell? ⟨q.cb,6,none⟩=some (.int .i64 q.c.m.locals)/\w'.cell? ⟨q.cb,7,none⟩=some (.slice T Z V)/\w'.cell? ⟨q.cb,8,none⟩=some (.slice hp L N)/\w'.cell? ⟨q.cb,9,none⟩=some (.int .i64 q.c.pc)) (go_keep)
     (first|(go_fit (R.out _ hD);rintro e w3⟨rfl,H,k0,k1,k2,k3,k4,k5,k6,k7,k8,k9⟩))
    all_goals
     have t:=HT4.out.drew.step H;have b5:=(Hb4.out.step Xb.drew).step H;have n2:w3.cell? ⟨kb,2,none⟩=some (.slice (some ⟨g2,0,none⟩) (r.length+1) cap):=t.at'.cells.2.2.1;have f2:=t.at'.blk.frozen 2;have I:=Xh t;have Hb5:=Xh b5;clear t b5 H G R P hD m1 m2 m3 m4 m5 m6 m7 m8 m9 q0 k0 k1 k2 k3 k4 k5 k6 k7 k8 k9;go_upto_region 7 with fail;go_region
     all_goals
      have T6:=I.out.drop (w':=w3.setCell ⟨kb,2,none⟩ (.slice (some ⟨g2,0,none⟩) r.length cap)) rfl (Chg.one _ _ _ _) (I.out.at'.blk.put 2 _);have HT6:=Xh T6.drew;have hkw:w.heap.size≠kb:=fun e=>by
       rcases I.out.parts .m kb rfl with h|h
       ·have:=HX.out _ h;omega
       ·have:=HS1.out;omega
      have Hb6:=Xh ((Hb5.out.other hkw 2 (.slice (some ⟨g2,0,none⟩) r.length cap)).step Xb.drew);go_wp2_with fail;go_roundg r.length
      case measure=>have:=hn.out;omega
      case rel =>
       refine⟨r,_,rfl,fun q' hq'=>hr1.out q' (by simp[hq']),?_,HT6,Hb6,?_⟩
       ·have:=hr2.out;simp at this;show r.length<=20
        omega
       ·rw[<-he.out,List.map_append,List.reverse_append];show _=qF (Za l) _ cls _ (q.c::(r.map (·.c)).reverse)
        conv=>rhs;unfold qF
        rw[Hf.out,if_neg (show ¬0<=Y by have:=H0.out;omega)]
