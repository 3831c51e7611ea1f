/- Lemmas; conditions: as each states. -/
import Derived.Test.YtmclocdhcblbiaaGreatDoorRunMore
set_option maxHeartbeats 4000000
namespace Go.Proofs.YtmclocdhcblbiaaGreatDoor
open Go.RowKit
theorem qet(n:Int):bits .and .i64 n 31=n % 32:=by
 have A:(BitVec.ofInt 64 31).toNat=2 ^ 5-1:=by decide
 have B:(BitVec.ofInt 64 n&&&BitVec.ofInt 64 31).toNat=(n % ((2 ^ 64:Nat):Int)).toNat % 2 ^ 5:=by
  rw[BitVec.toNat_and,BitVec.toNat_ofInt,A,Nat.and_two_pow_sub_one_eq_mod]
 show IntKind.i64.wrap ((BitVec.ofInt 64 n&&&BitVec.ofInt 64 31).toNat:Nat)=n % 32
 rw[B,IntKind.wrap_i64];omega
theorem Qet(n:Int):bits .and .i64 n 63=n % 64:=by
 have A:(BitVec.ofInt 64 63).toNat=2 ^ 6-1:=by decide
 have B:(BitVec.ofInt 64 n&&&BitVec.ofInt 64 63).toNat=(n % ((2 ^ 64:Nat):Int)).toNat % 2 ^ 6:=by
  rw[BitVec.toNat_and,BitVec.toNat_ofInt,A,Nat.and_two_pow_sub_one_eq_mod]
 show IntKind.i64.wrap ((BitVec.ofInt 64 n&&&BitVec.ofInt 64 63).toNat:Nat)=n % 64
 rw[B,IntKind.wrap_i64];omega
theorem ZaP(A a b:Int)(w:World):
 Calls Tryz.prog 179 #[.int .i64 A,.int .i64 a,.int .i64 b] w fun e w'=>e=.returned (.tuple #[.int .i64 (qcy A a b),.bool (zdb A b)])/\w=w':=by
 have C:wrap64 0=0:=by unfold wrap64;omega
 by_cases B:b=0
 ·subst B;go_enter Tryz.func179,Tryz.ntmps179;go_wp2
  all_goals
   go_ret2;simp_all [qcy,zdb]
 ·have D:(b==0)=false:=by simpa using B
  go_enter Tryz.func179,Tryz.ntmps179;go_wp2
  all_goals
   go_ret2;simp_all [qcy,zdb]
theorem qa1(A a d:Int)(w:World):
 Calls Tryz.prog 180 #[.int .i64 A,.int .i64 a,.int .i64 d,.int .i64 32] w fun e w'=>e=.returned (.int .i64 (zb5 A a d true))/\w=w':=by
 have B:=qet d;have C:0<=d % 32:=by omega
 have D:d % 32<=31:=by omega
 go_enter Tryz.func180,Tryz.ntmps180;go_wp2
 all_goals
  go_ret;simp_all [zb5]
theorem Qa1(A a d:Int)(w:World):
 Calls Tryz.prog 180 #[.int .i64 A,.int .i64 a,.int .i64 d,.int .i64 64] w fun e w'=>e=.returned (.int .i64 (zb5 A a d false))/\w=w':=by
 have B:=Qet d;have C:0<=d % 64:=by omega
 have D:d % 64<=63:=by omega
 go_enter Tryz.func180,Tryz.ntmps180;go_wp2
 all_goals
  go_ret;simp_all [zb5]
theorem QaD(a:Int)(w:World):
 Calls Tryz.prog 50 #[.int .i64 a] w fun e w'=>e=.returned (.int .i64 (wrap32 a))/\w=w':=by
 have h:=wrap32_wf a;have A:wrap64 (wrap32 a)=wrap32 a:=by unfold wrap64 wrap32;omega
 go_enter Tryz.func50,Tryz.ntmps50;go_wp2
 go_ret;exact⟨by simp[A],rfl⟩
theorem qfq(A a b:Int)(w:World):
 Calls Tryz.prog 149 #[.string ⟨#[73]⟩,.int .i64 A,.int .i64 a,.int .i64 b] w fun e w'=>e=.returned (.tuple #[.int .i64 (ofN true A a b),.bool (ofB A b)])/\w=w':=by
 by_cases C:9<=A
 ·by_cases D:A<=11
  ·go_enter Tryz.func149,Tryz.ntmps149;go_wp2_with (first|(go_at_call 179;refine(ZaP _ _ _ _).mono ?_;rintro e w'⟨rfl,rfl⟩)|(go_at_call 180;refine(qa1 _ _ _ _).mono ?_;rintro e w'⟨rfl,rfl⟩)|(go_at_call 50;refine(QaD _ _).mono ?_;rintro e w'⟨rfl,rfl⟩))
   go_ret2;simp[ofN,ofB,C,D]
  ·go_enter Tryz.func149,Tryz.ntmps149;go_wp2_with (first|(go_at_call 179;refine(ZaP _ _ _ _).mono ?_;rintro e w'⟨rfl,rfl⟩)|(go_at_call 180;refine(qa1 _ _ _ _).mono ?_;rintro e w'⟨rfl,rfl⟩)|(go_at_call 50;refine(QaD _ _).mono ?_;rintro e w'⟨rfl,rfl⟩))
   go_ret2;have B:¬A<=11:=(by omega);simp[ofN,ofB,B]
 ·go_enter Tryz.func149,Tryz.ntmps149;go_wp2_with (first|(go_at_call 179;refine(ZaP _ _ _ _).mono ?_;rintro e w'⟨rfl,rfl⟩)|(go_at_call 180;refine(qa1 _ _ _ _).mono ?_;rintro e w'⟨rfl,rfl⟩)|(go_at_call 50;refine(QaD _ _).mono ?_;rintro e w'⟨rfl,rfl⟩))
  go_ret2;have B:¬9<=A:=by omega
  simp[ofN,ofB,B]
theorem Qfq(A a b:Int)(w:World):
 Calls Tryz.prog 149 #[.string ⟨#[74]⟩,.int .i64 A,.int .i64 a,.int .i64 b] w fun e w'=>e=.returned (.tuple #[.int .i64 (ofN false A a b),.bool (ofB A b)])/\w=w':=by
 by_cases C:9<=A
 ·by_cases D:A<=11
  ·go_enter Tryz.func149,Tryz.ntmps149;go_wp2_with (first|(go_at_call 179;refine(ZaP _ _ _ _).mono ?_;rintro e w'⟨rfl,rfl⟩)|(go_at_call 180;refine(Qa1 _ _ _ _).mono ?_;rintro e w'⟨rfl,rfl⟩)|(go_at_call 50;refine(QaD _ _).mono ?_;rintro e w'⟨rfl,rfl⟩))
   go_ret2;simp[ofN,ofB,C,D]
  ·go_enter Tryz.func149,Tryz.ntmps149;go_wp2_with (first|(go_at_call 179;refine(ZaP _ _ _ _).mono ?_;rintro e w'⟨rfl,rfl⟩)|(go_at_call 180;refine(Qa1 _ _ _ _).mono ?_;rintro e w'⟨rfl,rfl⟩)|(go_at_call 50;refine(QaD _ _).mono ?_;rintro e w'⟨rfl,rfl⟩))
   go_ret2;have B:¬A<=11:=(by omega);simp[ofN,ofB,B]
 ·go_enter Tryz.func149,Tryz.ntmps149;go_wp2_with (first|(go_at_call 179;refine(ZaP _ _ _ _).mono ?_;rintro e w'⟨rfl,rfl⟩)|(go_at_call 180;refine(Qa1 _ _ _ _).mono ?_;rintro e w'⟨rfl,rfl⟩)|(go_at_call 50;refine(QaD _ _).mono ?_;rintro e w'⟨rfl,rfl⟩))
  go_ret2;have B:¬9<=A:=by omega
  simp[ofN,ofB,B]
open Go.RowKit Go.Shelf Go.Lib
def Qad:PanicEntry:={ v:=.iface 142 (.agg #[]),recovered:=false }
theorem Q8(w:World):Calls Tryz.prog 87 #[.bool true] w fun e w'=>e=.returned (.tuple #[])/\w=w':=by
 go_enter Tryz.func87,Tryz.ntmps87;go_wp2_with fail;go_end0;exact⟨rfl,rfl⟩
theorem qV(w:World):Calls Tryz.prog 87 #[.bool false] w fun e w'=>e=.panicked [Qad]/\w=w':=by
 go_enter Tryz.func87,Tryz.ntmps87;go_wp2_with fail;exact⟨rfl,rfl,rfl⟩
set_option maxRecDepth 100000
theorem Zdw(base:Nat)(w:World)(cb:Nat)(cv hv lv sv:Value)(c:Cal)(h:QD base w cb cv hv lv sv c)(T:List Val)(v:Val)(G:c.S=T++[v]):
 Calls Tryz.prog 86 #[.pointer (some ⟨cb,0,none⟩)] w fun e w'=>e=.returned (ZbR v)/\Chg (Qao cb lv sv) w w'/\∃sv',QD base w' cb cv hv lv sv' { c with S:=T }/\sv'.ownBlock=sv.ownBlock:=by
 have C:=Xh h;have A:=h.stack;have B:c.S.length=T.length+1:=by rw[G];simp
 rw[B,G,List.flatMap_append]at A;obtain⟨g,cap,rfl,L,H,F⟩:∃g cap,sv=.slice (some ⟨g,0,none⟩) (T.length+1) cap/\base<=g/\T.length+1<=cap/\cap<=maxLen:=by
  rcases A.2 with⟨_,a⟩|⟨g,cap,M,N,O,_,P,R,_⟩
  ·omega
  ·exact⟨g,cap,N,O,P,R⟩
 have U:w.cell? ⟨cb,11,none⟩=some (.slice (some ⟨g,0,none⟩) (T.length+1) cap):=h.blk.cell 11;have V:=h.blk.frozen 11;have D:(T.flatMap qt).length=T.length*2:=Z5 qaF T;have X:w.cell? ⟨g,T.length*2,none⟩=some (.int .i64 v.kind):=by
  rw[World.ownsRow.cellAt A (T.length*2) (by omega),List.getElem?_append_right (by omega),D,Nat.sub_self];rfl
 have Y:w.cell? ⟨g,T.length*2+1,none⟩=some (.int .i64 v.n):=by
  rw[World.ownsRow.cellAt A (T.length*2+1) (by omega),List.getElem?_append_right (by omega),D,show T.length*2+1-T.length*2=1 by omega];rfl
 have Z:wrap64 (T.length:Int)=(T.length:Int):=by
  unfold maxLen at F;unfold wrap64;omega
 have I:=h.blk.lt;have J:=(A.lt g rfl).2;have E:=Xh (Go.ownsRow_pop D A);clear h A G B;go_enter Tryz.func86,Tryz.ntmps86;go_wp2_with fail;refine bodyPost_ret (v:=ZbR v) (by simp[results,Tryz.results86,go_sem,ZbR, *]) rfl ⟨rfl,((Chg.refl _ w).set (fun _=>Or.inl rfl) _).alloc _ |>.alloc _,_,(C.out.stacked C.out.blk C.out.locals E.out (Or.inl rfl)).step ?_,rfl⟩;exact(Xb.alloc Xl _).alloc (by simp) _
set_option maxRecDepth 512
theorem Zea(v:Val):∀u∈qt v,u.oneCell'=true:=by
 intro u A;simp[qt]at A;rcases A with rfl|rfl<;>rfl
set_option maxRecDepth 100000
theorem qdw(base:Nat)(w:World)(cb:Nat)(cv hv lv sv:Value)(c:Cal)(h:QD base w cb cv hv lv sv c)(hn:c.S.length<=4194304)(v:Val):
 Calls Tryz.prog 120 #[.pointer (some ⟨cb,0,none⟩),ZbR v] w fun e w'=>e=.returned (.tuple #[])/\qZ base w cb cv hv lv sv { c with S:=c.S++[v] } w':=by
 obtain⟨i0,hi,m,o,p⟩:=info_parts ZbS;obtain⟨V,X,rfl⟩:=Qd h.stack;have D:=(Below.refl w.heap.size w).alloc Xl (.cells #[.int .i64 v.kind,.int .i64 v.n] 43);have L:=h.step D;have Y:=h.size;have t:=h.blk.lt;obtain⟨B,C⟩:∃B,B=w.alloc (.cells #[.int .i64 v.kind,.int .i64 v.n] 43):=⟨_,rfl⟩;have E:Blk B w.heap.size 43 [.int .i64 v.kind,.int .i64 v.n]:=by rw[C];exact Blk.new w _ _
 have x:B.cell? ⟨w.heap.size,0,none⟩=some (.int .i64 v.kind):=E.cell 0;have y:B.cell? ⟨w.heap.size,1,none⟩=some (.int .i64 v.n):=E.cell 1;rw[<-C]at L D;have M:B.heap.size=w.heap.size+1:=by rw[C];simp
 have N:=(Below.refl B.heap.size B).drew;have G:=N.alloc N.size (.cells #[.int .i64 v.kind,.int .i64 v.n] 43);have Z:=L.step G;have O:=Z.stack;have P:c.S.length+1<=maxLen:=by unfold maxLen;omega
 have R:(c.S.length+1)*16<=140737488355328:=by omega
 have I:base<=(B.drew.alloc (.cells #[.int .i64 v.kind,.int .i64 v.n] 43)).heap.size:=by simp;omega
 have q4:B.cell? ⟨cb,11,none⟩=some (.slice V c.S.length X):=L.blk.cell 11;have q:=L.blk.lt;have a:=Xh C;have d:=Xh M;have H:=Xh h;have r:=Xh Z;have z:=Xh D;have T:=Xh (E.step G);have f:=Xh G;have i:Hid (∀b,b=cb\/b=w.heap.size->some b≠(Value.slice V c.S.length X).ownBlock):=fun b U e=>by
  rcases U with rfl|rfl
  ·exact h.sfar e.symm
  ·have:=(h.stack.lt _ e.symm).2;omega
 unfold ZbR;clear h L Z D M Y C E;go_enter Tryz.func120,Tryz.ntmps120;go_upto_region 1 with fail;rw[<-a.out];go_region_law (first|(refine step_append_lies _ (by rfl) _ _ 51 (by rfl) base 43 i0 (.agg #[.int .i64 0,.int .i64 0]) 2 16 Tryz.underlying51 hi m o p rfl (by decide) _ c.S.length _ (by rfl) O ⟨B.heap.size,0,none⟩ 1 1 (qt v) (by rfl) rfl (qbS B.drew _ _ 43) (Zea v) (by decide) P R I (B.heap.size+1) (by simp) ?_;intro g cap s J A F hlt;(have j:=r.out.blk.grown A (fun e=>i.out cb (Or.inl rfl) e.symm));(have e0:s.cell? ⟨cb,11,none⟩=some (.slice V c.S.length X):=j.cell 11);(have f8:=j.frozen 11);(have e1:=A.cell (T.out.cell 0) (i.out _ (Or.inr rfl)));(have e2:=A.cell (T.out.cell 1) (i.out _ (Or.inr rfl)))))
 all_goals
  go_end0;have l:Chg (Qao cb lv (.slice V c.S.length X)) w s:=((Chg.of z.out).on f.out).grown A (fun k hk _=>Or.inr (Or.inr hk));refine⟨rfl,qZ.mk (l.set (fun _=>Or.inl rfl) _) (H.out.stacked j (r.out.locals.kept A ?_) (by rw[List.length_append,List.flatMap_append,List.flatMap_singleton];exact J) ?_) ?_⟩
  ·cases hl:lv.ownBlock with
   |none=>exact Or.inl rfl
   |some b=>exact Or.inr (fun e=>H.out.apart b hl e.symm)
  all_goals
   rcases F with F|F
   ·exact Or.inl F.symm
   ·refine Or.inr fun b U=>?_
    have U:g=b:=(by injection U);have:=d.out;omega
set_option maxRecDepth 512
theorem Zbx(t:Str)(w:World):Calls Tryz.prog 121 #[.string t] w fun e w'=>e=.returned (.int .i64 (zag t))/\w=w':=by
 obtain⟨b,A⟩:∃b,(t.toList==[73])=b:=⟨_,rfl⟩;unfold zag;rw[A];cases b;all_goals
  go_enter Tryz.func121,Tryz.ntmps121;go_wp2_with fail;go_ret;exact⟨rfl,rfl⟩
theorem Qdw(t:Str)(w:World):Calls Tryz.prog 121 #[.string t] w fun e w'=>e=.returned (.int .i64 (zag t))/\w'=w:=(Zbx t w).mono fun _ _ ⟨a,b⟩=>⟨a,b.symm⟩
theorem zeu(A n:Int)(w:World):Calls Tryz.prog 123 #[.int .i64 A,.int .i64 n] w fun e w'=>e=.returned (.bool (QbC A n))/\w=w':=by
 have H:∀r,QbC A n=r->Calls Tryz.prog 123 #[.int .i64 A,.int .i64 n] w fun e w'=>e=.returned (.bool r)/\w=w':=fun r B=>by
  unfold QbC at B;split at B
  ·rename_i C;subst C B;go_enter Tryz.func123,Tryz.ntmps123;go_wp2_with fail;go_ret;exact⟨by first|rfl|simp|(simp;rfl),rfl⟩
  ·rename_i C;have I:(A==0)=false:=(by simpa using C);split at B
   ·rename_i D;subst D B;go_enter Tryz.func123,Tryz.ntmps123;go_wp2_with fail;go_ret;exact⟨by first|rfl|simp|(simp;rfl),rfl⟩
   ·rename_i D;have J:(A==1)=false:=(by simpa using D);split at B
    ·rename_i E;subst E B;go_enter Tryz.func123,Tryz.ntmps123;go_wp2_with fail;go_ret;exact⟨by first|rfl|simp|(simp;rfl),rfl⟩
    ·rename_i E;have L:(A==2)=false:=(by simpa using E);split at B
     ·rename_i F;subst F B;go_enter Tryz.func123,Tryz.ntmps123;go_wp2_with fail;go_ret;exact⟨by first|rfl|simp|(simp;rfl),rfl⟩
     ·rename_i F;have M:(A==3)=false:=(by simpa using F);split at B
      ·rename_i G;subst G B;go_enter Tryz.func123,Tryz.ntmps123;go_wp2_with fail;go_ret;exact⟨by first|rfl|simp|(simp;rfl),rfl⟩
      ·rename_i G;have N:(A==4)=false:=(by simpa using G);clear C D E F G;subst B;go_enter Tryz.func123,Tryz.ntmps123;go_wp2_with fail;go_ret;exact⟨by first|rfl|simp|(simp;rfl),rfl⟩
 exact H _ rfl
theorem qea(t:Str)(B:ZO (lst t)=true)(A a b:Int)(w:World):Calls Tryz.prog 149 #[.string t,.int .i64 A,.int .i64 a,.int .i64 b] w fun e w'=>e=.returned (.tuple #[.int .i64 (ofN (isI t) A a b),.bool (ofB A b)])/\w=w':=by
 unfold ZO at B;rw[Bool.or_eq_true,beq_iff_eq,beq_iff_eq]at B;unfold isI;rw[ByteArray.toList_eq];rcases B with B|B
 ·obtain rfl:t=⟨#[73]⟩:=ByteArray.ext (Array.ext' B);exact qfq A a b w
 ·obtain rfl:t=⟨#[74]⟩:=ByteArray.ext (Array.ext' B);exact Qfq A a b w
structure CW (base:Nat) (w:World) (cb:Nat) (cv hv lv sv:Value) (xb:Nat) (xv:List Value) (wx:World) (sv':Value) (c:Cal):Prop where
 chg:Chg (Qao cb lv sv) w wx
 cal:QD base wx cb cv hv lv sv' c
 new:sv'.ownBlock=sv.ownBlock\/∀g,sv'.ownBlock=some g->w.heap.size<=g
 box:Blk wx xb 34 xv
 far:¬Qao cb lv sv' xb
section
variable {base:Nat} {w:World} {cb:Nat} {cv hv lv sv:Value} {xb:Nat} {xv:List Value} {wx:World} {sv':Value} {c:Cal}
theorem CW.start(h:QD base w cb cv hv lv sv c)(xv:List Value):CW base w cb cv hv lv sv w.heap.size xv (w.alloc (.cells xv.toArray 34)) sv c :=
 ⟨(Chg.refl _ w).alloc _,h.step (Xb.alloc Xl _),Or.inl rfl,Blk.new w _ xv,fun A=>by have:=(h.in A).2;omega⟩
theorem CW.step(T:CW base w cb cv hv lv sv xb xv wx sv' c){B:World}(A:Below wx.heap.size wx B):CW base w cb cv hv lv sv xb xv B sv' c :=
 ⟨T.chg.on A,T.cal.step A,T.new,T.box.step A,T.far⟩
theorem CW.alloc(T:CW base w cb cv hv lv sv xb xv wx sv' c)(o:Obj):CW base w cb cv hv lv sv xb xv (wx.alloc o) sv' c:=T.step (Xb.alloc Xl o)
theorem CW.drew(T:CW base w cb cv hv lv sv xb xv wx sv' c):CW base w cb cv hv lv sv xb xv wx.drew sv' c:=T.step Xb.drew
theorem CW.after(T:CW base w cb cv hv lv sv xb xv wx sv' c){c':Cal}{C:World}(D:qZ base wx cb cv hv lv sv' c' C):Chg (Qao cb lv sv') wx C/\∃B,CW base w cb cv hv lv sv xb xv C B c':=by
 have F:=qZ.then T.chg T.new D;obtain⟨E,B,G,A⟩:=D;obtain⟨H,_⟩:=F;refine⟨E,B,H,G,?_,T.box.chg E T.far,?_⟩
 ·rcases A with A|A
  ·rcases T.new with n|n
   ·exact Or.inl (A.trans n)
   ·exact Or.inr fun g e=>n g (A▸e)
  ·exact Or.inr fun g e=>Xf T.chg.size (A g e)
 ·rintro(e|e|e)
  ·exact T.far (Or.inl e)
  ·exact T.far (Or.inr (Or.inl e))
  ·rcases A with A|A
   ·exact T.far (Or.inr (Or.inr (A▸e)))
   ·have:=A _ e;have:=T.box.lt;omega
theorem CW.post(T:CW base w cb cv hv lv sv xb xv wx sv' c):qZ base w cb cv hv lv sv c wx:=⟨T.chg,sv',T.cal,T.new⟩
theorem CW.pop(T:CW base w cb cv hv lv sv xb xv wx sv' c){S:List Val}{v:Val}(F:c.S=S++[v]):Calls Tryz.prog 86 #[.pointer (some ⟨cb,0,none⟩)] wx fun e E=>e=.returned (.agg #[.int .i64 v.kind,.int .i64 v.n])/\Chg (Qao cb lv sv') wx E/\∃A,CW base w cb cv hv lv sv xb xv E A { c with S:=S }/\A.ownBlock=sv'.ownBlock :=
 (Zdw base wx cb cv hv lv sv' c T.cal S v F).mono fun _ _ ⟨G,C,A,H,D⟩=>⟨G,C,A,⟨T.chg.trans C (fun i I B=>by
  rcases B with e|e|e
  ·exact Or.inl e
  ·exact Or.inr (Or.inl e)
  ·rcases T.new with n|n
   ·exact Or.inr (Or.inr (n▸e))
   ·have:=n i e;omega),H,by rw[D];exact T.new,T.box.chg C T.far,fun B=>T.far (by unfold Qao at B ⊢;rwa [D]at B)⟩,D⟩
theorem CW.other(T:CW base w cb cv hv lv sv xb xv wx sv' c){b:Nat}(A:¬Qao cb lv sv' b)(B:xb≠b)(C:w.heap.size<=b)(j:Nat)(u:Value):CW base w cb cv hv lv sv xb xv (wx.setCell ⟨b,j,none⟩ u) sv' c :=
 ⟨T.chg.set (fun h=>absurd h (Nat.not_lt_of_le C)) u,⟨T.cal.blk.other (fun e=>A (Or.inl e.symm)) j u,ZX T.cal.locals (fun e=>A (Or.inr (Or.inl e))) j u,ZX T.cal.stack (fun e=>A (Or.inr (Or.inr e))) j u,T.cal.apart,T.cal.lfar,T.cal.sfar,T.cal.low⟩,T.new,T.box.other B j u,T.far⟩
theorem CW.put(T:CW base w cb cv hv lv sv xb xv wx sv' c)(C:c.S.length<=4194304)(v:Val):Calls Tryz.prog 120 #[.pointer (some ⟨cb,0,none⟩),.agg #[.int .i64 v.kind,.int .i64 v.n]] wx fun e B=>e=.returned (.tuple #[])/\Chg (Qao cb lv sv') wx B/\∃A,CW base w cb cv hv lv sv xb xv B A { c with S:=c.S++[v] } :=
 (qdw base wx cb cv hv lv sv' c T.cal C v).mono fun _ _ ⟨D,E⟩=>⟨D,T.after E⟩
theorem CW.cells{A B C D E F:Value}(T:CW base w cb cv hv lv sv xb [A,B,C,D,E,F] wx sv' c):wx.cell? ⟨xb,0,none⟩=some A/\wx.cell? ⟨xb,1,none⟩=some B/\wx.cell? ⟨xb,2,none⟩=some C/\wx.cell? ⟨xb,3,none⟩=some D/\wx.cell? ⟨xb,4,none⟩=some E/\wx.cell? ⟨xb,5,none⟩=some F:=T.box.cells6
end
theorem ZaH(a b:Value)(w:World):(Instr.field 43 (.agg #[a,b]) 1).run Tryz.prog w=.ok b w:=by kernel_rfl
def Q1(base:Nat)(w:World)(cb:Nat)(cv hv lv sv:Value)(c:Cal)(r:Option (Value×List Val×List Val))(e:Ending)(w':World):Prop:=match r with
 |none=>e=.panicked [Qad]/\∃S,qZ base w cb cv hv lv sv { c with S:=S } w'
 |some (v,L,S)=>e=.returned v/\qZ base w cb cv hv lv sv { c with L:=L,S:=S } w'
set_option maxRecDepth 100000
theorem Zeu(base:Nat)(w:World)(cb:Nat)(cv hv lv sv:Value)(c:Cal)(h:QD base w cb cv hv lv sv c)(J:c.S.length<=4194304)(C b:Int)(t cls A:Str)(U:ZO (lst t)=true)(T:List Val)(v:Val)(M:c.S=T++[v]):
 Calls Tryz.prog 122 #[.pointer (some ⟨cb,0,none⟩),.agg #[.int .i64 C,.int .i64 12,.int .i64 b,.string t,.string cls,.string A]] w (Q1 base w cb cv hv lv sv c (if ofB 12 0 then some (.tuple #[],c.L,T++[⟨zag t,ofN (isI t) 12 v.n 0⟩]) else none)):=by
 have H:=CW.start h [.int .i64 C,.int .i64 12,.int .i64 b,.string t,.string cls,.string A];obtain⟨f,g,i,X,j,k⟩:=H.cells;have Y:Hid (∀wx,_):=fun wx=>Zbx t wx
 have V:Hid (∀wx,_):=fun wx=>qea t U 12 v.n 0 wx
 have Z:Hid (∀wx,_):=fun wx=>Q8 wx
 have N:T.length<=4194304:=by rw[M]at J;simp at J;omega
 rw[if_pos (show ofB 12 0=true by decide)];rw[show ofB 12 0=true by decide]at V;have D:=H.alloc (.cells #[.int .i64 0,.int .i64 0] 43);have B:Blk ((w.alloc (.cells #[.int .i64 C,.int .i64 12,.int .i64 b,.string t,.string cls,.string A] 34)).alloc (.cells #[.int .i64 0,.int .i64 0] 43)) (w.heap.size+1) 43 [.int .i64 0,.int .i64 0]:=by
  have:=Blk.new (w.alloc (.cells #[.int .i64 C,.int .i64 12,.int .i64 b,.string t,.string cls,.string A] 34)) 43 [.int .i64 0,.int .i64 0];simpa using this
 have E:¬Qao cb lv sv (w.heap.size+1):=fun r=>by
  have:=(H.cal.in r).2;simp at this
 generalize G:(w.alloc (.cells #[.int .i64 C,.int .i64 12,.int .i64 b,.string t,.string cls,.string A] 34)).alloc (.cells #[.int .i64 0,.int .i64 0] 43)=R at D B;have F:=Xh G;have s:R.cell? ⟨w.heap.size,3,none⟩=some (.string t):=D.box.cell 3;have x:R.cell? ⟨w.heap.size,1,none⟩=some (.int .i64 12):=D.box.cell 1;have y:R.cell? ⟨w.heap.size+1,1,none⟩=some (.int .i64 0):=B.cell 1;have O:=Xh B;have a:=ZaH;have d:=Xh M;have P:=Xh D;clear G B M D H h J U;go_enter Tryz.func122,Tryz.ntmps122;go_upto_region 4 with fail;rw[F.out];clear F f g i X j k;go_region_held3 (fun w'=>w'.cell? ⟨w.heap.size,3,none⟩=some (.string t)/\w'.cell? ⟨w.heap.size,1,none⟩=some (.int .i64 12)/\w'.cell? ⟨w.heap.size+1,1,none⟩=some (.int .i64 0)) (go_keep)
  (first
   |(go_fit (P.out.drew.pop d.out);rintro e w2⟨rfl,l,m,I,o⟩;(have z:=I.box.cell 3);(have j1:=I.box.cell 1);(have jb:=((O.out.step Xb.drew).chg l E).cell 1))
   |(go_fit (V.out _);rintro e w3⟨rfl,rfl⟩))
 all_goals
  have X:=I.box.cell 3;go_wp2_with (first
   |(go_fit (Z.out _);rintro e w4⟨rfl,rfl⟩)
   |(go_fit (Y.out _);rintro e w5⟨rfl,rfl⟩)
   |(go_fit (I.put N ⟨zag t,ofN (isI t) 12 v.n 0⟩);rintro e w6⟨rfl,_,p,q⟩))
  go_end0;exact⟨rfl,q.post⟩
theorem qeu(base:Nat)(w:World)(cb:Nat)(cv hv lv sv:Value)(c:Cal)(h:QD base w cb cv hv lv sv c)(Y:c.S.length<=4194304)(I a b:Int)(t cls A:Str)(r:ZO (lst t)=true)(s:a≠12)(T:List Val)(u v:Val)(Z:c.S=T++[u]++[v]):
 Calls Tryz.prog 122 #[.pointer (some ⟨cb,0,none⟩),.agg #[.int .i64 I,.int .i64 a,.int .i64 b,.string t,.string cls,.string A]] w (Q1 base w cb cv hv lv sv c (if ofB a v.n then some (.tuple #[],c.L,T++[⟨zag t,ofN (isI t) a u.n v.n⟩]) else none)):=by
 have d:=CW.start h [.int .i64 I,.int .i64 a,.int .i64 b,.string t,.string cls,.string A];obtain⟨i0,i1,i2,z,i4,i5⟩:=d.cells;have HK:Hid (∀wx,_):=fun wx=>Zbx t wx
 have y:Hid (∀wx,_):=fun wx=>qea t r a u.n v.n wx
 have f:T.length<=4194304:=by rw[Z]at Y;simp at Y;omega
 have g:(a==12)=false:=by simpa using s
 have i:=d.alloc (.cells #[.int .i64 0,.int .i64 0] 43);have D:Blk ((w.alloc (.cells #[.int .i64 I,.int .i64 a,.int .i64 b,.string t,.string cls,.string A] 34)).alloc (.cells #[.int .i64 0,.int .i64 0] 43)) (w.heap.size+1) 43 [.int .i64 0,.int .i64 0]:=by
  have:=Blk.new (w.alloc (.cells #[.int .i64 I,.int .i64 a,.int .i64 b,.string t,.string cls,.string A] 34)) 43 [.int .i64 0,.int .i64 0];simpa using this
 have J:∀x,Qao cb lv sv x->x<w.heap.size:=fun x H=>(h.in H).2
 generalize G:(w.alloc (.cells #[.int .i64 I,.int .i64 a,.int .i64 b,.string t,.string cls,.string A] 34)).alloc (.cells #[.int .i64 0,.int .i64 0] 43)=w1 at i D;have M:=Xh G;have N:=Xh D;have hfd:=ZaH;have HS:=Xh Z;have O:=Xh i;have j:Hid (w1.heap.size=w.heap.size+1+1):=by rw[<-G];simp[Hid]
 have E:=Xh J;clear G D Z i d h Y r s J;go_enter Tryz.func122,Tryz.ntmps122;go_upto_region 3 with fail;rw[M.out];clear M i0 i1 i2 z i4 i5;go_upto_region 4 with(go_fit (O.out.pop HS.out);rintro e l⟨rfl,X,m,T2,o⟩;(have B:=N.out.chg X (fun H=>by have:=E.out _ H;omega));(have l0:l.cell? ⟨w.heap.size+1,0,none⟩=some (.int .i64 0):=B.cell 0);(have l1:l.cell? ⟨w.heap.size+1,1,none⟩=some (.int .i64 0):=B.cell 1);(have f0:=B.frozen 0);(have f1:=B.frozen 1))
 have F:¬Qao cb lv m (w.heap.size+1):=fun H=>by
  have:=E.out (w.heap.size+1) (by unfold Qao at H ⊢;rwa [o]at H);omega
 have P:=(T2.other F (by omega) (by omega) 0 (.int .i64 v.kind)).other F (by omega) (by omega) 1 (.int .i64 v.n);have C:=B.put2 (.int .i64 v.kind) (.int .i64 v.n);generalize q:(l.setCell ⟨w.heap.size+1,0,none⟩ (.int .i64 v.kind)).setCell ⟨w.heap.size+1,1,none⟩ (.int .i64 v.n)=p at P C;have R:=Xh C;have U:=Xh P;have k3:p.cell? ⟨w.heap.size,3,none⟩=some (.string t):=P.box.cell 3;have k1:p.cell? ⟨w.heap.size,1,none⟩=some (.int .i64 a):=P.box.cell 1;have kb:p.cell? ⟨w.heap.size+1,1,none⟩=some (.int .i64 v.n):=C.cell 1;clear q C P T2 B l0 l1 f0 f1 X O N j E g;go_region_held3 (fun w'=>w'.cell? ⟨w.heap.size,3,none⟩=some (.string t)/\w'.cell? ⟨w.heap.size,1,none⟩=some (.int .i64 a)/\w'.cell? ⟨w.heap.size+1,1,none⟩=some (.int .i64 v.n)) (go_keep)
  (first
   |(go_fit (U.out.drew.pop rfl);rintro e w4⟨rfl,X,sv4,V,_⟩;(have j3:=V.box.cell 3);(have j1:=V.box.cell 1);(have jb:=((R.out.step Xb.drew).chg X F).cell 1))
   |(go_fit (y.out _);rintro e w5⟨rfl,rfl⟩))
 all_goals
  have z:=V.box.cell 3;clear y U R;generalize ofN (isI t) a u.n v.n=on at *;generalize ofB a v.n=ob at *;cases ob with
  |true =>
   have k:Hid (∀wx,_):=fun wx=>Q8 wx
   go_wp2_with (first
    |(go_fit (k.out _);rintro e w6⟨rfl,rfl⟩)
    |(go_fit (HK.out _);rintro e w7⟨rfl,rfl⟩)
    |(go_fit (V.put f ⟨zag t,on⟩);rintro e w8⟨rfl,_,sv8,T8⟩))
   go_end0;exact⟨rfl,T8.post⟩
  |false =>
   have k:Hid (∀wx,_):=fun wx=>qV wx
   go_wp2_with (go_fit (k.out _);rintro e w6⟨rfl,rfl⟩)
   exact⟨rfl,rfl,T,V.post⟩
set_option maxRecDepth 512
end Go.Proofs.YtmclocdhcblbiaaGreatDoor
