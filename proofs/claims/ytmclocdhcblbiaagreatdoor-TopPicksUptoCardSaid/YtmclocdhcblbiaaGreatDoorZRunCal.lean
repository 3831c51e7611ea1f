/- Lemmas; conditions: as each states. -/
import Derived.Test.YtmclocdhcblbiaaGreatDoorZRunMore
set_option maxHeartbeats 4000000
namespace Go.Proofs.YtmclocdhcblbiaaGreatDoor
open Go.RowKit Tryz
theorem qev(n:Int):bits .and .i64 n 31=n % 32:=by
 have A:(BitVec.ofInt 64 31).toNat=2 ^ 5-1:=by decide
 have B:(BitVec.ofInt 64 n&&&BitVec.ofInt 64 31).toNat=(n % ((2 ^ 64:Nat):Int)).toNat % 2 ^ 5:=by
  rw[BitVec.toNat_and,BitVec.toNat_ofInt,A,Nat.and_two_pow_sub_one_eq_mod]
 show IntKind.i64.wrap ((BitVec.ofInt 64 n&&&BitVec.ofInt 64 31).toNat:Nat)=n % 32
 rw[B,IntKind.wrap_i64];omega
theorem Qev(n:Int):bits .and .i64 n 63=n % 64:=by
 have A:(BitVec.ofInt 64 63).toNat=2 ^ 6-1:=by decide
 have B:(BitVec.ofInt 64 n&&&BitVec.ofInt 64 63).toNat=(n % ((2 ^ 64:Nat):Int)).toNat % 2 ^ 6:=by
  rw[BitVec.toNat_and,BitVec.toNat_ofInt,A,Nat.and_two_pow_sub_one_eq_mod]
 show IntKind.i64.wrap ((BitVec.ofInt 64 n&&&BitVec.ofInt 64 63).toNat:Nat)=n % 64
 rw[B,IntKind.wrap_i64];omega
theorem zaT(A a b:Int)(w:World):
 Calls prog 179 #[.int .i64 A,.int .i64 a,.int .i64 b] w fun e w'=>e=.returned (.tuple #[.int .i64 (zcC A a b),.bool (zdd A b)])/\w=w':=by
 have C:wrap64 0=0:=by unfold wrap64;omega
 by_cases B:b=0
 ·subst B;go_enter func179,ntmps179;go_wp2
  all_goals
   go_ret2;simp_all [zcC,zdd]
 ·have D:(b==0)=false:=by simpa using B
  go_enter func179,ntmps179;go_wp2
  all_goals
   go_ret2;simp_all [zcC,zdd]
theorem za5(A a d:Int)(w:World):
 Calls prog 180 #[.int .i64 A,.int .i64 a,.int .i64 d,.int .i64 32] w fun e w'=>e=.returned (.int .i64 (zb6 A a d true))/\w=w':=by
 have B:=qev d;have C:0<=d % 32:=by omega
 have D:d % 32<=31:=by omega
 go_enter func180,ntmps180;go_wp2
 all_goals
  go_ret;simp_all [zb6]
theorem Za5(A a d:Int)(w:World):
 Calls prog 180 #[.int .i64 A,.int .i64 a,.int .i64 d,.int .i64 64] w fun e w'=>e=.returned (.int .i64 (zb6 A a d false))/\w=w':=by
 have B:=Qev d;have C:0<=d % 64:=by omega
 have D:d % 64<=63:=by omega
 go_enter func180,ntmps180;go_wp2
 all_goals
  go_ret;simp_all [zb6]
theorem ZaH(a:Int)(w:World):
 Calls prog 50 #[.int .i64 a] w fun e w'=>e=.returned (.int .i64 (wrap32 a))/\w=w':=by
 have h:=wrap32_wf a;have A:wrap64 (wrap32 a)=wrap32 a:=by unfold wrap64 wrap32;omega
 go_enter func50,ntmps50;go_wp2
 go_ret;exact⟨by simp[A],rfl⟩
theorem Qfw(A a b:Int)(w:World):
 Calls prog 149 #[.string ⟨#[73]⟩,.int .i64 A,.int .i64 a,.int .i64 b] w fun e w'=>e=.returned (.tuple #[.int .i64 (ofN true A a b),.bool (ofB A b)])/\w=w':=by
 by_cases C:9<=A
 ·by_cases D:A<=11
  ·go_enter func149,ntmps149;go_wp2_with (first|(go_at_call 179;refine(zaT _ _ _ _).mono ?_;rintro e w'⟨rfl,rfl⟩)|(go_at_call 180;refine(za5 _ _ _ _).mono ?_;rintro e w'⟨rfl,rfl⟩)|(go_at_call 50;refine(ZaH _ _).mono ?_;rintro e w'⟨rfl,rfl⟩))
   go_ret2;simp[ofN,ofB,C,D]
  ·go_enter func149,ntmps149;go_wp2_with (first|(go_at_call 179;refine(zaT _ _ _ _).mono ?_;rintro e w'⟨rfl,rfl⟩)|(go_at_call 180;refine(za5 _ _ _ _).mono ?_;rintro e w'⟨rfl,rfl⟩)|(go_at_call 50;refine(ZaH _ _).mono ?_;rintro e w'⟨rfl,rfl⟩))
   go_ret2;have B:¬A<=11:=(by omega);simp[ofN,ofB,B]
 ·go_enter func149,ntmps149;go_wp2_with (first|(go_at_call 179;refine(zaT _ _ _ _).mono ?_;rintro e w'⟨rfl,rfl⟩)|(go_at_call 180;refine(za5 _ _ _ _).mono ?_;rintro e w'⟨rfl,rfl⟩)|(go_at_call 50;refine(ZaH _ _).mono ?_;rintro e w'⟨rfl,rfl⟩))
  go_ret2;have B:¬9<=A:=by omega
  simp[ofN,ofB,B]
theorem zfx(A a b:Int)(w:World):
 Calls prog 149 #[.string ⟨#[74]⟩,.int .i64 A,.int .i64 a,.int .i64 b] w fun e w'=>e=.returned (.tuple #[.int .i64 (ofN false A a b),.bool (ofB A b)])/\w=w':=by
 by_cases C:9<=A
 ·by_cases D:A<=11
  ·go_enter func149,ntmps149;go_wp2_with (first|(go_at_call 179;refine(zaT _ _ _ _).mono ?_;rintro e w'⟨rfl,rfl⟩)|(go_at_call 180;refine(Za5 _ _ _ _).mono ?_;rintro e w'⟨rfl,rfl⟩)|(go_at_call 50;refine(ZaH _ _).mono ?_;rintro e w'⟨rfl,rfl⟩))
   go_ret2;simp[ofN,ofB,C,D]
  ·go_enter func149,ntmps149;go_wp2_with (first|(go_at_call 179;refine(zaT _ _ _ _).mono ?_;rintro e w'⟨rfl,rfl⟩)|(go_at_call 180;refine(Za5 _ _ _ _).mono ?_;rintro e w'⟨rfl,rfl⟩)|(go_at_call 50;refine(ZaH _ _).mono ?_;rintro e w'⟨rfl,rfl⟩))
   go_ret2;have B:¬A<=11:=(by omega);simp[ofN,ofB,B]
 ·go_enter func149,ntmps149;go_wp2_with (first|(go_at_call 179;refine(zaT _ _ _ _).mono ?_;rintro e w'⟨rfl,rfl⟩)|(go_at_call 180;refine(Za5 _ _ _ _).mono ?_;rintro e w'⟨rfl,rfl⟩)|(go_at_call 50;refine(ZaH _ _).mono ?_;rintro e w'⟨rfl,rfl⟩))
  go_ret2;have B:¬9<=A:=by omega
  simp[ofN,ofB,B]
open Go.RowKit Go.Shelf Go.Lib Tryz
def Qaf:PanicEntry:={ v:=.iface 142 (.agg #[]),recovered:=false }
theorem Qaa(w:World):Calls prog 87 #[.bool true] w fun e w'=>e=.returned (.tuple #[])/\w=w':=by
 go_enter func87,ntmps87;go_wp2_with fail;go_end0;exact⟨rfl,rfl⟩
theorem ZY(w:World):Calls prog 87 #[.bool false] w fun e w'=>e=.panicked [Qaf]/\w=w':=by
 go_enter func87,ntmps87;go_wp2_with fail;exact⟨rfl,rfl,rfl⟩
set_option maxRecDepth 100000
theorem qdz(base:Nat)(w:World)(cb:Nat)(cv hv lv sv:Value)(c:Cal)(h:ZE base w cb cv hv lv sv c)(T:List Val)(v:Val)(G:c.S=T++[v]):
 Calls prog 86 #[.pointer (some ⟨cb,0,none⟩)] w fun e w'=>e=.returned (zbT v)/\Chg (Qaq cb lv sv) w w'/\∃sv',ZE base w' cb cv hv lv sv' { c with S:=T }/\sv'.ownBlock=sv.ownBlock:=by
 have C:=Xh h;have A:=h.stack;have B:c.S.length=T.length+1:=by rw[G];simp
 rw[B,G,List.flatMap_append]at A;obtain⟨g,cap,rfl,L,H,F⟩:∃g cap,sv=.slice (some ⟨g,0,none⟩) (T.length+1) cap/\base<=g/\T.length+1<=cap/\cap<=maxLen:=by
  rcases A.2 with⟨_,a⟩|⟨g,cap,M,N,O,_,P,R,_⟩
  ·omega
  ·exact⟨g,cap,N,O,P,R⟩
 have U:w.cell? ⟨cb,11,none⟩=some (.slice (some ⟨g,0,none⟩) (T.length+1) cap):=h.blk.cell 11;have V:=h.blk.frozen 11;have D:(T.flatMap Zt).length=T.length*2:=QS ZaJ T;have X:w.cell? ⟨g,T.length*2,none⟩=some (.int .i64 v.kind):=by
  rw[World.ownsRow.cellAt A (T.length*2) (by omega),List.getElem?_append_right (by omega),D,Nat.sub_self];rfl
 have Y:w.cell? ⟨g,T.length*2+1,none⟩=some (.int .i64 v.n):=by
  rw[World.ownsRow.cellAt A (T.length*2+1) (by omega),List.getElem?_append_right (by omega),D,show T.length*2+1-T.length*2=1 by omega];rfl
 have Z:wrap64 (T.length:Int)=(T.length:Int):=by
  unfold maxLen at F;unfold wrap64;omega
 have I:=h.blk.lt;have J:=(A.lt g rfl).2;have E:=Xh (Go.ownsRow_pop D A);clear h A G B;go_enter func86,ntmps86;go_wp2_with fail;refine bodyPost_ret (v:=zbT v) (by simp[results,results86,go_sem,zbT, *]) rfl ⟨rfl,((Chg.refl _ w).set (fun _=>Or.inl rfl) _).alloc _ |>.alloc _,_,(C.out.stacked C.out.blk C.out.locals E.out (Or.inl rfl)).step ?_,rfl⟩;exact(Xb.alloc Xl _).alloc (by simp) _
theorem zeb(v:Val):∀u∈Zt v,u.oneCell'=true:=by
 intro u A;simp[Zt]at A;rcases A with rfl|rfl<;>rfl
theorem Qdz(base:Nat)(w:World)(cb:Nat)(cv hv lv sv:Value)(c:Cal)(h:ZE base w cb cv hv lv sv c)(hn:c.S.length<=4194304)(v:Val):
 Calls prog 120 #[.pointer (some ⟨cb,0,none⟩),zbT v] w fun e w'=>e=.returned (.tuple #[])/\Z4 base w cb cv hv lv sv { c with S:=c.S++[v] } w':=by
 obtain⟨i0,hi,m,o,p⟩:=info_parts ZbU;obtain⟨V,X,rfl⟩:=Ze h.stack;have D:=(Below.refl w.heap.size w).alloc Xl (.cells #[.int .i64 v.kind,.int .i64 v.n] 43);have L:=h.step D;have Y:=h.size;have t:=h.blk.lt;obtain⟨B,C⟩:∃B,B=w.alloc (.cells #[.int .i64 v.kind,.int .i64 v.n] 43):=⟨_,rfl⟩;have E:Blk B w.heap.size 43 [.int .i64 v.kind,.int .i64 v.n]:=by rw[C];exact Blk.new w _ _
 have x:B.cell? ⟨w.heap.size,0,none⟩=some (.int .i64 v.kind):=E.cell 0;have y:B.cell? ⟨w.heap.size,1,none⟩=some (.int .i64 v.n):=E.cell 1;rw[<-C]at L D;have M:B.heap.size=w.heap.size+1:=by rw[C];simp
 have N:=(Below.refl B.heap.size B).drew;have G:=N.alloc N.size (.cells #[.int .i64 v.kind,.int .i64 v.n] 43);have Z:=L.step G;have O:=Z.stack;have P:c.S.length+1<=maxLen:=by unfold maxLen;omega
 have R:(c.S.length+1)*16<=140737488355328:=by omega
 have I:base<=(B.drew.alloc (.cells #[.int .i64 v.kind,.int .i64 v.n] 43)).heap.size:=by simp;omega
 have q4:B.cell? ⟨cb,11,none⟩=some (.slice V c.S.length X):=L.blk.cell 11;have q:=L.blk.lt;have a:=Xh C;have d:=Xh M;have H:=Xh h;have r:=Xh Z;have z:=Xh D;have T:=Xh (E.step G);have f:=Xh G;have i:Hid (∀b,b=cb\/b=w.heap.size->some b≠(Value.slice V c.S.length X).ownBlock):=fun b U e=>by
  rcases U with rfl|rfl
  ·exact h.sfar e.symm
  ·have:=(h.stack.lt _ e.symm).2;omega
 unfold zbT;clear h L Z D M Y C E;go_enter func120,ntmps120;go_upto_region 1 with fail;rw[<-a.out];go_region_law (first|(refine step_append_lies _ (by rfl) _ _ 51 (by rfl) base 43 i0 (.agg #[.int .i64 0,.int .i64 0]) 2 16 underlying51 hi m o p rfl (by decide) _ c.S.length _ (by rfl) O ⟨B.heap.size,0,none⟩ 1 1 (Zt v) (by rfl) rfl (qbU B.drew _ _ 43) (zeb v) (by decide) P R I (B.heap.size+1) (by simp) ?_;intro g cap s J A F hlt;(have j:=r.out.blk.grown A (fun e=>i.out cb (Or.inl rfl) e.symm));(have e0:s.cell? ⟨cb,11,none⟩=some (.slice V c.S.length X):=j.cell 11);(have f8:=j.frozen 11);(have e1:=A.cell (T.out.cell 0) (i.out _ (Or.inr rfl)));(have e2:=A.cell (T.out.cell 1) (i.out _ (Or.inr rfl)))))
 all_goals
  go_end0;have l:Chg (Qaq cb lv (.slice V c.S.length X)) w s:=((Chg.of z.out).on f.out).grown A (fun k hk _=>Or.inr (Or.inr hk));refine⟨rfl,Z4.mk (l.set (fun _=>Or.inl rfl) _) (H.out.stacked j (r.out.locals.kept A ?_) (by rw[List.length_append,List.flatMap_append,List.flatMap_singleton];exact J) ?_) ?_⟩
  ·cases hl:lv.ownBlock with
   |none=>exact Or.inl rfl
   |some b=>exact Or.inr (fun e=>H.out.apart b hl e.symm)
  all_goals
   rcases F with F|F
   ·exact Or.inl F.symm
   ·refine Or.inr fun b U=>?_
    have U:g=b:=(by injection U);have:=d.out;omega
theorem Zbz(t:Str)(w:World):Calls prog 121 #[.string t] w fun e w'=>e=.returned (.int .i64 (Zab t))/\w=w':=by
 obtain⟨b,A⟩:∃b,(t.toList==[73])=b:=⟨_,rfl⟩;unfold Zab;rw[A];cases b;all_goals
  go_enter func121,ntmps121;go_wp2_with fail;go_ret;exact⟨rfl,rfl⟩
theorem zdA(t:Str)(w:World):Calls prog 121 #[.string t] w fun e w'=>e=.returned (.int .i64 (Zab t))/\w'=w:=(Zbz t w).mono fun _ _ ⟨a,b⟩=>⟨a,b.symm⟩
theorem zew(A n:Int)(w:World):Calls prog 123 #[.int .i64 A,.int .i64 n] w fun e w'=>e=.returned (.bool (QbE A n))/\w=w':=by
 have H:∀r,QbE A n=r->Calls prog 123 #[.int .i64 A,.int .i64 n] w fun e w'=>e=.returned (.bool r)/\w=w':=fun r B=>by
  unfold QbE at B;split at B
  ·rename_i C;subst C B;go_enter func123,ntmps123;go_wp2_with fail;go_ret;exact⟨by first|rfl|simp|(simp;rfl),rfl⟩
  ·rename_i C;have I:(A==0)=false:=(by simpa using C);split at B
   ·rename_i D;subst D B;go_enter func123,ntmps123;go_wp2_with fail;go_ret;exact⟨by first|rfl|simp|(simp;rfl),rfl⟩
   ·rename_i D;have J:(A==1)=false:=(by simpa using D);split at B
    ·rename_i E;subst E B;go_enter func123,ntmps123;go_wp2_with fail;go_ret;exact⟨by first|rfl|simp|(simp;rfl),rfl⟩
    ·rename_i E;have L:(A==2)=false:=(by simpa using E);split at B
     ·rename_i F;subst F B;go_enter func123,ntmps123;go_wp2_with fail;go_ret;exact⟨by first|rfl|simp|(simp;rfl),rfl⟩
     ·rename_i F;have M:(A==3)=false:=(by simpa using F);split at B
      ·rename_i G;subst G B;go_enter func123,ntmps123;go_wp2_with fail;go_ret;exact⟨by first|rfl|simp|(simp;rfl),rfl⟩
      ·rename_i G;have N:(A==4)=false:=(by simpa using G);clear C D E F G;subst B;go_enter func123,ntmps123;go_wp2_with fail;go_ret;exact⟨by first|rfl|simp|(simp;rfl),rfl⟩
 exact H _ rfl
theorem Zeb(t:Str)(B:QX (lst t)=true)(A a b:Int)(w:World):Calls prog 149 #[.string t,.int .i64 A,.int .i64 a,.int .i64 b] w fun e w'=>e=.returned (.tuple #[.int .i64 (ofN (isI t) A a b),.bool (ofB A b)])/\w=w':=by
 unfold QX at B;rw[Bool.or_eq_true,beq_iff_eq,beq_iff_eq]at B;unfold isI;rw[ByteArray.toList_eq];rcases B with B|B
 ·obtain rfl:t=⟨#[73]⟩:=ByteArray.ext (Array.ext' B);exact Qfw A a b w
 ·obtain rfl:t=⟨#[74]⟩:=ByteArray.ext (Array.ext' B);exact zfx A a b w
structure CW (base:Nat) (w:World) (cb:Nat) (cv hv lv sv:Value) (xb:Nat) (xv:List Value) (wx:World) (sv':Value) (c:Cal):Prop where
 chg:Chg (Qaq cb lv sv) w wx
 cal:ZE base wx cb cv hv lv sv' c
 new:sv'.ownBlock=sv.ownBlock\/∀g,sv'.ownBlock=some g->w.heap.size<=g
 box:Blk wx xb 34 xv
 far:¬Qaq cb lv sv' xb
section
variable {base:Nat} {w:World} {cb:Nat} {cv hv lv sv:Value} {xb:Nat} {xv:List Value} {wx:World} {sv':Value} {c:Cal}
theorem CW.start(h:ZE base w cb cv hv lv sv c)(xv:List Value):CW base w cb cv hv lv sv w.heap.size xv (w.alloc (.cells xv.toArray 34)) sv c :=
 ⟨(Chg.refl _ w).alloc _,h.step (Xb.alloc Xl _),Or.inl rfl,Blk.new w _ xv,fun A=>by have:=(h.in A).2;omega⟩
theorem CW.step(T:CW base w cb cv hv lv sv xb xv wx sv' c){B:World}(A:Below wx.heap.size wx B):CW base w cb cv hv lv sv xb xv B sv' c :=
 ⟨T.chg.on A,T.cal.step A,T.new,T.box.step A,T.far⟩
theorem CW.alloc(T:CW base w cb cv hv lv sv xb xv wx sv' c)(o:Obj):CW base w cb cv hv lv sv xb xv (wx.alloc o) sv' c:=T.step (Xb.alloc Xl o)
theorem CW.drew(T:CW base w cb cv hv lv sv xb xv wx sv' c):CW base w cb cv hv lv sv xb xv wx.drew sv' c:=T.step Xb.drew
theorem CW.after(T:CW base w cb cv hv lv sv xb xv wx sv' c){c':Cal}{C:World}(D:Z4 base wx cb cv hv lv sv' c' C):Chg (Qaq cb lv sv') wx C/\∃B,CW base w cb cv hv lv sv xb xv C B c':=by
 have F:=Z4.then T.chg T.new D;obtain⟨E,B,G,A⟩:=D;obtain⟨H,_⟩:=F;refine⟨E,B,H,G,?_,T.box.chg E T.far,?_⟩
 ·rcases A with A|A
  ·rcases T.new with n|n
   ·exact Or.inl (A.trans n)
   ·exact Or.inr fun g e=>n g (A▸e)
  ·exact Or.inr fun g e=>Xf T.chg.size (A g e)
 ·rintro(e|e|e)
  ·exact T.far (Or.inl e)
  ·exact T.far (Or.inr (Or.inl e))
  ·rcases A with A|A
   ·exact T.far (Or.inr (Or.inr (A▸e)))
   ·have:=A _ e;have:=T.box.lt;omega
theorem CW.post(T:CW base w cb cv hv lv sv xb xv wx sv' c):Z4 base w cb cv hv lv sv c wx:=⟨T.chg,sv',T.cal,T.new⟩
theorem CW.pop(T:CW base w cb cv hv lv sv xb xv wx sv' c){S:List Val}{v:Val}(F:c.S=S++[v]):Calls prog 86 #[.pointer (some ⟨cb,0,none⟩)] wx fun e E=>e=.returned (.agg #[.int .i64 v.kind,.int .i64 v.n])/\Chg (Qaq cb lv sv') wx E/\∃A,CW base w cb cv hv lv sv xb xv E A { c with S:=S }/\A.ownBlock=sv'.ownBlock :=
 (qdz base wx cb cv hv lv sv' c T.cal S v F).mono fun _ _ ⟨G,C,A,H,D⟩=>⟨G,C,A,⟨T.chg.trans C (fun i I B=>by
  rcases B with e|e|e
  ·exact Or.inl e
  ·exact Or.inr (Or.inl e)
  ·rcases T.new with n|n
   ·exact Or.inr (Or.inr (n▸e))
   ·have:=n i e;omega),H,by rw[D];exact T.new,T.box.chg C T.far,fun B=>T.far (by unfold Qaq at B ⊢;rwa [D]at B)⟩,D⟩
theorem CW.other(T:CW base w cb cv hv lv sv xb xv wx sv' c){b:Nat}(A:¬Qaq cb lv sv' b)(B:xb≠b)(C:w.heap.size<=b)(j:Nat)(u:Value):CW base w cb cv hv lv sv xb xv (wx.setCell ⟨b,j,none⟩ u) sv' c :=
 ⟨T.chg.set (fun h=>absurd h (Nat.not_lt_of_le C)) u,⟨T.cal.blk.other (fun e=>A (Or.inl e.symm)) j u,Z1 T.cal.locals (fun e=>A (Or.inr (Or.inl e))) j u,Z1 T.cal.stack (fun e=>A (Or.inr (Or.inr e))) j u,T.cal.apart,T.cal.lfar,T.cal.sfar,T.cal.low⟩,T.new,T.box.other B j u,T.far⟩
theorem CW.put(T:CW base w cb cv hv lv sv xb xv wx sv' c)(C:c.S.length<=4194304)(v:Val):Calls prog 120 #[.pointer (some ⟨cb,0,none⟩),.agg #[.int .i64 v.kind,.int .i64 v.n]] wx fun e B=>e=.returned (.tuple #[])/\Chg (Qaq cb lv sv') wx B/\∃A,CW base w cb cv hv lv sv xb xv B A { c with S:=c.S++[v] } :=
 (Qdz base wx cb cv hv lv sv' c T.cal C v).mono fun _ _ ⟨D,E⟩=>⟨D,T.after E⟩
theorem CW.cells{A B C D E F:Value}(T:CW base w cb cv hv lv sv xb [A,B,C,D,E,F] wx sv' c):wx.cell? ⟨xb,0,none⟩=some A/\wx.cell? ⟨xb,1,none⟩=some B/\wx.cell? ⟨xb,2,none⟩=some C/\wx.cell? ⟨xb,3,none⟩=some D/\wx.cell? ⟨xb,4,none⟩=some E/\wx.cell? ⟨xb,5,none⟩=some F:=T.box.cells6
end
theorem QaL(a b:Value)(w:World):(Instr.field 43 (.agg #[a,b]) 1).run prog w=.ok b w:=by kernel_rfl
def Z6(base:Nat)(w:World)(cb:Nat)(cv hv lv sv:Value)(c:Cal)(r:Option (Value×List Val×List Val))(e:Ending)(w':World):Prop:=match r with
 |none=>e=.panicked [Qaf]/\∃S,Z4 base w cb cv hv lv sv { c with S:=S } w'
 |some (v,L,S)=>e=.returned v/\Z4 base w cb cv hv lv sv { c with L:=L,S:=S } w'
theorem Zew(base:Nat)(w:World)(cb:Nat)(cv hv lv sv:Value)(c:Cal)(h:ZE base w cb cv hv lv sv c)(I:c.S.length<=4194304)(B b:Int)(t cls name:Str)(R:QX (lst t)=true)(T:List Val)(v:Val)(J:c.S=T++[v]):
 Calls prog 122 #[.pointer (some ⟨cb,0,none⟩),.agg #[.int .i64 B,.int .i64 12,.int .i64 b,.string t,.string cls,.string name]] w (Z6 base w cb cv hv lv sv c (if ofB 12 0 then some (.tuple #[],c.L,T++[⟨Zab t,ofN (isI t) 12 v.n 0⟩]) else none)):=by
 have G:=CW.start h [.int .i64 B,.int .i64 12,.int .i64 b,.string t,.string cls,.string name];obtain⟨d,f,g,V,i,j⟩:=G.cells;have X:Hid (∀wx,_):=fun wx=>Zbz t wx
 have U:Hid (∀wx,_):=fun wx=>Zeb t R 12 v.n 0 wx
 have Y:Hid (∀wx,_):=fun wx=>Qaa wx
 have M:T.length<=4194304:=by rw[J]at I;simp at I;omega
 rw[if_pos (show ofB 12 0=true by decide)];rw[show ofB 12 0=true by decide]at U;have C:=G.alloc (.cells #[.int .i64 0,.int .i64 0] 43);have A:Blk ((w.alloc (.cells #[.int .i64 B,.int .i64 12,.int .i64 b,.string t,.string cls,.string name] 34)).alloc (.cells #[.int .i64 0,.int .i64 0] 43)) (w.heap.size+1) 43 [.int .i64 0,.int .i64 0]:=by
  have:=Blk.new (w.alloc (.cells #[.int .i64 B,.int .i64 12,.int .i64 b,.string t,.string cls,.string name] 34)) 43 [.int .i64 0,.int .i64 0];simpa using this
 have D:¬Qaq cb lv sv (w.heap.size+1):=fun q=>by
  have:=(G.cal.in q).2;simp at this
 generalize F:(w.alloc (.cells #[.int .i64 B,.int .i64 12,.int .i64 b,.string t,.string cls,.string name] 34)).alloc (.cells #[.int .i64 0,.int .i64 0] 43)=P at C A;have E:=Xh F;have r:P.cell? ⟨w.heap.size,3,none⟩=some (.string t):=C.box.cell 3;have s:P.cell? ⟨w.heap.size,1,none⟩=some (.int .i64 12):=C.box.cell 1;have x:P.cell? ⟨w.heap.size+1,1,none⟩=some (.int .i64 0):=A.cell 1;have N:=Xh A;have Z:=QaL;have a:=Xh J;have O:=Xh C;clear F A J C G h I R;go_enter func122,ntmps122;go_upto_region 4 with fail;rw[E.out];clear E d f g V i j;go_region_held3 (fun w'=>w'.cell? ⟨w.heap.size,3,none⟩=some (.string t)/\w'.cell? ⟨w.heap.size,1,none⟩=some (.int .i64 12)/\w'.cell? ⟨w.heap.size+1,1,none⟩=some (.int .i64 0)) (go_keep)
  (first
   |(go_fit (O.out.drew.pop a.out);rintro e w2⟨rfl,k,l,H,m⟩;(have y:=H.box.cell 3);(have z:=H.box.cell 1);(have jb:=((N.out.step Xb.drew).chg k D).cell 1))
   |(go_fit (U.out _);rintro e w3⟨rfl,rfl⟩))
 all_goals
  have V:=H.box.cell 3;go_wp2_with (first
   |(go_fit (Y.out _);rintro e w4⟨rfl,rfl⟩)
   |(go_fit (X.out _);rintro e w5⟨rfl,rfl⟩)
   |(go_fit (H.put M ⟨Zab t,ofN (isI t) 12 v.n 0⟩);rintro e w6⟨rfl,_,o,p⟩))
  go_end0;exact⟨rfl,p.post⟩
theorem qew(base:Nat)(w:World)(cb:Nat)(cv hv lv sv:Value)(c:Cal)(h:ZE base w cb cv hv lv sv c)(X:c.S.length<=4194304)(H a b:Int)(t cls name:Str)(q:QX (lst t)=true)(r:a≠12)(T:List Val)(u v:Val)(Y:c.S=T++[u]++[v]):
 Calls prog 122 #[.pointer (some ⟨cb,0,none⟩),.agg #[.int .i64 H,.int .i64 a,.int .i64 b,.string t,.string cls,.string name]] w (Z6 base w cb cv hv lv sv c (if ofB a v.n then some (.tuple #[],c.L,T++[⟨Zab t,ofN (isI t) a u.n v.n⟩]) else none)):=by
 have Z:=CW.start h [.int .i64 H,.int .i64 a,.int .i64 b,.string t,.string cls,.string name];obtain⟨i0,i1,i2,y,i4,i5⟩:=Z.cells;have HK:Hid (∀wx,_):=fun wx=>Zbz t wx
 have s:Hid (∀wx,_):=fun wx=>Zeb t q a u.n v.n wx
 have d:T.length<=4194304:=by rw[Y]at X;simp at X;omega
 have f:(a==12)=false:=by simpa using r
 have g:=Z.alloc (.cells #[.int .i64 0,.int .i64 0] 43);have C:Blk ((w.alloc (.cells #[.int .i64 H,.int .i64 a,.int .i64 b,.string t,.string cls,.string name] 34)).alloc (.cells #[.int .i64 0,.int .i64 0] 43)) (w.heap.size+1) 43 [.int .i64 0,.int .i64 0]:=by
  have:=Blk.new (w.alloc (.cells #[.int .i64 H,.int .i64 a,.int .i64 b,.string t,.string cls,.string name] 34)) 43 [.int .i64 0,.int .i64 0];simpa using this
 have I:∀x,Qaq cb lv sv x->x<w.heap.size:=fun x G=>(h.in G).2
 generalize F:(w.alloc (.cells #[.int .i64 H,.int .i64 a,.int .i64 b,.string t,.string cls,.string name] 34)).alloc (.cells #[.int .i64 0,.int .i64 0] 43)=w1 at g C;have J:=Xh F;have M:=Xh C;have hfd:=QaL;have HS:=Xh Y;have N:=Xh g;have i:Hid (w1.heap.size=w.heap.size+1+1):=by rw[<-F];simp[Hid]
 have D:=Xh I;clear F C Y g Z h X q r I;go_enter func122,ntmps122;go_upto_region 3 with fail;rw[J.out];clear J i0 i1 i2 y i4 i5;go_upto_region 4 with(go_fit (N.out.pop HS.out);rintro e k⟨rfl,V,l,z,m⟩;(have A:=M.out.chg V (fun G=>by have:=D.out _ G;omega));(have l0:k.cell? ⟨w.heap.size+1,0,none⟩=some (.int .i64 0):=A.cell 0);(have l1:k.cell? ⟨w.heap.size+1,1,none⟩=some (.int .i64 0):=A.cell 1);(have f0:=A.frozen 0);(have f1:=A.frozen 1))
 have E:¬Qaq cb lv l (w.heap.size+1):=fun G=>by
  have:=D.out (w.heap.size+1) (by unfold Qaq at G ⊢;rwa [m]at G);omega
 have O:=(z.other E (by omega) (by omega) 0 (.int .i64 v.kind)).other E (by omega) (by omega) 1 (.int .i64 v.n);have B:=A.put2 (.int .i64 v.kind) (.int .i64 v.n);generalize p:(k.setCell ⟨w.heap.size+1,0,none⟩ (.int .i64 v.kind)).setCell ⟨w.heap.size+1,1,none⟩ (.int .i64 v.n)=o at O B;have P:=Xh B;have R:=Xh O;have k3:o.cell? ⟨w.heap.size,3,none⟩=some (.string t):=O.box.cell 3;have k1:o.cell? ⟨w.heap.size,1,none⟩=some (.int .i64 a):=O.box.cell 1;have kb:o.cell? ⟨w.heap.size+1,1,none⟩=some (.int .i64 v.n):=B.cell 1;clear p B O z A l0 l1 f0 f1 V N M i D f;go_region_held3 (fun w'=>w'.cell? ⟨w.heap.size,3,none⟩=some (.string t)/\w'.cell? ⟨w.heap.size,1,none⟩=some (.int .i64 a)/\w'.cell? ⟨w.heap.size+1,1,none⟩=some (.int .i64 v.n)) (go_keep)
  (first
   |(go_fit (R.out.drew.pop rfl);rintro e w4⟨rfl,V,sv4,U,_⟩;(have j3:=U.box.cell 3);(have j1:=U.box.cell 1);(have jb:=((P.out.step Xb.drew).chg V E).cell 1))
   |(go_fit (s.out _);rintro e w5⟨rfl,rfl⟩))
 all_goals
  have y:=U.box.cell 3;clear s R P;generalize ofN (isI t) a u.n v.n=on at *;generalize ofB a v.n=ob at *;cases ob with
  |true =>
   have j:Hid (∀wx,_):=fun wx=>Qaa wx
   go_wp2_with (first
    |(go_fit (j.out _);rintro e w6⟨rfl,rfl⟩)
    |(go_fit (HK.out _);rintro e w7⟨rfl,rfl⟩)
    |(go_fit (U.put d ⟨Zab t,on⟩);rintro e w8⟨rfl,_,sv8,T8⟩))
   go_end0;exact⟨rfl,T8.post⟩
  |false =>
   have j:Hid (∀wx,_):=fun wx=>ZY wx
   go_wp2_with (go_fit (j.out _);rintro e w6⟨rfl,rfl⟩)
   exact⟨rfl,rfl,T,U.post⟩
