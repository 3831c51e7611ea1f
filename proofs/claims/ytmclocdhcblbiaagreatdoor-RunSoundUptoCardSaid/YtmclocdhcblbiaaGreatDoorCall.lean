/- Lemmas; conditions: as each states. -/
import Derived.Test.YtmclocdhcblbiaaGreatDoorPlainly
set_option maxHeartbeats 4000000
namespace Go.Proofs.YtmclocdhcblbiaaGreatDoor
open Go.RowKit Go.Shelf Go.Lib
structure Z3 where
 name:Str
 type:Str
 cls:Str
 deriving DecidableEq
def zan(c:Str):List Z3->zg->List Z3
 |[],m=>[⟨m.name,m.type,c⟩]
 |s::r,m=>if s.name=m.name/\s.type=m.type then ⟨m.name,m.type,c⟩::r else s::zan c r m
def Qau(c:Str)(out:List Z3)(m:zg):List Z3:=if m.static||m.priv then out else zan c out m
def zT(c:Str)(out:List Z3)(l:List zg):List Z3:=l.foldl (Qau c) out
def Qba(cs:List qa)(out:List Z3)(line:List Str):List Z3:=line.foldl (fun o c=>zT c o (Ze cs c).methods) out
def ZaX(cs:List qa)(c:Str):List Z3:=Qba cs [] (Zl cs c).reverse
structure Zar (c:Str) (a b:List Z3):Prop where
 len:a.length<=b.length
 same:∀i (h1:i<a.length) (h2:i<b.length),b[i].name=a[i].name/\b[i].type=a[i].type/\(b[i].cls=a[i].cls\/b[i].cls=c)
 new:∀i (h:i<b.length),a.length<=i->b[i].cls=c
theorem Zar.refl(c:Str)(a:List Z3):Zar c a a:=⟨Xl,fun _ _ _=>⟨rfl,rfl,Or.inl rfl⟩,fun i A B=>by omega⟩
theorem Zar.trans{c:Str}{x y z:List Z3}(h:Zar c x y)(g:Zar c y z):Zar c x z:=by
 refine⟨Xf h.len g.len,fun i D E=>?_,fun i D E=>?_⟩
 ·have B:i<y.length:=by have:=h.len;omega
  obtain⟨F,G,C⟩:=h.same i D B;obtain⟨H,I,A⟩:=g.same i B E;refine⟨H.trans F,I.trans G,?_⟩;rcases A with A|A
  ·rcases C with C|C
   ·exact Or.inl (A.trans C)
   ·exact Or.inr (A.trans C)
  ·exact Or.inr A
 ·by_cases B:i<y.length
  ·obtain⟨_,_,A⟩:=g.same i B D;rcases A with A|A
   ·rw[A];exact h.new i B E
   ·exact A
  ·exact g.new i D (by omega)
theorem Qbh(c:Str)(m:zg):∀l:List Z3,Zar c l (zan c l m)
 |[]=>⟨by simp,fun i A=>by simp at A,fun i A _=>by
  simp[zan]at A;subst A;rfl⟩
 |s::r=>by
  unfold zan;by_cases h:s.name=m.name/\s.type=m.type
  ·rw[if_pos h];refine⟨by simp,fun i A B=>?_,fun i A B=>by simp only[List.length_cons]at A B;omega⟩;cases i with
   |zero=>exact⟨h.1.symm,h.2.symm,Or.inr rfl⟩
   |succ i=>exact⟨rfl,rfl,Or.inl rfl⟩
  ·rw[if_neg h];have C:=Qbh c m r;refine⟨by simp only[List.length_cons];have:=C.len;omega,fun i A B=>?_,fun i A B=>?_⟩
   ·cases i with
    |zero=>exact⟨rfl,rfl,Or.inl rfl⟩
    |succ i=>exact C.same i (by simpa using A) (by simpa using B)
   ·cases i with
    |zero=>simp at B
    |succ i=>exact C.new i (by simpa using A) (by simpa using B)
theorem zbi(c:Str):∀(l:List zg) (A:List Z3),Zar c A (zT c A l)
 |[],A=>Zar.refl c A
 |m::r,A=>by
  show Zar c A (zT c (Qau c A m) r)
  refine Zar.trans ?_ (zbi c r _);unfold Qau;split
  ·exact Zar.refl c A
  ·exact Qbh c m A
theorem Qci(cs:List qa):∀(l:List Str) (A:List Z3),∀s∈Qba cs A l,s.cls∈l\/∃x∈A,x.cls=s.cls
 |[],A,s,D=>Or.inr ⟨s,D,rfl⟩
 |c::r,A,s,D=>by
  rcases Qci cs r (zT c A (Ze cs c).methods) s D with h|⟨x,F,B⟩
  ·exact Or.inl (by simp[h])
  ·obtain⟨i,E,rfl⟩:=List.getElem_of_mem F;have e:=zbi c (Ze cs c).methods A;by_cases C:i<A.length
   ·rcases(e.same i C E).2.2 with h|h
    ·exact Or.inr ⟨A[i],by simp,by rw[<-B,h]⟩
    ·exact Or.inl (by rw[<-B,h];simp)
   ·exact Or.inl (by rw[<-B,e.new i E (by omega)];simp)
theorem zcj(cs:List qa)(c:Str):∀s∈ZaX cs c,s.cls∈Zl cs c:=fun s A=>by
 rcases Qci cs _ _ s A with h|⟨x,B,_⟩
 ·exact List.mem_reverse.1 h
 ·cases B
def QaP(m:zg)(s:Z3):Bool:=decide (s.name=m.name)&&decide (s.type=m.type)
def qar(m:zg):List Z3->Option Nat
 |[]=>none
 |s::r=>if QaP m s then some 0 else (qar m r).map (· + 1)
theorem QbL{m:zg}{c:Str}:∀{l:List Z3},qar m l=none->zan c l m=l++[⟨m.name,m.type,c⟩]
 |[],_=>rfl
 |s::r,h=>by
  unfold qar at h;cases A:QaP m s with
  |true=>rw[A,if_pos rfl]at h;cases h
  |false =>
   rw[A,if_neg (by decide)]at h;have B:qar m r=none:=by cases D:qar m r with
    |none=>rfl
    |some _=>rw[D]at h;cases h
   unfold zan;have C:¬(s.name=m.name/\s.type=m.type):=by
    rintro⟨E,F⟩;unfold QaP at A;rw[Xj E,Xj F]at A;cases A
   rw[if_neg C,QbL B];rfl
theorem zbM{m:zg}{c:Str}:∀{l:List Z3} {k:Nat},qar m l=some k->k<l.length/\zan c l m=l.set k ⟨m.name,m.type,c⟩
 |[],_,h=>by cases h
 |s::r,k,h=>by
  unfold qar at h;unfold zan;cases A:QaP m s with
  |true =>
   rw[A,if_pos rfl]at h;injection h with h;subst h
   have B:s.name=m.name/\s.type=m.type:=by
    unfold QaP at A;rw[Bool.and_eq_true]at A;exact⟨Xm A.1,Xm A.2⟩
   rw[if_pos B];exact⟨by simp,rfl⟩
  |false =>
   rw[A,if_neg (by decide)]at h;have B:¬(s.name=m.name/\s.type=m.type):=by
    rintro⟨D,E⟩;unfold QaP at A;rw[Xj D,Xj E]at A;cases A
   rw[if_neg B];cases C:qar m r with
   |none=>rw[C]at h;cases h
   |some j =>
    rw[C]at h;injection h with h;subst h
    obtain⟨D,E⟩:=zbM (c:=c) C;exact⟨by simp;exact D,by rw[E];rfl⟩
theorem Qbj(c:Str)(m:zg):∀l:List Z3,(zan c l m).length<=l.length+1
 |[]=>by simp[zan]
 |s::r=>by
  unfold zan;split
  ·simp
  ·have:=Qbj c m r;simp;omega
theorem Qc1(c:Str)(A:List Z3)(m:zg)(r:List zg):zT c A (m::r)=zT c (Qau c A m) r:=rfl
theorem zc2(c:Str)(A:List Z3)(l:List zg)(k:Nat)(m:zg)(h:l[k]? = some m):zT c A (l.drop k)=zT c (Qau c A m) (l.drop (k+1)):=by
 obtain⟨B,rfl⟩:=List.getElem?_eq_some_iff.1 h;rw[List.drop_eq_getElem_cons B];rfl
theorem Zdh(cs:List qa)(A:List Z3)(l:List Str)(k:Nat)(c:Str)(h:l[k]? = some c):Qba cs A (l.drop k)=Qba cs (zT c A (Ze cs c).methods) (l.drop (k+1)):=by
 obtain⟨B,rfl⟩:=List.getElem?_eq_some_iff.1 h;rw[List.drop_eq_getElem_cons B];rfl
def Qae(cs:List qa)(n t:Str):Option (Str×zg)->List Z3->Option (Str×zg)
 |o,[]=>o
 |o,s::r=>Qae cs n t (if s.name=n/\s.type=t then ZL cs s.cls n t else o) r
theorem qbz(cs:List qa)(n t:Str)(o:Option (Str×zg))(l:List Z3)(k:Nat)(s:Z3)(h:l[k]? = some s):
 Qae cs n t o (l.drop k)=Qae cs n t (if s.name=n/\s.type=t then ZL cs s.cls n t else o) (l.drop (k+1)):=by
 obtain⟨A,rfl⟩:=List.getElem?_eq_some_iff.1 h;rw[List.drop_eq_getElem_cons A];rfl
def qY(cs:List qa)(c n t:Str):Option (Str×zg):=Qae cs n t (ZL cs c n t) (ZaX cs c)
def qai:Option (Str×zg)->Bool
 |some (_,m)=>!m.static&&!m.priv&&!m.abs
 |none=>false
def ZJ(cs:List qa)(src c n t:Str)(static:Bool):Nat :=
 if (Qb cs c).isNone then 3
 else match ZL cs c n t with
  |none=>3
  |some (d,m)=>if (Qb cs src).isNone then 3 else if m.static≠static then 7 else if m.priv&&decide (d≠src) then 9 else 0
theorem Qb8{n:Str}:∀{l:List qH} {f:qH},QY n l=some f->f∈l
 |x::r,f,h=>by
  unfold QY at h;split at h
  ·injection h with h
   subst h;simp
  ·exact List.mem_cons_of_mem _ (Qb8 h)
theorem Qai{cs:List qa}{n:Str}:∀{B:List Str} {x:Str} {f:qH},Q9 cs n B=some (x,f)->f∈(Ze cs x).fields
 |c::r,x,f,h=>by
  unfold Q9 at h;cases A:QY n (Ze cs c).fields with
  |none =>
   rw[A]at h;exact Qai h
  |some g =>
   rw[A]at h;injection h with h
   injection h with C D
   subst C D;exact Qb8 A
theorem QaT{cs:List qa}{c:Str}(h:Qg cs (Qc c)=0):(Qb cs c).isSome=true:=by
 obtain⟨X,B,C⟩:=zR h;rw[QaA]at B;have A:X=.ty (.cl c):=zbb B;subst A;exact C
theorem qh.aside{base:Nat}{w:World}{A B b:Nat}{qb Zb:Str}{C D:Value}{L S:List Str}(h:qh base w A B qb Zb C D L S)(E:Za2 A C D b)(j:Nat)(u:Value):qh base (w.setCell ⟨b,j,none⟩ u) A B qb Zb C D L S :=
 ⟨(Xk w ⟨b,j,none⟩ A u (fun e=>E.1 e.symm)).trans h.blk,ZX h.locals E.2.1 j u,ZX h.stack E.2.2 j u,h.apart,h.lfar,h.sfar,h.low⟩
theorem SA.aside{M w:World}{B:Nat}{l:List qa}{base:Nat}{F:World}{A C:Value}{G:Nat}{qb Zb:Str}{H:Nat}{N:List Value}{wx:World}{I J:Value}{L S:List Str}(T:SA M w B l base F A C G qb Zb H N wx I J L S){b:Nat}(U:F.heap.size<=b)(D:base<=b)(P:b≠H)(R:Za2 G I J b)(j:Nat)(u:Value):SA M w B l base F A C G qb Zb H N (wx.setCell ⟨b,j,none⟩ u) I J L S :=
 ⟨⟨T.env.map0,T.env.le,T.env.below.setCell (p:=⟨b,j,none⟩) (Xf T.env.le D) u⟩,T.step.aside R j u,T.box.other (fun e=>P e.symm) j u,T.apart,T.below.setCell (p:=⟨b,j,none⟩) D u,⟨T.kp.1,fun g O E=>⟨(Xk wx ⟨b,j,none⟩ g u (by show g≠b;omega)).trans (T.kp.2 g O E).1,(T.kp.2 g O E).2⟩⟩⟩
theorem zA{w:World}{a:Addr}{b:Nat}(h:a.block≠b)(u v:Value):((w.setCell ⟨b,0,none⟩ u).setCell ⟨b,1,none⟩ v).cell? a=w.cell? a:=World.cell?_of_block (by rw[Xk _ _ _ _ h,Xk _ _ _ _ h])
def qL(cs:List qa)(c n:Str):Option Str :=
 if Qg cs (Qc c)≠0 then none else match qaH cs c n with
  |none=>none
  |some (_,f)=>if Qg cs f.type=0 then some f.type else none
set_option maxRecDepth 100000
theorem QcN(w0 w:World)(B:Nat)(l:List qa)(base:Nat)(I:World)(hE:Env w0 w B l base I)(P:Nat)(qb Zb:Str)(lv sv:Value)(L S:List Str)(h:qh base I P B qb Zb lv sv L S)(op a b:Int)(U cls A:Str)(hc:cls.size<=1048576):
 Calls Tryz.prog 173 #[.pointer (some ⟨P,0,none⟩),.agg #[.int .i64 op,.int .i64 a,.int .i64 b,.string U,.string cls,.string A]] I (Zf base I P B qb Zb lv sv ((qL (Za l) cls A).map fun t=>(.string t,L,S))):=by
 have T0:SA w0 w B l base I lv sv P qb Zb I.heap.size [.int .i64 op,.int .i64 a,.int .i64 b,.string U,.string cls,.string A] (I.alloc (.cells #[.int .i64 op,.int .i64 a,.int .i64 b,.string U,.string cls,.string A] 34)) lv sv L S:=SA.new hE h _;obtain⟨i0,i1,i2,i3,i4,i5⟩:=T0.cells;have HT:Hid (∀wx,_):=fun wx=>qG wx
 have HF:Hid (∀wx,_):=fun wx=>zx wx
 have HTh:Hid (∀wx,_):=fun wx=>zW cls wx (Xf hc (by decide))
 have hsz:(Qc cls).size<=maxLen:=by rw[Zan];exact Xf (Nat.add_le_add_right hc 2) (by decide)
 have HRg:=Xh hE.map0.faults;obtain⟨res,X⟩:∃r,(qL (Za l) cls A).map (fun t=>((.string t:Value),L,S))=r:=⟨_,rfl⟩;have J:=Xh X;rw[X];clear X;unfold qL at J;clear h hE;by_cases hk:Qg (Za l) (Qc cls)=0
 ·rw[if_neg (by rw[hk];decide)]at J;have HKn:=Xh (QaT hk);go_enter Tryz.func173,Tryz.ntmps173;go_upto_region 2 with(first
   |(go_fit (HTh.out _);rintro e x⟨rfl,rfl⟩)
   |(go_fit (T0.knowsY (Qc cls) hsz hk);rintro e F R;obtain⟨g,rfl,lv1,sv1,hS1,s⟩:=R.ok'))
  obtain rfl:=s.1;have m:=T0.next g hS1 s;obtain⟨i0,i1,i2,i3,i4,i5⟩:=m.cells;have q0:F.cell? ⟨P,0,none⟩=some (.map (some B)):=m.step.blk.cell 0;have E:=Xh m;have N:Hid (∀wx,Below F.heap.size F wx->Calls Tryz.prog 150 #[.map (some B),.string cls,.string A] wx fun e w'=>e=.returned (zbY (qaH (Za l) cls A))/\Below wx.heap.size wx w'/\Below F.heap.size F w'/\w'.cell? ⟨P,0,none⟩=some (.map (some B))/\w'.cell? ⟨I.heap.size,4,none⟩=some (.string cls)/\w'.cell? ⟨I.heap.size,5,none⟩=some (.string A)):=fun wx hb =>
   (zb9 w0 wx B l (E.out.over hb).env.map cls A HKn.out).mono fun e w' ⟨he,hB⟩=>by
    have hb':=Qa hb Xl hB;have T2:=E.out.over hb';obtain⟨_,_,_,_,i,j⟩:=T2.cells;exact⟨he,hB,hb',T2.step.blk.cell 0,i,j⟩
  have O:=m.step.blk.lt;have Z:=m.step.low;have C:=m.box.lt;clear T0 m g hS1 s R;cases hf:qaH (Za l) cls A with
  |none =>
   rw[hf]at J N;unfold zbY at N;go_region_held3 (fun w'=>w'.cell? ⟨P,0,none⟩=some (.map (some B))/\w'.cell? ⟨I.heap.size,4,none⟩=some (.string cls)/\w'.cell? ⟨I.heap.size,5,none⟩=some (.string A)) (first|go_keep|exact⟨(zA (a:=⟨P,0,none⟩) (Nat.ne_of_lt O) _ _).trans k0,(zA (a:=⟨I.heap.size,4,none⟩) (Nat.ne_of_lt C) _ _).trans i,(zA (a:=⟨I.heap.size,5,none⟩) (Nat.ne_of_lt C) _ _).trans j⟩)
    (first
     |(go_fit (N.out _ ?_);(first|exact Xb.drew|exact(Xb.alloc Xl _).drew);rintro e T⟨rfl,z,G,k0,i,j⟩;(first|(have k:Blk T F.heap.size 118 [.string ⟨#[]⟩,.string ⟨#[]⟩]:=Blk.step (w:=(F.alloc (.cells #[.string ⟨#[]⟩,.string ⟨#[]⟩] 118)).drew) (Blk.new F 118 [.string ⟨#[]⟩,.string ⟨#[]⟩]) z;obtain⟨x0,x1⟩:=k.cells2;(have f0:=k.frozen 0);(have f1:=k.frozen 1))|skip)))
   ·have V:=(E.out.over G).alloc (.cells #[.string ⟨#[]⟩,.string ⟨#[]⟩] 118);generalize (T.alloc (.cells #[.string ⟨#[]⟩,.string ⟨#[]⟩] 118))=W at *;have D:=Xh V;clear V k0 i j i0 i1 i2 i3 i4 i5 q0;go_wp2_with (first
     |(go_fit (HF.out _);rintro e x⟨rfl,rfl⟩))
    exact And.intro rfl (D.out.stop Xb J.out.symm)
   ·have V:=((E.out.over G).aside (b:=F.heap.size) (Nat.le_of_lt C) (Xf Z (Nat.le_of_lt O)) (Nat.ne_of_gt C) (E.out.step.fresh Xl) 0 (.string ⟨#[]⟩)).aside (b:=F.heap.size) (Nat.le_of_lt C) (Xf Z (Nat.le_of_lt O)) (Nat.ne_of_gt C) (E.out.step.fresh Xl) 1 (.string ⟨#[]⟩);generalize ((T.setCell ⟨F.heap.size,0,none⟩ (.string ⟨#[]⟩)).setCell ⟨F.heap.size,1,none⟩ (.string ⟨#[]⟩))=W at *;have D:=Xh V;clear V k0 i j i0 i1 i2 i3 i4 i5 q0;go_wp2_with (first
     |(go_fit (HF.out _);rintro e x⟨rfl,rfl⟩))
    exact And.intro rfl (D.out.stop Xb J.out.symm)
  |some p =>
   obtain⟨c,f⟩:=p;have d:f.type.size<=maxLen:=by
    obtain⟨y,hy⟩:=qX (Zah HRg.out c f (Qai hf));exact hy.size
   rw[hf]at J N;unfold zbY at N;dsimp only at J;go_region_held3 (fun w'=>w'.cell? ⟨P,0,none⟩=some (.map (some B))/\w'.cell? ⟨I.heap.size,4,none⟩=some (.string cls)/\w'.cell? ⟨I.heap.size,5,none⟩=some (.string A)) (first|go_keep|exact⟨(zA (a:=⟨P,0,none⟩) (Nat.ne_of_lt O) _ _).trans k0,(zA (a:=⟨I.heap.size,4,none⟩) (Nat.ne_of_lt C) _ _).trans i,(zA (a:=⟨I.heap.size,5,none⟩) (Nat.ne_of_lt C) _ _).trans j⟩)
    (first
     |(go_fit (N.out _ ?_);(first|exact Xb.drew|exact(Xb.alloc Xl _).drew);rintro e T⟨rfl,z,G,k0,i,j⟩;(first|(have k:Blk T F.heap.size 118 [.string ⟨#[]⟩,.string ⟨#[]⟩]:=Blk.step (w:=(F.alloc (.cells #[.string ⟨#[]⟩,.string ⟨#[]⟩] 118)).drew) (Blk.new F 118 [.string ⟨#[]⟩,.string ⟨#[]⟩]) z;obtain⟨x0,x1⟩:=k.cells2;(have f0:=k.frozen 0);(have f1:=k.frozen 1))|skip)))
   ·have V:=(E.out.over G).alloc (.cells #[.string f.name,.string f.type] 118);have n:Blk (T.alloc (.cells #[.string f.name,.string f.type] 118)) T.heap.size 118 [.string f.name,.string f.type]:=Blk.new T 118 [.string f.name,.string f.type];have o:Za2 P lv1 sv1 T.heap.size:=(E.out.over G).step.fresh Xl;generalize (T.alloc (.cells #[.string f.name,.string f.type] 118))=W at *;obtain⟨y0,y1⟩:=n.cells2;have D:=Xh V;have q:=Xh n;clear V n k0 i j i0 i1 i2 i3 i4 i5 q0;by_cases H:Qg (Za l) f.type=0
    ·rw[if_pos H]at J;go_wp2_with (first
      |(go_fit (HT.out _);rintro e x⟨rfl,rfl⟩)
      |(go_fit (D.out.knowsY f.type d H);rintro e w3 R;obtain⟨M,rfl,lv3,sv3,v,Y⟩:=R.ok';(have T3:=D.out.next M v Y);obtain⟨x0,x1⟩:=(Y.blk q.out o).cells2))
     go_ret;exact T3.done J.out.symm
    ·rw[if_neg H]at J;go_wp2_with (first
      |(go_fit (HT.out _);rintro e x⟨rfl,rfl⟩)
      |(go_fit (D.out.knowsN f.type d H);rintro e w3 R;obtain⟨M,rfl⟩:=R.no'))
     exact And.intro rfl (D.out.stop M J.out.symm)
   ·have V:=((E.out.over G).aside (b:=F.heap.size) (Nat.le_of_lt C) (Xf Z (Nat.le_of_lt O)) (Nat.ne_of_gt C) (E.out.step.fresh Xl) 0 (.string f.name)).aside (b:=F.heap.size) (Nat.le_of_lt C) (Xf Z (Nat.le_of_lt O)) (Nat.ne_of_gt C) (E.out.step.fresh Xl) 1 (.string f.type);have n:Blk ((T.setCell ⟨F.heap.size,0,none⟩ (.string f.name)).setCell ⟨F.heap.size,1,none⟩ (.string f.type)) F.heap.size 118 [.string f.name,.string f.type]:=k.put2 _ _;have o:Za2 P lv1 sv1 F.heap.size:=E.out.step.fresh Xl;generalize ((T.setCell ⟨F.heap.size,0,none⟩ (.string f.name)).setCell ⟨F.heap.size,1,none⟩ (.string f.type))=W at *;obtain⟨y0,y1⟩:=n.cells2;have D:=Xh V;have q:=Xh n;clear V n k0 i j i0 i1 i2 i3 i4 i5 q0;by_cases H:Qg (Za l) f.type=0
    ·rw[if_pos H]at J;go_wp2_with (first
      |(go_fit (HT.out _);rintro e x⟨rfl,rfl⟩)
      |(go_fit (D.out.knowsY f.type d H);rintro e w3 R;obtain⟨M,rfl,lv3,sv3,v,Y⟩:=R.ok';(have T3:=D.out.next M v Y);obtain⟨x0,x1⟩:=(Y.blk q.out o).cells2))
     go_ret;exact T3.done J.out.symm
    ·rw[if_neg H]at J;go_wp2_with (first
      |(go_fit (HT.out _);rintro e x⟨rfl,rfl⟩)
      |(go_fit (D.out.knowsN f.type d H);rintro e w3 R;obtain⟨M,rfl⟩:=R.no'))
     exact And.intro rfl (D.out.stop M J.out.symm)
 ·rw[if_pos hk]at J;go_enter Tryz.func173,Tryz.ntmps173;go_wp2_with (first
   |(go_fit (HTh.out _);rintro e x⟨rfl,rfl⟩)
   |(go_fit (T0.knowsN (Qc cls) hsz hk);rintro e F R;obtain⟨g,rfl⟩:=R.no'))
  exact And.intro rfl (T0.stop g J.out.symm)
set_option maxRecDepth 512
def qed(v:Value):Prop:=∃a b c d e n p1 n1 k1 p2 n2 k2,v=.agg #[.string a,.string b,.bool c,.bool d,.bool e,.int .i64 n,.slice p1 n1 k1,.slice p2 n2 k2]
def zcO(w:World)(f:Nat)(e:Ending)(w':World):Prop:=(∃s v,e=.returned (.tuple #[.string s,v,ZB f])/\qed v)/\Below w.heap.size w w'
def Zcj(o:Option (Str×zg))(iss:Bool)(src:Str)(static:Bool):Nat :=
 match o with
 |none=>3
 |some (d,m)=>if (!iss)=true then 3 else if m.static≠static then 7 else if m.priv&&decide (d≠src) then 9 else 0
theorem qdh(d:Str)(m:zg)(B:Bool)(C:Str)(A:Bool):Zcj (some (d,m)) B C A=if B=false then 3 else if (m.static==A)=false then 7 else if (m.priv&&!decide (d=C))=true then 9 else 0:=by
 unfold Zcj;cases B with
 |false=>rfl
 |true =>
  obtain⟨p,F⟩:∃p,m.priv=p:=⟨_,rfl⟩;cases p<;>by_cases D:m.static=A<;>by_cases E:d=C<;>simp[D,E,F]
theorem Zc2(cs:List qa)(B c n t:Str)(A:Bool):ZJ cs B c n t A=if (!(Qb cs c).isSome)=true then 3 else Zcj (ZL cs c n t) (Qb cs B).isSome B A:=by
 unfold ZJ Zcj;cases Qb cs c<;>cases Qb cs B<;>cases ZL cs c n t<;>rfl
set_option maxRecDepth 100000
theorem ZbY(w0 w:World)(B:Nat)(l:List qa)(j:Zi w0 w B l)(C c n t:Str)(A:Bool)(k:c.size<=maxLen)(p:C.size<=maxLen):
 Calls Tryz.prog 24 #[.map (some B),.string C,.string c,.string n,.string t,.bool A] w (zcO w (ZJ (Za l) C c n t A)):=by
 obtain⟨p1,k1,p2,k2,p3,k3,_,_,_,aB⟩:=j.map.look3 j.right.nodup c k;obtain⟨p4,k4,p5,k5,p6,k6,_,_,_,g⟩:=j.map.look3 j.right.nodup C p;have J:Below w.heap.size w (w.alloc (.cells #[.string ⟨#[]⟩,.string ⟨#[]⟩,.bool false,.bool false,.bool false,.int .i64 0,.slice none 0 0,.slice none 0 0] 39)):=Xb.alloc Xl _;have a:=(aB _ J).1;have R:Hid ((Qb (Za l) c).isSome=true->∀wx,Below w.heap.size w wx->_):=fun hk wx hb=>Zbb w0 wx B l (j.step hb) c n t hk
 unfold zbk at R;have L:=Xh g;have D:Blk (w.alloc (.cells #[.string ⟨#[]⟩,.string ⟨#[]⟩,.bool false,.bool false,.bool false,.int .i64 0,.slice none 0 0,.slice none 0 0] 39)) w.heap.size 39 Qw:=Blk.new w _ Qw;have F:=Xh (Zc2 (Za l) C c n t A);unfold zcO;clear j k p aB g;generalize ZJ (Za l) C c n t A=f at *;generalize (Qb (Za l) c).isSome=isc at *;generalize (Qb (Za l) C).isSome=i at *;generalize (Qb (Za l) c).getD qg=dc at *;generalize (Qb (Za l) C).getD qg=ds at *;generalize ZL (Za l) c n t=o at *;obtain⟨n2,s2,f2,b2,d2,m2⟩:=dc;obtain⟨n3,s3,f3,b3,d3,m3⟩:=ds;unfold Qv at a L;dsimp only at a L;have I:=(J.alloc J.size (.cells #[.string n2,.string s2,.slice p1 f2.length k1,.bool b2,.slice p2 d2.length k2,.slice p3 m2.length k3] 31));have E:=D.step (Xb.alloc Xl (.cells #[.string n2,.string s2,.slice p1 f2.length k1,.bool b2,.slice p2 d2.length k2,.slice p3 m2.length k3] 31));cases isc with
 |false =>
  have O:f=3:=F.out;subst O;obtain⟨q0,q1,q2,q3,q4,q5,q6,q7⟩:=D.method;have r:=D.frozen;have s:=Xh J;have y:=D.lt;clear F E D I R L J;go_enter Tryz.func24,Tryz.ntmps24;go_wp2_with fail;exact bodyPost_ret (v:=.tuple #[.string ⟨#[]⟩,.agg Qw.toArray,.iface 52 (.int .i64 3)]) (by simp[results,Tryz.results24,go_sem, *,Qw]) rfl ⟨⟨_,_,rfl,⟨_,_,_,_,_,_,_,_,_,_,_,_,rfl⟩⟩,s.out.alloc s.out.size _⟩
 |true =>
  have S:Hid (∀wx,Below w.heap.size w wx->_):=fun wx hb=>R.out rfl wx hb
  replace F:Hid (f=Zcj o i C A):=F.out;clear R D J;cases o with
  |none =>
   simp only[qa2,Option.map_none,Option.getD_none]at S;have O:f=3:=F.out;subst O;clear F L;go_enter Tryz.func24,Tryz.ntmps24;go_upto_region 6 with(go_fit (S.out _ I);rintro e V⟨⟨v3,rfl,pc,X,Y,Z,rfl,_,_⟩,H⟩)
   have T:=E.step H;obtain⟨q0,q1,q2,q3,q4,q5,q6,q7⟩:=T.method;have r:=T.frozen;have y:=T.lt;have M:=Qa I Xl H;have HE:=Xh ((Q6 M (Nat.le_refl w.heap.size) (.string ⟨#[]⟩) (.string ⟨#[]⟩) (.bool false) (.bool false) (.bool false) (.int .i64 0) (.slice none 0 0) (.slice none 0 0)).alloc (Xf M.size (by simp)) (.cells #[.string qN.name,.string qN.type,.bool qN.static,.bool qN.abs,.bool qN.priv,.int .i64 qN.locals,.slice pc qN.code.length X,.slice Y qN.handlers.length Z] 39));clear T M E I H;go_wp2_with fail;exact bodyPost_ret (v:=.tuple #[.string ⟨#[]⟩,.agg Qw.toArray,.iface 52 (.int .i64 3)]) (by simp[results,Tryz.results24,go_sem, *,Qw]) rfl ⟨⟨_,_,rfl,⟨_,_,_,_,_,_,_,_,_,_,_,_,rfl⟩⟩,HE⟩
  |some x =>
   obtain⟨d,m⟩:=x;simp only[qa2,Option.map_some,Option.getD_some]at S;go_enter Tryz.func24,Tryz.ntmps24;go_upto_region 7 with(go_fit (S.out _ I);rintro e V⟨⟨v3,rfl,pc,X,Y,Z,rfl,_,_⟩,H⟩)
   have M:=Qa I Xl H;have P:=Blk.new V 39 [.string m.name,.string m.type,.bool m.static,.bool m.abs,.bool m.priv,.int .i64 m.locals,.slice pc m.code.length X,.slice Y m.handlers.length Z];have b:=(Below.refl V.heap.size V).alloc Xl (.cells #[.string m.name,.string m.type,.bool m.static,.bool m.abs,.bool m.priv,.int .i64 m.locals,.slice pc m.code.length X,.slice Y m.handlers.length Z] 39);have U:=(E.step H).step b;have N:=Qa M Xl b;have hne:w.heap.size<V.heap.size:=(E.step H).lt;have P:Blk (V.alloc (.cells #[.string m.name,.string m.type,.bool m.static,.bool m.abs,.bool m.priv,.int .i64 m.locals,.slice pc m.code.length X,.slice Y m.handlers.length Z] 39)) V.heap.size 39 [.string m.name,.string m.type,.bool m.static,.bool m.abs,.bool m.priv,.int .i64 m.locals,.slice pc m.code.length X,.slice Y m.handlers.length Z]:=P;clear E I H M b;generalize V.alloc (.cells #[.string m.name,.string m.type,.bool m.static,.bool m.abs,.bool m.priv,.int .i64 m.locals,.slice pc m.code.length X,.slice Y m.handlers.length Z] 39)=w4 at *;generalize V.heap.size=x18 at *;have g:=(L.out w4 N).1;obtain⟨q0,q1,q2,q3,q4,q5,q6,q7⟩:=U.method;have r:=U.frozen;have y:=U.lt;obtain⟨t0,t1,t2,t3,t4,t5,t6,t7⟩:=P.cells8;have hl18:=P.lt;have h:=Xh ((Q6 N (Nat.le_refl w.heap.size) (.string ⟨#[]⟩) (.string ⟨#[]⟩) (.bool false) (.bool false) (.bool false) (.int .i64 0) (.slice none 0 0) (.slice none 0 0)).alloc (Xf N.size (by simp)) (.cells #[.string n3,.string s3,.slice p4 f3.length k4,.bool b3,.slice p5 d3.length k5,.slice p6 m3.length k6] 31));have z:=Xh (((Q6 N (Nat.le_refl w.heap.size) (.string m.name) (.string m.type) (.bool m.static) (.bool m.abs) (.bool m.priv) (.int .i64 m.locals) (.slice pc m.code.length X) (.slice Y m.handlers.length Z)).alloc (Xf N.size (by simp)) (.cells #[.string n3,.string s3,.slice p4 f3.length k4,.bool b3,.slice p5 d3.length k5,.slice p6 m3.length k6] 31)).drew);clear U P N L;have aA:=zaj d C;obtain⟨st,aC⟩:∃q,(m.static==A)=q:=⟨_,rfl⟩;have hs1n:(m.static != A)=!st:=(by rw[<-aC];rfl);obtain⟨ne,hs2⟩:∃q,(d.toList==C.toList)=q:=⟨_,rfl⟩;have G:Hid (f=if i=false then 3 else if st=false then 7 else if (m.priv&&!ne)=true then 9 else 0):=by
    unfold Hid;rw[F.out,qdh,<-aC,<-hs2,aA]
   clear F aA;obtain⟨pv,hpv⟩:∃q,m.priv=q:=⟨_,rfl⟩;rw[hpv]at G t4 z;cases i with
   |false =>
    have O:f=3:=G.out;subst O;go_wp2_with fail;exact bodyPost_ret (v:=.tuple #[.string ⟨#[]⟩,.agg Qw.toArray,.iface 52 (.int .i64 3)]) (by simp[results,Tryz.results24,go_sem, *,Qw]) rfl ⟨⟨_,_,rfl,⟨_,_,_,_,_,_,_,_,_,_,_,_,rfl⟩⟩,h⟩
   |true =>
    cases st with
    |false =>
     have O:f=7:=G.out;subst O;go_wp2_with fail;exact bodyPost_ret (v:=.tuple #[.string ⟨#[]⟩,.agg Qw.toArray,.iface 52 (.int .i64 7)]) (by simp[results,Tryz.results24,go_sem, *,Qw]) rfl ⟨⟨_,_,rfl,⟨_,_,_,_,_,_,_,_,_,_,_,_,rfl⟩⟩,h⟩
    |true =>
     cases pv<;>cases ne
     case true.false =>
      have O:f=9:=G.out;subst O;go_wp2_with fail;exact bodyPost_ret (v:=.tuple #[.string ⟨#[]⟩,.agg Qw.toArray,.iface 52 (.int .i64 9)]) (by simp[results,Tryz.results24,go_sem, *,Qw]) rfl ⟨⟨_,_,rfl,⟨_,_,_,_,_,_,_,_,_,_,_,_,rfl⟩⟩,h⟩
     all_goals
      have O:f=0:=G.out;subst O;go_upto_region 14 with fail;go_region
      all_goals go_wp2
      all_goals exact bodyPost_ret (v:=.tuple #[.string d,.agg #[.string m.name,.string m.type,.bool m.static,.bool m.abs,.bool _,.int .i64 m.locals,.slice pc m.code.length X,.slice Y m.handlers.length Z],.nilIface]) (by simp[results,Tryz.results24,go_sem, *];rfl) rfl ⟨⟨_,_,rfl,⟨_,_,_,_,_,_,_,_,_,_,_,_,rfl⟩⟩,z⟩
set_option maxRecDepth 512
def qbb(w:World)(m:Option (List ByteArray×ByteArray))(e:Ending)(w':World):Prop :=
 Below w.heap.size w w'/\match m with
  |none=>e=.returned (.tuple #[.slice none 0 0,.string .empty,.iface 52 (.int .i64 1)])
  |some (args,g)=>∃v,e=.returned (.tuple #[v,.string g,.nilIface])/\w'.ownsRow w.heap.size 9 1 v args.length (args.map Value.string)
theorem Qc2{w w':World}{m:Option (List ByteArray×ByteArray)}(A:m=none)(B:Below w.heap.size w w'):
 qbb w m (.returned (.tuple #[.slice none 0 0,.string .empty,.iface 52 (.int .i64 1)])) w':=by subst A;exact⟨B,rfl⟩
theorem Qdh{w w':World}{m:Option (List ByteArray×ByteArray)}{args:List ByteArray}{g:ByteArray}{v:Value}(A:m=some (args,g))(B:Below w.heap.size w w')(C:w'.ownsRow w.heap.size 9 1 v args.length (args.map Value.string)):
 qbb w m (.returned (.tuple #[v,.string g,.nilIface])) w':=by subst A;exact⟨B,v,rfl,C⟩
set_option maxRecDepth 100000
theorem Qed(s h:ByteArray)(P:Bool)(w:World)(hs:s.size<=1048576)(Y:h.size<=s.size)(h0:Lib.trimPrefix s.data.toList [40]=h.data.toList)(l:Lib.hasPrefix s.data.toList [40]=P)(r:ByteArray)(acc:List ByteArray)(Z:Bool)(hf:qv h P []=(r,acc,Z))(m:Option (List ByteArray×ByteArray))(hm:Zw (r,acc,Z)=m):
 Calls Tryz.prog 28 #[.string s] w (qbb w m):=by
 have M:=Xh hm;clear hm;have HF:=Xh hf;obtain⟨i0,hi,aA,aB,aC⟩:=info_parts Q3;clear hf;go_enter Tryz.func28,Tryz.ntmps28;go_wp2_with (go_fit (qaX _ _ _);rintro e w'⟨rfl,rfl⟩)
 clear h0 l;go_loopw [5,6,7] (fun x y v wr=>∃(F:ByteArray) (N:Bool) (A:List ByteArray),Hid (qv F N A=(r,acc,Z))/\F.size+A.length<=s.size/\wr.ownsRow w.heap.size 9 1 v A.length (A.map Value.string)/\Below w.heap.size w wr/\x=.string F/\y=.bool N)
  (fun x y _ _=>if qbY y then qcf x+1 else 0)
 case atStart=>exact⟨h,P,[],HF,by simpa using Y,World.ownsRow_nil _ _ _ _,Xb,rfl,rfl⟩
 case round =>
  clear HF;obtain⟨F,N,A,E,d,C,B,rfl,rfl⟩:=hrel;cases N with
  |false =>
   have G:=E.out;unfold qv at G;simp only[Bool.false_eq_true,if_false,Prod.mk.injEq]at G;obtain⟨rfl,rfl,rfl⟩:=G;have J:Hid (m=none):=(by unfold Hid;rw[<-M.out];simp[Zw]);clear E M C;go_wp2_with (go_fit (zL _ _);rintro e w'⟨rfl,rfl⟩)
   go_ret3;exact Qc2 J.out B
  |true =>
   cases z:Lib.hasPrefix F.data.toList [41] with
   |true =>
    have G:=E.out;rw[qcj z]at G;simp only[Prod.mk.injEq]at G;obtain⟨rfl,rfl,rfl⟩:=G;clear E;have H:(Qac F).size<=maxLen:=ZR (by have:=Qcj F;omega);have D:Hid (Zw (F,A,true)=m):=M.out;clear M;obtain⟨va,vc,rfl⟩:=Qd C;generalize hg:Qac F=g at *;by_cases o:A.length<=5
    ·cases hV:(g.toList==[86]) with
     |true =>
      have L:Hid (m=some (A,g)):=(by unfold Hid;rw[<-D.out];exact Zag o hg (by simp[qJ,hV]));have hv:=Xh C;have HG:=Xh H;clear C D H;go_wp2_with (first|(go_fit (qu _ _ _);rintro e w'⟨rfl,rfl⟩)|(go_fit (zL _ _);rintro e w'⟨rfl,rfl⟩))
      go_ret3;exact Qdh L.out B hv.out
     |false =>
      cases X:qo g.data.toList with
      |true =>
       have L:Hid (m=some (A,g)):=(by unfold Hid;rw[<-D.out];exact Zag o hg (by simp[qJ,X]));have p:=Xh (Zaj H X);have HO:=Xh C;clear C D H X;go_wp2_with (first|(go_fit (qu _ _ _);rintro e w'⟨rfl,rfl⟩)|(go_fit (zL _ _);rintro e w'⟨rfl,rfl⟩)|(go_fit (p.out _);rintro e f⟨rfl,I⟩))
       go_ret3;exact Qdh L.out (B.trans (I.mono B.size)) (zP HO.out I)
      |false =>
       have J:Hid (m=none):=(by unfold Hid;rw[<-D.out];exact QaX hg (by simp[qJ,X,hV]));have p:=Xh (zap H X);clear C D H X;go_wp2_with (first|(go_fit (qu _ _ _);rintro e w'⟨rfl,rfl⟩)|(go_fit (zL _ _);rintro e w'⟨rfl,rfl⟩)|(go_fit (p.out _);rintro e f⟨rfl,I⟩))
       go_ret3;exact Qc2 J.out (B.trans (I.mono B.size))
    ·have J:Hid (m=none):=(by unfold Hid;rw[<-D.out];exact zaY o);clear D H C;go_wp2_with (first|(go_fit (qu _ _ _);rintro e w'⟨rfl,rfl⟩)|(go_fit (zL _ _);rintro e w'⟨rfl,rfl⟩))
     go_ret3;exact Qc2 J.out B
   |false =>
    cases T:Qn F.data.toList with
    |zero =>
     have i:=Xh T;have a:Hid (qv F false A=(r,acc,Z)):=(by unfold Hid;rw[<-Qcf z T];exact E.out);clear T E;go_wp2_with (first|(go_fit (qu _ _ _);rintro e w'⟨rfl,rfl⟩)|(go_fit (zc3 (ZR (by omega)) i.out _);rintro e f⟨rfl,I⟩))
     go_roundw;case rel=>exact⟨F,false,A,a,d,zP C I,B.trans (I.mono B.size),rfl,rfl⟩
     case measure=>simp[qbY]
    |succ n =>
     have b:=zaB F.data.toList;rw[qB,T]at b;have i:=Xh T;have a:Hid (qv (F.extract (n+1) F.size) true (A++[F.extract 0 (n+1)])=(r,acc,Z)):=(by unfold Hid;rw[<-zck z T];exact E.out);have c:(F.extract (n+1) F.size).size=F.size-(n+1):=(by simp);have j:=Xh c;clear T E c;generalize hr2:F.extract (n+1) F.size=r2 at a j;generalize hx:F.extract 0 (n+1)=V at a;go_wp2_with (go_fit (qu _ _ _);rintro e w'⟨rfl,rfl⟩)
     (with_reducible refine(ZbM (ZR (by omega)) i.out _).mono ?_)
     rintro e f⟨rfl,I⟩;have ho:=zP C I;have R:Below w.heap.size w (f.alloc (.cells #[.string V] 9)):=(B.trans (I.mono B.size)).alloc (Xf B.size I.size) _;have c2:∀u∈[Value.string V],u.oneCell'=true:=fun u hu=>by simp at hu;subst hu;rfl
     have c3:A.length+1<=maxLen:=ZR (by omega);have c4:(A.length+1)*16<=140737488355328:=(by omega);have c5:=R.size;have q:=Xh R;have HZ:Hid ((r2.size:Nat)+(A++[V]).length<=s.size):=(by unfold Hid;rw[j.out];simp;omega);have HM:Hid (r2.size<F.size):=(by unfold Hid;rw[j.out];omega);clear C I B R b d Y j i;go_wp2_with (at_builtin;refine wpList_append_own _ rfl _ _ 27 rfl w.heap.size 9 i0 (.string .empty) 1 16 Tryz.underlying27 hi aA aB aC rfl (by decide) _ _ _ rfl (ho.alloc _) ⟨f.heap.size,0,none⟩ 1 1 [.string V] rfl rfl (cell_one_new _ _ _) c2 c3 c4 c5 ?_;intro v2 w3 U O _)
     have t:Below w.heap.size w w3:=q.out.grown O c5 (fun k hk=>(ho.lt k hk).1);have S:w3.ownsRow w.heap.size 9 1 v2 (A++[V]).length ((A++[V]).map Value.string):=(by simpa using U);go_roundw;case rel=>exact⟨r2,true,A++[V],a,HZ,S,t,rfl,rfl⟩
     case measure=>have:=HM.out;simp[qbY,qcf];omega
set_option maxRecDepth 512
theorem Zbk(s:ByteArray)(w:World)(B:s.size<=1048576):Calls Tryz.prog 28 #[.string s] w (qbb w (qi s)):=by
 have A:(Lib.trimPrefix s.data.toList [40]).length<=s.data.toList.length:=by unfold Lib.trimPrefix;split<;>simp
 rw[qB]at A;exact Qed s ⟨(Lib.trimPrefix s.data.toList [40]).toArray⟩ (Lib.hasPrefix s.data.toList [40]) w B (by show(Lib.trimPrefix s.data.toList [40]).toArray.size<=s.size;rw[List.size_toArray];exact A) rfl rfl _ _ _ rfl _ rfl
theorem qbM(N:Nat):∀(n:Nat) (r:ByteArray) (acc:List ByteArray),r.size<=N->(∀x∈acc,x.size<=N)->(zav n r acc).1.size<=N/\∀x∈(zav n r acc).2.1,x.size<=N
 |0,r,acc,C,B=>⟨C,B⟩
 |n+1,r,acc,C,B=>by
  unfold zav;split
  ·exact⟨C,B⟩
  ·split
   ·exact⟨C,B⟩
   ·refine qbM N n _ _ ?_ ?_
    ·rw[ByteArray.size_extract];omega
    ·intro x A;rcases List.mem_append.1 A with A|A
     ·exact B x A
     ·simp at A;subst A;rw[ByteArray.size_extract];omega
theorem Z7{s:ByteArray}{args:List ByteArray}{g:ByteArray}(h:qi s=some (args,g)):(∀x∈args,x.size<=s.size)/\g.size<=s.size:=by
 have A:(Lib.trimPrefix s.data.toList [40]).length<=s.data.toList.length:=by unfold Lib.trimPrefix;split<;>simp
 rw[qB]at A;unfold qi Zw at h;have D:(qv ⟨(Lib.trimPrefix s.data.toList [40]).toArray⟩ (Lib.hasPrefix s.data.toList [40]) []).1.size<=s.size/\∀x∈(qv ⟨(Lib.trimPrefix s.data.toList [40]).toArray⟩ (Lib.hasPrefix s.data.toList [40]) []).2.1,x.size<=s.size:=by
  have B:(⟨(Lib.trimPrefix s.data.toList [40]).toArray⟩:ByteArray).size<=s.size:=by show(Lib.trimPrefix s.data.toList [40]).toArray.size<=s.size;rw[List.size_toArray];exact A
  unfold qv;split
  ·exact qbM s.size _ _ _ B (fun x C=>by cases C)
  ·exact⟨B,fun x C=>by cases C⟩
 split at h
 ·injection h with h
  injection h with F G
  subst F G;refine⟨D.2,?_⟩;have E:(Qac (qv ⟨(Lib.trimPrefix s.data.toList [40]).toArray⟩ (Lib.hasPrefix s.data.toList [40]) []).1).size<=(qv ⟨(Lib.trimPrefix s.data.toList [40]).toArray⟩ (Lib.hasPrefix s.data.toList [40]) []).1.size:=by
   generalize (qv ⟨(Lib.trimPrefix s.data.toList [40]).toArray⟩ (Lib.hasPrefix s.data.toList [40]) []).1=r;show(Lib.trimPrefix r.data.toList [41]).toArray.size<=r.size
   rw[List.size_toArray,<-qB r];unfold Lib.trimPrefix;split<;>simp
  exact Xf E D.1
 ·cases h
def ZdG(cs:List qa)(L S:List Str)(g:Str):Option (List Str×List Str):=if Qg cs g=0 then zr L S g else none
def Qa2(cs:List qa)(L S:List Str)(g:Str):Option (List Str×List Str):=if (g.toList==[86])=true then some (L,S) else ZdG cs L S g
def Qbz(cs:List qa)(static:Bool)(cls:Str)(S:List Str):Option (List Str):=if static=true then some S else Qf cs [Qc cls] S
def Zap(cs:List qa)(qb cls name type:Str)(static:Bool)(L S:List Str):Option (List Str×List Str) :=
 if ZJ cs qb cls name type static≠0 then none else match qi type with
  |none=>none
  |some (args,g)=>(Qf cs args.reverse S).bind fun S1=>(Qbz cs static cls S1).bind fun S2=>Qa2 cs L S2 g
theorem Zck{cs:List qa}{L S:List Str}{g:Str}(h:(g.toList==[86])=true):Qa2 cs L S g=some (L,S):=by unfold Qa2;rw[if_pos h]
theorem zcg{cs:List qa}{L S:List Str}{g:Str}(h:(g.toList==[86])=false)(A:Qg cs g≠0):Qa2 cs L S g=none:=by unfold Qa2 ZdG;rw[if_neg (by rw[h];decide),if_neg A]
theorem qbs{cs:List qa}{L S:List Str}{g:Str}(h:(g.toList==[86])=false)(A:Qg cs g=0)(B:QN S g=none):Qa2 cs L S g=none:=by unfold Qa2 ZdG;rw[if_neg (by rw[h];decide),if_pos A];exact Qz B
theorem Qbs{cs:List qa}{L S A:List Str}{g:Str}(h:(g.toList==[86])=false)(B:Qg cs g=0)(C:QN S g=some A):Qa2 cs L S g=some (L,A):=by unfold Qa2 ZdG;rw[if_neg (by rw[h];decide),if_pos B];exact Zy C
theorem qh.grown{base:Nat}{w w':World}{A B:Nat}{qb Zb:Str}{C D v:Value}{L S:List Str}(h:qh base w A B qb Zb C D L S)(E:w.grownBy w' v.ownBlock)(F:∀g,v.ownBlock=some g->Za2 A C D g):qh base w' A B qb Zb C D L S :=
 ⟨h.blk.grown E (fun e=>(F A e).1 rfl),h.locals.kept E (by
  cases G:C.ownBlock with
  |none=>exact Or.inl rfl
  |some g=>exact Or.inr (fun e=>(F g e.symm).2.1 G)),h.stack.kept E (by
  cases G:D.ownBlock with
  |none=>exact Or.inl rfl
  |some g=>exact Or.inr (fun e=>(F g e.symm).2.2 G)),h.apart,h.lfar,h.sfar,h.low⟩
theorem SA.grown{N w:World}{B:Nat}{l:List qa}{base:Nat}{H:World}{C D:Value}{I:Nat}{qb Zb:Str}{E:Nat}{O:List Value}{wx:World}{J M v:Value}{L S:List Str}(T:SA N w B l base H C D I qb Zb E O wx J M L S){w':World}(F:wx.grownBy w' v.ownBlock)(U:base<=wx.heap.size)(G:∀g,v.ownBlock=some g->H.heap.size<=g/\base<=g/\g≠E/\Za2 I J M g):SA N w B l base H C D I qb Zb E O w' J M L S :=
 have P:Below base wx w':=(Below.refl base wx).grown F U (fun g e=>(G g e).2.1);⟨T.env.step P,T.step.grown F (fun g e=>(G g e).2.2.2),T.box.grown F (fun e=>(G E e).2.2.1 rfl),T.apart,T.below.trans P,⟨T.kp.1,fun g A R=>⟨(F.block g (Nat.lt_of_lt_of_le A T.below.size) (fun e=>absurd (G g e.symm).1 (Nat.not_le_of_lt A))).trans (T.kp.2 g A R).1,(T.kp.2 g A R).2⟩⟩⟩
theorem qC{w:World}{a:Addr}{b:Nat}{v0 A B C D E F G:Value}(h:a.block≠b):((((((((w.setCell ⟨b,0,none⟩ v0).setCell ⟨b,1,none⟩ A).setCell ⟨b,2,none⟩ B).setCell ⟨b,3,none⟩ C).setCell ⟨b,4,none⟩ D).setCell ⟨b,5,none⟩ E).setCell ⟨b,6,none⟩ F).setCell ⟨b,7,none⟩ G).cell? a=w.cell? a:=World.cell?_of_block (by rw[Xk _ _ _ _ h,Xk _ _ _ _ h,Xk _ _ _ _ h,Xk _ _ _ _ h,Xk _ _ _ _ h,Xk _ _ _ _ h,Xk _ _ _ _ h,Xk _ _ _ _ h])
set_option maxRecDepth 100000
theorem qe0(w0 w:World)(B:Nat)(l:List qa)(base:Nat)(I:World)(hE:Env w0 w B l base I)(P:Nat)(qb Zb:Str)(y z:Value)(L S:List Str)(h:qh base I P B qb Zb y z L S)(o a b:Int)(C cls D:Str)(E:Bool)(hc:cls.size<=1048576)(hfr:qb.size<=maxLen)(hf:ZJ (Za l) qb cls D C E≠0):
 Calls Tryz.prog 175 #[.pointer (some ⟨P,0,none⟩),.agg #[.int .i64 o,.int .i64 a,.int .i64 b,.string C,.string cls,.string D],.bool E] I (Zf base I P B qb Zb y z (none)):=by
 have R:SA w0 w B l base I y z P qb Zb I.heap.size [.int .i64 o,.int .i64 a,.int .i64 b,.string C,.string cls,.string D] (I.alloc (.cells #[.int .i64 o,.int .i64 a,.int .i64 b,.string C,.string cls,.string D] 34)) y z L S:=SA.new hE h _;obtain⟨i0,i1,i2,i3,i4,i5⟩:=R.cells;have HF:Hid (∀wx,_):=fun wx=>zx wx
 have q0:(I.alloc (.cells #[.int .i64 o,.int .i64 a,.int .i64 b,.string C,.string cls,.string D] 34)).cell? ⟨P,0,none⟩=some (.map (some B)):=R.step.blk.cell 0;have q1:(I.alloc (.cells #[.int .i64 o,.int .i64 a,.int .i64 b,.string C,.string cls,.string D] 34)).cell? ⟨P,1,none⟩=some (.string qb):=R.step.blk.cell 1;obtain⟨H,q⟩:∃H,I.alloc (.cells #[.int .i64 o,.int .i64 a,.int .i64 b,.string C,.string cls,.string D] 34)=H:=⟨_,rfl⟩;rw[q]at R i0 i1 i2 i3 i4 i5 q0 q1;have G:=Xh R;have T:Hid (∀wx,Below H.heap.size H wx->Calls Tryz.prog 24 #[.map (some B),.string qb,.string cls,.string D,.string C,.bool E] wx fun e w'=>(∃s V X Y Z c d f g i M N O,e=.returned (.tuple #[.string s,.agg #[.string V,.string X,.bool Y,.bool Z,.bool c,.int .i64 d,.slice f g i,.slice M N O],ZB (ZJ (Za l) qb cls D C E)]))/\Below wx.heap.size wx w'/\Below H.heap.size H w'/\w'.cell? ⟨P,0,none⟩=some (.map (some B))/\w'.cell? ⟨P,1,none⟩=some (.string qb)/\w'.cell? ⟨I.heap.size,3,none⟩=some (.string C)/\w'.cell? ⟨I.heap.size,4,none⟩=some (.string cls)/\w'.cell? ⟨I.heap.size,5,none⟩=some (.string D)):=fun wx hb =>
  (ZbY w0 wx B l (G.out.over hb).env.map qb cls D C E (Xf hc (by decide)) hfr).mono fun e w' ⟨⟨s,v,he,V,X,Y,Z,c,d,f,g,i,M,N,O,hm⟩,hB⟩=>by
   have p:=Qa hb Xl hB;have T2:=G.out.over p;obtain⟨_,_,_,r,t,x⟩:=T2.cells;subst hm;exact⟨⟨s,V,X,Y,Z,c,d,f,g,i,M,N,O,he⟩,hB,p,T2.step.blk.cell 0,T2.step.blk.cell 1,r,t,x⟩
 have F:=R.step.blk.lt;have J:=R.step.low;have A:=R.box.lt;rcases zS (ZJ (Za l) qb cls D C E) with⟨_,hz⟩|⟨hv,_⟩
 ·exact absurd hz hf
 rw[hv]at T;clear hv;generalize ZJ (Za l) qb cls D C E=n at *;go_enter Tryz.func175,Tryz.ntmps175;go_upto_region 1 with fail;clear R h hE q;go_region_held3 (fun w'=>w'.cell? ⟨P,0,none⟩=some (.map (some B))/\w'.cell? ⟨P,1,none⟩=some (.string qb)/\w'.cell? ⟨I.heap.size,3,none⟩=some (.string C)/\w'.cell? ⟨I.heap.size,4,none⟩=some (.string cls)/\w'.cell? ⟨I.heap.size,5,none⟩=some (.string D)) (first|go_keep|exact⟨(qC (a:=⟨P,0,none⟩) (Nat.ne_of_lt F)).trans k0,(qC (a:=⟨P,1,none⟩) (Nat.ne_of_lt F)).trans k1,(qC (a:=⟨I.heap.size,3,none⟩) (Nat.ne_of_lt A)).trans r,(qC (a:=⟨I.heap.size,4,none⟩) (Nat.ne_of_lt A)).trans t,(qC (a:=⟨I.heap.size,5,none⟩) (Nat.ne_of_lt A)).trans x⟩)
  (first
   |(go_fit (T.out _ ?_);(first|exact Xb.drew|exact(Xb.alloc Xl _).drew);rintro e w2⟨⟨s,V,X,Y,Z,c,d,f,g,i,M,N,O,rfl⟩,hB2,j,k0,k1,r,t,x⟩;(first|(have U:Blk w2 H.heap.size 39 [.string ⟨#[]⟩,.string ⟨#[]⟩,.bool false,.bool false,.bool false,.int .i64 0,.slice none 0 0,.slice none 0 0]:=Blk.step (w:=(H.alloc (.cells #[.string ⟨#[]⟩,.string ⟨#[]⟩,.bool false,.bool false,.bool false,.int .i64 0,.slice none 0 0,.slice none 0 0] 39)).drew) (Blk.new H 39 [.string ⟨#[]⟩,.string ⟨#[]⟩,.bool false,.bool false,.bool false,.int .i64 0,.slice none 0 0,.slice none 0 0]) hB2;obtain⟨x0,x1,x2,x3,x4,x5,x6,x7⟩:=U.cells8;(have f0:=U.frozen 0);(have f1:=U.frozen 1);(have f2:=U.frozen 2);(have f3:=U.frozen 3);(have f4:=U.frozen 4);(have f5:=U.frozen 5);(have f6:=U.frozen 6);(have f7:=U.frozen 7))|skip)))
 ·have k:=(G.out.over j).alloc (.cells #[.string V,.string X,.bool Y,.bool Z,.bool c,.int .i64 d,.slice f g i,.slice M N O] 39);generalize (w2.alloc (.cells #[.string V,.string X,.bool Y,.bool Z,.bool c,.int .i64 d,.slice f g i,.slice M N O] 39))=W at *;have m:=Xh k;obtain⟨i0,i1,i2,i3,i4,i5⟩:=k.cells;clear k k0 k1 r t x G T q0 q1;go_wp2_with (first
   |(go_fit (HF.out _);rintro e wq⟨rfl,rfl⟩))
  exact And.intro rfl (m.out.stop Xb rfl)
 ·have k:=(((((((((G.out.over j).aside (b:=H.heap.size) (Nat.le_of_lt A) (Xf J (Nat.le_of_lt F)) (Nat.ne_of_gt A) (G.out.step.fresh Xl) 0 (.string V)).aside (b:=H.heap.size) (Nat.le_of_lt A) (Xf J (Nat.le_of_lt F)) (Nat.ne_of_gt A) (G.out.step.fresh Xl) 1 (.string X)).aside (b:=H.heap.size) (Nat.le_of_lt A) (Xf J (Nat.le_of_lt F)) (Nat.ne_of_gt A) (G.out.step.fresh Xl) 2 (.bool Y)).aside (b:=H.heap.size) (Nat.le_of_lt A) (Xf J (Nat.le_of_lt F)) (Nat.ne_of_gt A) (G.out.step.fresh Xl) 3 (.bool Z)).aside (b:=H.heap.size) (Nat.le_of_lt A) (Xf J (Nat.le_of_lt F)) (Nat.ne_of_gt A) (G.out.step.fresh Xl) 4 (.bool c)).aside (b:=H.heap.size) (Nat.le_of_lt A) (Xf J (Nat.le_of_lt F)) (Nat.ne_of_gt A) (G.out.step.fresh Xl) 5 (.int .i64 d)).aside (b:=H.heap.size) (Nat.le_of_lt A) (Xf J (Nat.le_of_lt F)) (Nat.ne_of_gt A) (G.out.step.fresh Xl) 6 (.slice f g i)).aside (b:=H.heap.size) (Nat.le_of_lt A) (Xf J (Nat.le_of_lt F)) (Nat.ne_of_gt A) (G.out.step.fresh Xl) 7 (.slice M N O));generalize ((((((((w2.setCell ⟨H.heap.size,0,none⟩ (.string V)).setCell ⟨H.heap.size,1,none⟩ (.string X)).setCell ⟨H.heap.size,2,none⟩ (.bool Y)).setCell ⟨H.heap.size,3,none⟩ (.bool Z)).setCell ⟨H.heap.size,4,none⟩ (.bool c)).setCell ⟨H.heap.size,5,none⟩ (.int .i64 d)).setCell ⟨H.heap.size,6,none⟩ (.slice f g i)).setCell ⟨H.heap.size,7,none⟩ (.slice M N O))=W at *;have m:=Xh k;obtain⟨i0,i1,i2,i3,i4,i5⟩:=k.cells;clear k k0 k1 r t x G T q0 q1;go_wp2_with (first
   |(go_fit (HF.out _);rintro e wq⟨rfl,rfl⟩))
  exact And.intro rfl (m.out.stop Xb rfl)
theorem qff(w0 w:World)(B:Nat)(l:List qa)(base:Nat)(c:World)(hE:Env w0 w B l base c)(sb:Nat)(qb Zb:Str)(lv sv:Value)(L S:List Str)(h:qh base c sb B qb Zb lv sv L S)(j:ql (Za l) S)(op a b:Int)(C cls F:Str)(hc:cls.size<=1048576)(hfr:qb.size<=maxLen)(hty:C.size<=1048576)(hf:ZJ (Za l) qb cls F C true=0):
 Calls Tryz.prog 175 #[.pointer (some ⟨sb,0,none⟩),.agg #[.int .i64 op,.int .i64 a,.int .i64 b,.string C,.string cls,.string F],.bool true] c (Zf base c sb B qb Zb lv sv (Zm (match qi C with|none=>none|some (args,g)=>(Qf (Za l) args.reverse S).bind fun i=>(Qbz (Za l) true cls i).bind fun S2=>Qa2 (Za l) L S2 g))):=by
 have T0:SA w0 w B l base c lv sv sb qb Zb c.heap.size [.int .i64 op,.int .i64 a,.int .i64 b,.string C,.string cls,.string F] (c.alloc (.cells #[.int .i64 op,.int .i64 a,.int .i64 b,.string C,.string cls,.string F] 34)) lv sv L S:=SA.new hE h _;obtain⟨i0,i1,i2,i3,i4,i5⟩:=T0.cells;have HT:Hid (∀wx,_):=fun wx=>qG wx
 have HF:Hid (∀wx,_):=fun wx=>zx wx
 have q0:(c.alloc (.cells #[.int .i64 op,.int .i64 a,.int .i64 b,.string C,.string cls,.string F] 34)).cell? ⟨sb,0,none⟩=some (.map (some B)):=T0.step.blk.cell 0;have q1:(c.alloc (.cells #[.int .i64 op,.int .i64 a,.int .i64 b,.string C,.string cls,.string F] 34)).cell? ⟨sb,1,none⟩=some (.string qb):=T0.step.blk.cell 1;obtain⟨P,hw1⟩:∃P,c.alloc (.cells #[.int .i64 op,.int .i64 a,.int .i64 b,.string C,.string cls,.string F] 34)=P:=⟨_,rfl⟩;rw[hw1]at T0 i0 i1 i2 i3 i4 i5 q0 q1;have I:=Xh T0;have HFO:Hid (∀wx,Below P.heap.size P wx->Calls Tryz.prog 24 #[.map (some B),.string qb,.string cls,.string F,.string C,.bool true] wx fun e w'=>(∃s m1 m2 m3 m4 m5 m6 m7 m8 m9 q t y,e=.returned (.tuple #[.string s,.agg #[.string m1,.string m2,.bool m3,.bool m4,.bool m5,.int .i64 m6,.slice m7 m8 m9,.slice q t y],ZB (ZJ (Za l) qb cls F C true)]))/\Below wx.heap.size wx w'/\Below P.heap.size P w'/\w'.cell? ⟨sb,0,none⟩=some (.map (some B))/\w'.cell? ⟨sb,1,none⟩=some (.string qb)/\w'.cell? ⟨c.heap.size,3,none⟩=some (.string C)/\w'.cell? ⟨c.heap.size,4,none⟩=some (.string cls)/\w'.cell? ⟨c.heap.size,5,none⟩=some (.string F)):=fun wx Y =>
  (ZbY w0 wx B l (I.out.over Y).env.map qb cls F C true (Xf hc (by decide)) hfr).mono fun e w' ⟨⟨s,v,he,m1,m2,m3,m4,m5,m6,m7,m8,m9,q,t,y,hm⟩,m⟩=>by
   have hb':=Qa Y Xl m;have T2:=I.out.over hb';obtain⟨_,_,_,k3,k4,k5⟩:=T2.cells;subst hm;exact⟨⟨s,m1,m2,m3,m4,m5,m6,m7,m8,m9,q,t,y,he⟩,m,hb',T2.step.blk.cell 0,T2.step.blk.cell 1,k3,k4,k5⟩
 have H:=T0.step.blk.lt;have n:=T0.step.low;have A:=T0.box.lt;have HD:Hid (∀wx,_):=fun wx=>Zbk C wx hty
 unfold qbb at HD;obtain⟨res,hres⟩:∃r,Zm (match qi C with|none=>none|some (args,g)=>(Qf (Za l) args.reverse S).bind fun i=>(Qbz (Za l) true cls i).bind fun S2=>Qa2 (Za l) L S2 g)=r:=⟨_,rfl⟩;have X:=Xh hres;rw[hres];clear hres;rw[hf,show ZB 0=.nilIface from rfl]at HFO;clear hf;go_enter Tryz.func175,Tryz.ntmps175;go_upto_region 1 with fail;clear T0 h hE hw1;go_region_held3 (fun w'=>w'.cell? ⟨sb,0,none⟩=some (.map (some B))/\w'.cell? ⟨sb,1,none⟩=some (.string qb)/\w'.cell? ⟨c.heap.size,3,none⟩=some (.string C)/\w'.cell? ⟨c.heap.size,4,none⟩=some (.string cls)/\w'.cell? ⟨c.heap.size,5,none⟩=some (.string F)) (first|go_keep|exact⟨(qC (a:=⟨sb,0,none⟩) (Nat.ne_of_lt H)).trans k0,(qC (a:=⟨sb,1,none⟩) (Nat.ne_of_lt H)).trans k1,(qC (a:=⟨c.heap.size,3,none⟩) (Nat.ne_of_lt A)).trans k3,(qC (a:=⟨c.heap.size,4,none⟩) (Nat.ne_of_lt A)).trans k4,(qC (a:=⟨c.heap.size,5,none⟩) (Nat.ne_of_lt A)).trans k5⟩)
  (first
   |(go_fit (HFO.out _ ?_);(first|exact Xb.drew|exact(Xb.alloc Xl _).drew);rintro e w2⟨⟨s,m1,m2,m3,m4,m5,m6,m7,m8,m9,q,t,y,rfl⟩,hB2,hB12,k0,k1,k3,k4,k5⟩;(first|(have KB:Blk w2 P.heap.size 39 [.string ⟨#[]⟩,.string ⟨#[]⟩,.bool false,.bool false,.bool false,.int .i64 0,.slice none 0 0,.slice none 0 0]:=Blk.step (w:=(P.alloc (.cells #[.string ⟨#[]⟩,.string ⟨#[]⟩,.bool false,.bool false,.bool false,.int .i64 0,.slice none 0 0,.slice none 0 0] 39)).drew) (Blk.new P 39 [.string ⟨#[]⟩,.string ⟨#[]⟩,.bool false,.bool false,.bool false,.int .i64 0,.slice none 0 0,.slice none 0 0]) hB2;obtain⟨x0,x1,x2,x3,x4,x5,x6,x7⟩:=KB.cells8;(have f0:=KB.frozen 0);(have f1:=KB.frozen 1);(have f2:=KB.frozen 2);(have f3:=KB.frozen 3);(have f4:=KB.frozen 4);(have f5:=KB.frozen 5);(have f6:=KB.frozen 6);(have f7:=KB.frozen 7))|skip)))
 ·have Tw:=(I.out.over hB12).alloc (.cells #[.string m1,.string m2,.bool m3,.bool m4,.bool m5,.int .i64 m6,.slice m7 m8 m9,.slice q t y] 39);generalize (w2.alloc (.cells #[.string m1,.string m2,.bool m3,.bool m4,.bool m5,.int .i64 m6,.slice m7 m8 m9,.slice q t y] 39))=W at *;have D:=Xh Tw;obtain⟨i0,i1,i2,i3,i4,i5⟩:=Tw.cells;clear Tw k0 k1 k3 k4 k5 I HFO q0 q1;go_upto_region 3 with(first
   |(go_fit (HT.out _);rintro e wq⟨rfl,rfl⟩))
  cases hm:qi C with
  |none =>
   rw[hm]at X HD;have hre:=X.out;go_wp2_with (first
    |(go_fit (HD.out _);rintro e w3⟨d,rfl⟩)
    |(go_fit (HF.out _);rintro e wq⟨rfl,rfl⟩))
   exact And.intro rfl (D.out.stop (D.out.step.over d) hre.symm)
  |some p =>
   obtain⟨args,g⟩:=p;rw[hm]at X HD;obtain⟨hsa,o⟩:=Z7 hm;have hl5:=Qat hm;have hgs:g.size<=maxLen:=Xf o (Xf hty (by decide));have J:∀k∈args.reverse,k.size<=maxLen:=fun k hk=>Xf (hsa k (List.mem_reverse.1 hk)) (Xf hty (by decide))
   have M:args.reverse.length<=4194304:=(by rw[List.length_reverse];omega);have hl6:args.length<=9223372036854775807:=(by omega);dsimp only at X;go_upto_region 5 with(first
    |(go_fit (HD.out _);rintro e w3⟨d,v,rfl,f⟩;obtain⟨vp,vc,rfl⟩:=Qd f)
    |(go_fit (HT.out _);rintro e wq⟨rfl,rfl⟩))
   have T3:=D.out.over d;have G:∀b,(Value.slice vp args.length vc).ownBlock=some b->W.heap.size<=b/\b<w3.heap.size:=fun b Y=>f.lt b Y
   go_upto_region 6 with(first
    |(go_fit (Qbb f rfl hl6);rintro e w4⟨rfl,hO4,hg4⟩))
   have N:=T3.grown hg4 T3.step.size (fun b Y=>⟨Xf D.out.below.size (G b Y).1,Xf D.out.step.size (G b Y).1,Nat.ne_of_gt (Nat.lt_of_lt_of_le D.out.box.lt (G b Y).1),D.out.step.fresh (G b Y).1⟩);have O:QaE w4 (.slice vp args.length vc) args.reverse sb lv sv:=⟨Qi (l:=args.reverse) (by rw[List.length_reverse];exact hO4),fun b Y=>⟨(hO4.lt b Y).2,D.out.step.fresh (G b Y).1⟩⟩;obtain⟨i0,i1,i2,i3,i4,i5⟩:=N.cells;clear T3 D d f hg4 HD hsa o hl5 hl6 hm;cases hV:(g.toList==[86]) with
   |true =>
    go_wp2_with (first
     |(go_at_call 169;rcases hq0:Qf (Za l) args.reverse S with _|i;(with_reducible refine(N.takeAN j args.reverse _ O J M hq0).mono ?_);(rintro e w5 E;obtain⟨m,rfl⟩:=E.no';exact And.intro rfl (N.stop m (X.out.symm.trans (Zd (Zq hq0)))));(with_reducible refine(N.takeAY j args.reverse _ O J M hq0).mono ?_);rintro e w5 E;obtain⟨T,rfl,lv5,sv5,U,V⟩:=E.ok';(have Z:=N.next T U V);(have hN5:=Qh hq0 j);obtain⟨i0,i1,i2,i3,i4,i5⟩:=Z.cells))
    go_end0;exact Z.done (X.out.symm.trans (qj ((Qe hq0).trans ((Qe (x:=i) rfl).trans (Zck hV)))))
   |false =>
    by_cases R:Qg (Za l) g=0
    ·go_wp2_with (first
      |(go_at_call 169;rcases hq0:Qf (Za l) args.reverse S with _|i;(with_reducible refine(N.takeAN j args.reverse _ O J M hq0).mono ?_);(rintro e w5 E;obtain⟨m,rfl⟩:=E.no';exact And.intro rfl (N.stop m (X.out.symm.trans (Zd (Zq hq0)))));(with_reducible refine(N.takeAY j args.reverse _ O J M hq0).mono ?_);rintro e w5 E;obtain⟨T,rfl,lv5,sv5,U,V⟩:=E.ok';(have Z:=N.next T U V);(have hN5:=Qh hq0 j);obtain⟨i0,i1,i2,i3,i4,i5⟩:=Z.cells)
      |(go_fit (Z.knowsY g hgs R);rintro e w7 E;obtain⟨z,rfl,lv7,sv7,hS7,hk7⟩:=E.ok';(have T7:=Z.next z hS7 hk7))
      |(go_at_call 166;rcases hq2:QN i g with _|S3;(with_reducible refine(T7.putN g hq2).mono ?_);(rintro e w8 E;obtain⟨m,rfl⟩:=E.no';exact And.intro rfl (T7.stop m (X.out.symm.trans (Zd ((Qe hq0).trans ((Qe (x:=i) rfl).trans (qbs hV R hq2)))))));(with_reducible refine(T7.putY g hq2).mono ?_);rintro e w8 E;obtain⟨hB8,rfl,lv8,sv8,hS8,hk8⟩:=E.ok';(have T8:=T7.next hB8 hS8 hk8)))
     go_end0;exact T8.done (X.out.symm.trans (qj ((Qe hq0).trans ((Qe (x:=i) rfl).trans (Qbs hV R hq2)))))
    ·go_wp2_with (first
      |(go_at_call 169;rcases hq0:Qf (Za l) args.reverse S with _|i;(with_reducible refine(N.takeAN j args.reverse _ O J M hq0).mono ?_);(rintro e w5 E;obtain⟨m,rfl⟩:=E.no';exact And.intro rfl (N.stop m (X.out.symm.trans (Zd (Zq hq0)))));(with_reducible refine(N.takeAY j args.reverse _ O J M hq0).mono ?_);rintro e w5 E;obtain⟨T,rfl,lv5,sv5,U,V⟩:=E.ok';(have Z:=N.next T U V);(have hN5:=Qh hq0 j);obtain⟨i0,i1,i2,i3,i4,i5⟩:=Z.cells)
      |(go_fit (Z.knowsN g hgs R);rintro e w7 E;obtain⟨z,rfl⟩:=E.no'))
     exact And.intro rfl (Z.stop z (X.out.symm.trans (Zd ((Qe hq0).trans ((Qe (x:=i) rfl).trans (zcg hV R))))))
 ·have Tw:=(((((((((I.out.over hB12).aside (b:=P.heap.size) (Nat.le_of_lt A) (Xf n (Nat.le_of_lt H)) (Nat.ne_of_gt A) (I.out.step.fresh Xl) 0 (.string m1)).aside (b:=P.heap.size) (Nat.le_of_lt A) (Xf n (Nat.le_of_lt H)) (Nat.ne_of_gt A) (I.out.step.fresh Xl) 1 (.string m2)).aside (b:=P.heap.size) (Nat.le_of_lt A) (Xf n (Nat.le_of_lt H)) (Nat.ne_of_gt A) (I.out.step.fresh Xl) 2 (.bool m3)).aside (b:=P.heap.size) (Nat.le_of_lt A) (Xf n (Nat.le_of_lt H)) (Nat.ne_of_gt A) (I.out.step.fresh Xl) 3 (.bool m4)).aside (b:=P.heap.size) (Nat.le_of_lt A) (Xf n (Nat.le_of_lt H)) (Nat.ne_of_gt A) (I.out.step.fresh Xl) 4 (.bool m5)).aside (b:=P.heap.size) (Nat.le_of_lt A) (Xf n (Nat.le_of_lt H)) (Nat.ne_of_gt A) (I.out.step.fresh Xl) 5 (.int .i64 m6)).aside (b:=P.heap.size) (Nat.le_of_lt A) (Xf n (Nat.le_of_lt H)) (Nat.ne_of_gt A) (I.out.step.fresh Xl) 6 (.slice m7 m8 m9)).aside (b:=P.heap.size) (Nat.le_of_lt A) (Xf n (Nat.le_of_lt H)) (Nat.ne_of_gt A) (I.out.step.fresh Xl) 7 (.slice q t y));generalize ((((((((w2.setCell ⟨P.heap.size,0,none⟩ (.string m1)).setCell ⟨P.heap.size,1,none⟩ (.string m2)).setCell ⟨P.heap.size,2,none⟩ (.bool m3)).setCell ⟨P.heap.size,3,none⟩ (.bool m4)).setCell ⟨P.heap.size,4,none⟩ (.bool m5)).setCell ⟨P.heap.size,5,none⟩ (.int .i64 m6)).setCell ⟨P.heap.size,6,none⟩ (.slice m7 m8 m9)).setCell ⟨P.heap.size,7,none⟩ (.slice q t y))=W at *;have D:=Xh Tw;obtain⟨i0,i1,i2,i3,i4,i5⟩:=Tw.cells;clear Tw k0 k1 k3 k4 k5 I HFO q0 q1;go_upto_region 3 with(first
   |(go_fit (HT.out _);rintro e wq⟨rfl,rfl⟩))
  cases hm:qi C with
  |none =>
   rw[hm]at X HD;have hre:=X.out;go_wp2_with (first
    |(go_fit (HD.out _);rintro e w3⟨d,rfl⟩)
    |(go_fit (HF.out _);rintro e wq⟨rfl,rfl⟩))
   exact And.intro rfl (D.out.stop (D.out.step.over d) hre.symm)
  |some p =>
   obtain⟨args,g⟩:=p;rw[hm]at X HD;obtain⟨hsa,o⟩:=Z7 hm;have hl5:=Qat hm;have hgs:g.size<=maxLen:=Xf o (Xf hty (by decide));have J:∀k∈args.reverse,k.size<=maxLen:=fun k hk=>Xf (hsa k (List.mem_reverse.1 hk)) (Xf hty (by decide))
   have M:args.reverse.length<=4194304:=(by rw[List.length_reverse];omega);have hl6:args.length<=9223372036854775807:=(by omega);dsimp only at X;go_upto_region 5 with(first
    |(go_fit (HD.out _);rintro e w3⟨d,v,rfl,f⟩;obtain⟨vp,vc,rfl⟩:=Qd f)
    |(go_fit (HT.out _);rintro e wq⟨rfl,rfl⟩))
   have T3:=D.out.over d;have G:∀b,(Value.slice vp args.length vc).ownBlock=some b->W.heap.size<=b/\b<w3.heap.size:=fun b Y=>f.lt b Y
   go_upto_region 6 with(first
    |(go_fit (Qbb f rfl hl6);rintro e w4⟨rfl,hO4,hg4⟩))
   have N:=T3.grown hg4 T3.step.size (fun b Y=>⟨Xf D.out.below.size (G b Y).1,Xf D.out.step.size (G b Y).1,Nat.ne_of_gt (Nat.lt_of_lt_of_le D.out.box.lt (G b Y).1),D.out.step.fresh (G b Y).1⟩);have O:QaE w4 (.slice vp args.length vc) args.reverse sb lv sv:=⟨Qi (l:=args.reverse) (by rw[List.length_reverse];exact hO4),fun b Y=>⟨(hO4.lt b Y).2,D.out.step.fresh (G b Y).1⟩⟩;obtain⟨i0,i1,i2,i3,i4,i5⟩:=N.cells;clear T3 D d f hg4 HD hsa o hl5 hl6 hm;cases hV:(g.toList==[86]) with
   |true =>
    go_wp2_with (first
     |(go_at_call 169;rcases hq0:Qf (Za l) args.reverse S with _|i;(with_reducible refine(N.takeAN j args.reverse _ O J M hq0).mono ?_);(rintro e w5 E;obtain⟨m,rfl⟩:=E.no';exact And.intro rfl (N.stop m (X.out.symm.trans (Zd (Zq hq0)))));(with_reducible refine(N.takeAY j args.reverse _ O J M hq0).mono ?_);rintro e w5 E;obtain⟨T,rfl,lv5,sv5,U,V⟩:=E.ok';(have Z:=N.next T U V);(have hN5:=Qh hq0 j);obtain⟨i0,i1,i2,i3,i4,i5⟩:=Z.cells))
    go_end0;exact Z.done (X.out.symm.trans (qj ((Qe hq0).trans ((Qe (x:=i) rfl).trans (Zck hV)))))
   |false =>
    by_cases R:Qg (Za l) g=0
    ·go_wp2_with (first
      |(go_at_call 169;rcases hq0:Qf (Za l) args.reverse S with _|i;(with_reducible refine(N.takeAN j args.reverse _ O J M hq0).mono ?_);(rintro e w5 E;obtain⟨m,rfl⟩:=E.no';exact And.intro rfl (N.stop m (X.out.symm.trans (Zd (Zq hq0)))));(with_reducible refine(N.takeAY j args.reverse _ O J M hq0).mono ?_);rintro e w5 E;obtain⟨T,rfl,lv5,sv5,U,V⟩:=E.ok';(have Z:=N.next T U V);(have hN5:=Qh hq0 j);obtain⟨i0,i1,i2,i3,i4,i5⟩:=Z.cells)
      |(go_fit (Z.knowsY g hgs R);rintro e w7 E;obtain⟨z,rfl,lv7,sv7,hS7,hk7⟩:=E.ok';(have T7:=Z.next z hS7 hk7))
      |(go_at_call 166;rcases hq2:QN i g with _|S3;(with_reducible refine(T7.putN g hq2).mono ?_);(rintro e w8 E;obtain⟨m,rfl⟩:=E.no';exact And.intro rfl (T7.stop m (X.out.symm.trans (Zd ((Qe hq0).trans ((Qe (x:=i) rfl).trans (qbs hV R hq2)))))));(with_reducible refine(T7.putY g hq2).mono ?_);rintro e w8 E;obtain⟨hB8,rfl,lv8,sv8,hS8,hk8⟩:=E.ok';(have T8:=T7.next hB8 hS8 hk8)))
     go_end0;exact T8.done (X.out.symm.trans (qj ((Qe hq0).trans ((Qe (x:=i) rfl).trans (Qbs hV R hq2)))))
    ·go_wp2_with (first
      |(go_at_call 169;rcases hq0:Qf (Za l) args.reverse S with _|i;(with_reducible refine(N.takeAN j args.reverse _ O J M hq0).mono ?_);(rintro e w5 E;obtain⟨m,rfl⟩:=E.no';exact And.intro rfl (N.stop m (X.out.symm.trans (Zd (Zq hq0)))));(with_reducible refine(N.takeAY j args.reverse _ O J M hq0).mono ?_);rintro e w5 E;obtain⟨T,rfl,lv5,sv5,U,V⟩:=E.ok';(have Z:=N.next T U V);(have hN5:=Qh hq0 j);obtain⟨i0,i1,i2,i3,i4,i5⟩:=Z.cells)
      |(go_fit (Z.knowsN g hgs R);rintro e w7 E;obtain⟨z,rfl⟩:=E.no'))
     exact And.intro rfl (Z.stop z (X.out.symm.trans (Zd ((Qe hq0).trans ((Qe (x:=i) rfl).trans (zcg hV R))))))
theorem Qff(w0 w:World)(B:Nat)(l:List qa)(base:Nat)(o:World)(hE:Env w0 w B l base o)(sb:Nat)(qb Zb:Str)(lv sv:Value)(L S:List Str)(h:qh base o sb B qb Zb lv sv L S)(x:ql (Za l) S)(op a b:Int)(D cls F:Str)(hc:cls.size<=1048576)(hfr:qb.size<=maxLen)(hty:D.size<=1048576)(hf:ZJ (Za l) qb cls F D false=0):
 Calls Tryz.prog 175 #[.pointer (some ⟨sb,0,none⟩),.agg #[.int .i64 op,.int .i64 a,.int .i64 b,.string D,.string cls,.string F],.bool false] o (Zf base o sb B qb Zb lv sv (Zm (match qi D with|none=>none|some (args,g)=>(Qf (Za l) args.reverse S).bind fun S1=>(Qbz (Za l) false cls S1).bind fun S2=>Qa2 (Za l) L S2 g))):=by
 have T0:SA w0 w B l base o lv sv sb qb Zb o.heap.size [.int .i64 op,.int .i64 a,.int .i64 b,.string D,.string cls,.string F] (o.alloc (.cells #[.int .i64 op,.int .i64 a,.int .i64 b,.string D,.string cls,.string F] 34)) lv sv L S:=SA.new hE h _;obtain⟨i0,i1,i2,i3,i4,i5⟩:=T0.cells;have HT:Hid (∀wx,_):=fun wx=>qG wx
 have HF:Hid (∀wx,_):=fun wx=>zx wx
 have q0:(o.alloc (.cells #[.int .i64 op,.int .i64 a,.int .i64 b,.string D,.string cls,.string F] 34)).cell? ⟨sb,0,none⟩=some (.map (some B)):=T0.step.blk.cell 0;have q1:(o.alloc (.cells #[.int .i64 op,.int .i64 a,.int .i64 b,.string D,.string cls,.string F] 34)).cell? ⟨sb,1,none⟩=some (.string qb):=T0.step.blk.cell 1;obtain⟨Y,hw1⟩:∃Y,o.alloc (.cells #[.int .i64 op,.int .i64 a,.int .i64 b,.string D,.string cls,.string F] 34)=Y:=⟨_,rfl⟩;rw[hw1]at T0 i0 i1 i2 i3 i4 i5 q0 q1;have N:=Xh T0;have HFO:Hid (∀wx,Below Y.heap.size Y wx->Calls Tryz.prog 24 #[.map (some B),.string qb,.string cls,.string F,.string D,.bool false] wx fun e w'=>(∃s m1 m2 m3 m4 m5 m6 m7 m8 m9 aA aB aC,e=.returned (.tuple #[.string s,.agg #[.string m1,.string m2,.bool m3,.bool m4,.bool m5,.int .i64 m6,.slice m7 m8 m9,.slice aA aB aC],ZB (ZJ (Za l) qb cls F D false)]))/\Below wx.heap.size wx w'/\Below Y.heap.size Y w'/\w'.cell? ⟨sb,0,none⟩=some (.map (some B))/\w'.cell? ⟨sb,1,none⟩=some (.string qb)/\w'.cell? ⟨o.heap.size,3,none⟩=some (.string D)/\w'.cell? ⟨o.heap.size,4,none⟩=some (.string cls)/\w'.cell? ⟨o.heap.size,5,none⟩=some (.string F)):=fun wx n =>
  (ZbY w0 wx B l (N.out.over n).env.map qb cls F D false (Xf hc (by decide)) hfr).mono fun e w' ⟨⟨s,v,he,m1,m2,m3,m4,m5,m6,m7,m8,m9,aA,aB,aC,hm⟩,M⟩=>by
   have hb':=Qa n Xl M;have T2:=N.out.over hb';obtain⟨_,_,_,k3,k4,k5⟩:=T2.cells;subst hm;exact⟨⟨s,m1,m2,m3,m4,m5,m6,m7,m8,m9,aA,aB,aC,he⟩,M,hb',T2.step.blk.cell 0,T2.step.blk.cell 1,k3,k4,k5⟩
 have J:=T0.step.blk.lt;have y:=T0.step.low;have C:=T0.box.lt;have HD:Hid (∀wx,_):=fun wx=>Zbk D wx hty
 unfold qbb at HD;have HTh:Hid (∀wx,_):=fun wx=>zW cls wx (Xf hc (by decide))
 have X:(Qc cls).size<=maxLen:=by rw[Zan];exact Xf (Nat.add_le_add_right hc 2) (by decide)
 obtain⟨res,hres⟩:∃r,Zm (match qi D with|none=>none|some (args,g)=>(Qf (Za l) args.reverse S).bind fun S1=>(Qbz (Za l) false cls S1).bind fun S2=>Qa2 (Za l) L S2 g)=r:=⟨_,rfl⟩;have P:=Xh hres;rw[hres];clear hres;rw[hf,show ZB 0=.nilIface from rfl]at HFO;clear hf;go_enter Tryz.func175,Tryz.ntmps175;go_upto_region 1 with fail;clear T0 h hE hw1;go_region_held3 (fun w'=>w'.cell? ⟨sb,0,none⟩=some (.map (some B))/\w'.cell? ⟨sb,1,none⟩=some (.string qb)/\w'.cell? ⟨o.heap.size,3,none⟩=some (.string D)/\w'.cell? ⟨o.heap.size,4,none⟩=some (.string cls)/\w'.cell? ⟨o.heap.size,5,none⟩=some (.string F)) (first|go_keep|exact⟨(qC (a:=⟨sb,0,none⟩) (Nat.ne_of_lt J)).trans k0,(qC (a:=⟨sb,1,none⟩) (Nat.ne_of_lt J)).trans k1,(qC (a:=⟨o.heap.size,3,none⟩) (Nat.ne_of_lt C)).trans k3,(qC (a:=⟨o.heap.size,4,none⟩) (Nat.ne_of_lt C)).trans k4,(qC (a:=⟨o.heap.size,5,none⟩) (Nat.ne_of_lt C)).trans k5⟩)
  (first
   |(go_fit (HFO.out _ ?_);(first|exact Xb.drew|exact(Xb.alloc Xl _).drew);rintro e w2⟨⟨s,m1,m2,m3,m4,m5,m6,m7,m8,m9,aA,aB,aC,rfl⟩,hB2,hB12,k0,k1,k3,k4,k5⟩;(first|(have KB:Blk w2 Y.heap.size 39 [.string ⟨#[]⟩,.string ⟨#[]⟩,.bool false,.bool false,.bool false,.int .i64 0,.slice none 0 0,.slice none 0 0]:=Blk.step (w:=(Y.alloc (.cells #[.string ⟨#[]⟩,.string ⟨#[]⟩,.bool false,.bool false,.bool false,.int .i64 0,.slice none 0 0,.slice none 0 0] 39)).drew) (Blk.new Y 39 [.string ⟨#[]⟩,.string ⟨#[]⟩,.bool false,.bool false,.bool false,.int .i64 0,.slice none 0 0,.slice none 0 0]) hB2;obtain⟨x0,x1,x2,x3,x4,x5,x6,x7⟩:=KB.cells8;(have f0:=KB.frozen 0);(have f1:=KB.frozen 1);(have f2:=KB.frozen 2);(have f3:=KB.frozen 3);(have f4:=KB.frozen 4);(have f5:=KB.frozen 5);(have f6:=KB.frozen 6);(have f7:=KB.frozen 7))|skip)))
 ·have Tw:=(N.out.over hB12).alloc (.cells #[.string m1,.string m2,.bool m3,.bool m4,.bool m5,.int .i64 m6,.slice m7 m8 m9,.slice aA aB aC] 39);generalize (w2.alloc (.cells #[.string m1,.string m2,.bool m3,.bool m4,.bool m5,.int .i64 m6,.slice m7 m8 m9,.slice aA aB aC] 39))=W at *;have E:=Xh Tw;obtain⟨i0,i1,i2,i3,i4,i5⟩:=Tw.cells;clear Tw k0 k1 k3 k4 k5 N HFO q0 q1;go_upto_region 3 with(first
   |(go_fit (HT.out _);rintro e wq⟨rfl,rfl⟩))
  cases hm:qi D with
  |none =>
   rw[hm]at P HD;have hre:=P.out;go_wp2_with (first
    |(go_fit (HD.out _);rintro e w3⟨q,rfl⟩)
    |(go_fit (HF.out _);rintro e wq⟨rfl,rfl⟩))
   exact And.intro rfl (E.out.stop (E.out.step.over q) hre.symm)
  |some p =>
   obtain⟨args,g⟩:=p;rw[hm]at P HD;obtain⟨hsa,z⟩:=Z7 hm;have hl5:=Qat hm;have hgs:g.size<=maxLen:=Xf z (Xf hty (by decide));have R:∀k∈args.reverse,k.size<=maxLen:=fun k hk=>Xf (hsa k (List.mem_reverse.1 hk)) (Xf hty (by decide))
   have T:args.reverse.length<=4194304:=(by rw[List.length_reverse];omega);have hl6:args.length<=9223372036854775807:=(by omega);dsimp only at P;go_upto_region 5 with(first
    |(go_fit (HD.out _);rintro e w3⟨q,v,rfl,t⟩;obtain⟨vp,vc,rfl⟩:=Qd t)
    |(go_fit (HT.out _);rintro e wq⟨rfl,rfl⟩))
   have T3:=E.out.over q;have G:∀b,(Value.slice vp args.length vc).ownBlock=some b->W.heap.size<=b/\b<w3.heap.size:=fun b n=>t.lt b n
   go_upto_region 6 with(first
    |(go_fit (Qbb t rfl hl6);rintro e w4⟨rfl,hO4,hg4⟩))
   have U:=T3.grown hg4 T3.step.size (fun b n=>⟨Xf E.out.below.size (G b n).1,Xf E.out.step.size (G b n).1,Nat.ne_of_gt (Nat.lt_of_lt_of_le E.out.box.lt (G b n).1),E.out.step.fresh (G b n).1⟩);have V:QaE w4 (.slice vp args.length vc) args.reverse sb lv sv:=⟨Qi (l:=args.reverse) (by rw[List.length_reverse];exact hO4),fun b n=>⟨(hO4.lt b n).2,E.out.step.fresh (G b n).1⟩⟩;obtain⟨i0,i1,i2,i3,i4,i5⟩:=U.cells;clear T3 E q t hg4 HD hsa z hl5 hl6 hm;cases hV:(g.toList==[86]) with
   |true =>
    go_wp2_with (first
     |(go_at_call 169;rcases hq0:Qf (Za l) args.reverse S with _|S1;(with_reducible refine(U.takeAN x args.reverse _ V R T hq0).mono ?_);(rintro e w5 A;obtain⟨M,rfl⟩:=A.no';exact And.intro rfl (U.stop M (P.out.symm.trans (Zd (Zq hq0)))));(with_reducible refine(U.takeAY x args.reverse _ V R T hq0).mono ?_);rintro e w5 A;obtain⟨c,rfl,lv5,sv5,d,f⟩:=A.ok';(have O:=U.next c d f);(have H:=Qh hq0 x);obtain⟨i0,i1,i2,i3,i4,i5⟩:=O.cells)
     |(go_fit (HTh.out _);rintro e wq⟨rfl,rfl⟩)
     |(go_at_call 169;(have I:=O.alloc (.cells #[.string (Qc cls)] 9));rcases hq1:Qf (Za l) [Qc cls] S1 with _|S2;(with_reducible refine(O.takeON H (Qc cls) X _ (by simp) hq1).mono ?_);(rintro e w6 A;obtain⟨M,rfl⟩:=A.no';exact And.intro rfl (I.stop M (P.out.symm.trans (Zd ((Qe hq0).trans (Zq hq1))))));(with_reducible refine(O.takeOY H (Qc cls) X _ (by simp) hq1).mono ?_);rintro e w6 A;obtain⟨i,rfl,lv6,sv6,j,m⟩:=A.ok';(have T6:=I.next i j m)))
    go_end0;exact T6.done (P.out.symm.trans (qj ((Qe hq0).trans ((Qe hq1).trans (Zck hV)))))
   |false =>
    by_cases Z:Qg (Za l) g=0
    ·go_wp2_with (first
      |(go_at_call 169;rcases hq0:Qf (Za l) args.reverse S with _|S1;(with_reducible refine(U.takeAN x args.reverse _ V R T hq0).mono ?_);(rintro e w5 A;obtain⟨M,rfl⟩:=A.no';exact And.intro rfl (U.stop M (P.out.symm.trans (Zd (Zq hq0)))));(with_reducible refine(U.takeAY x args.reverse _ V R T hq0).mono ?_);rintro e w5 A;obtain⟨c,rfl,lv5,sv5,d,f⟩:=A.ok';(have O:=U.next c d f);(have H:=Qh hq0 x);obtain⟨i0,i1,i2,i3,i4,i5⟩:=O.cells)
      |(go_fit (HTh.out _);rintro e wq⟨rfl,rfl⟩)
      |(go_at_call 169;(have I:=O.alloc (.cells #[.string (Qc cls)] 9));rcases hq1:Qf (Za l) [Qc cls] S1 with _|S2;(with_reducible refine(O.takeON H (Qc cls) X _ (by simp) hq1).mono ?_);(rintro e w6 A;obtain⟨M,rfl⟩:=A.no';exact And.intro rfl (I.stop M (P.out.symm.trans (Zd ((Qe hq0).trans (Zq hq1))))));(with_reducible refine(O.takeOY H (Qc cls) X _ (by simp) hq1).mono ?_);rintro e w6 A;obtain⟨i,rfl,lv6,sv6,j,m⟩:=A.ok';(have T6:=I.next i j m))
      |(go_fit (T6.knowsY g hgs Z);rintro e w7 A;obtain⟨hB7,rfl,lv7,sv7,hS7,hk7⟩:=A.ok';(have T7:=T6.next hB7 hS7 hk7))
      |(go_at_call 166;rcases hq2:QN S2 g with _|S3;(with_reducible refine(T7.putN g hq2).mono ?_);(rintro e w8 A;obtain⟨M,rfl⟩:=A.no';exact And.intro rfl (T7.stop M (P.out.symm.trans (Zd ((Qe hq0).trans ((Qe hq1).trans (qbs hV Z hq2)))))));(with_reducible refine(T7.putY g hq2).mono ?_);rintro e w8 A;obtain⟨hB8,rfl,lv8,sv8,hS8,hk8⟩:=A.ok';(have T8:=T7.next hB8 hS8 hk8)))
     go_end0;exact T8.done (P.out.symm.trans (qj ((Qe hq0).trans ((Qe hq1).trans (Qbs hV Z hq2)))))
    ·go_wp2_with (first
      |(go_at_call 169;rcases hq0:Qf (Za l) args.reverse S with _|S1;(with_reducible refine(U.takeAN x args.reverse _ V R T hq0).mono ?_);(rintro e w5 A;obtain⟨M,rfl⟩:=A.no';exact And.intro rfl (U.stop M (P.out.symm.trans (Zd (Zq hq0)))));(with_reducible refine(U.takeAY x args.reverse _ V R T hq0).mono ?_);rintro e w5 A;obtain⟨c,rfl,lv5,sv5,d,f⟩:=A.ok';(have O:=U.next c d f);(have H:=Qh hq0 x);obtain⟨i0,i1,i2,i3,i4,i5⟩:=O.cells)
      |(go_fit (HTh.out _);rintro e wq⟨rfl,rfl⟩)
      |(go_at_call 169;(have I:=O.alloc (.cells #[.string (Qc cls)] 9));rcases hq1:Qf (Za l) [Qc cls] S1 with _|S2;(with_reducible refine(O.takeON H (Qc cls) X _ (by simp) hq1).mono ?_);(rintro e w6 A;obtain⟨M,rfl⟩:=A.no';exact And.intro rfl (I.stop M (P.out.symm.trans (Zd ((Qe hq0).trans (Zq hq1))))));(with_reducible refine(O.takeOY H (Qc cls) X _ (by simp) hq1).mono ?_);rintro e w6 A;obtain⟨i,rfl,lv6,sv6,j,m⟩:=A.ok';(have T6:=I.next i j m))
      |(go_fit (T6.knowsN g hgs Z);rintro e w7 A;obtain⟨hB7,rfl⟩:=A.no'))
     exact And.intro rfl (T6.stop hB7 (P.out.symm.trans (Zd ((Qe hq0).trans ((Qe hq1).trans (zcg hV Z))))))
 ·have Tw:=(((((((((N.out.over hB12).aside (b:=Y.heap.size) (Nat.le_of_lt C) (Xf y (Nat.le_of_lt J)) (Nat.ne_of_gt C) (N.out.step.fresh Xl) 0 (.string m1)).aside (b:=Y.heap.size) (Nat.le_of_lt C) (Xf y (Nat.le_of_lt J)) (Nat.ne_of_gt C) (N.out.step.fresh Xl) 1 (.string m2)).aside (b:=Y.heap.size) (Nat.le_of_lt C) (Xf y (Nat.le_of_lt J)) (Nat.ne_of_gt C) (N.out.step.fresh Xl) 2 (.bool m3)).aside (b:=Y.heap.size) (Nat.le_of_lt C) (Xf y (Nat.le_of_lt J)) (Nat.ne_of_gt C) (N.out.step.fresh Xl) 3 (.bool m4)).aside (b:=Y.heap.size) (Nat.le_of_lt C) (Xf y (Nat.le_of_lt J)) (Nat.ne_of_gt C) (N.out.step.fresh Xl) 4 (.bool m5)).aside (b:=Y.heap.size) (Nat.le_of_lt C) (Xf y (Nat.le_of_lt J)) (Nat.ne_of_gt C) (N.out.step.fresh Xl) 5 (.int .i64 m6)).aside (b:=Y.heap.size) (Nat.le_of_lt C) (Xf y (Nat.le_of_lt J)) (Nat.ne_of_gt C) (N.out.step.fresh Xl) 6 (.slice m7 m8 m9)).aside (b:=Y.heap.size) (Nat.le_of_lt C) (Xf y (Nat.le_of_lt J)) (Nat.ne_of_gt C) (N.out.step.fresh Xl) 7 (.slice aA aB aC));generalize ((((((((w2.setCell ⟨Y.heap.size,0,none⟩ (.string m1)).setCell ⟨Y.heap.size,1,none⟩ (.string m2)).setCell ⟨Y.heap.size,2,none⟩ (.bool m3)).setCell ⟨Y.heap.size,3,none⟩ (.bool m4)).setCell ⟨Y.heap.size,4,none⟩ (.bool m5)).setCell ⟨Y.heap.size,5,none⟩ (.int .i64 m6)).setCell ⟨Y.heap.size,6,none⟩ (.slice m7 m8 m9)).setCell ⟨Y.heap.size,7,none⟩ (.slice aA aB aC))=W at *;have E:=Xh Tw;obtain⟨i0,i1,i2,i3,i4,i5⟩:=Tw.cells;clear Tw k0 k1 k3 k4 k5 N HFO q0 q1;go_upto_region 3 with(first
   |(go_fit (HT.out _);rintro e wq⟨rfl,rfl⟩))
  cases hm:qi D with
  |none =>
   rw[hm]at P HD;have hre:=P.out;go_wp2_with (first
    |(go_fit (HD.out _);rintro e w3⟨q,rfl⟩)
    |(go_fit (HF.out _);rintro e wq⟨rfl,rfl⟩))
   exact And.intro rfl (E.out.stop (E.out.step.over q) hre.symm)
  |some p =>
   obtain⟨args,g⟩:=p;rw[hm]at P HD;obtain⟨hsa,z⟩:=Z7 hm;have hl5:=Qat hm;have hgs:g.size<=maxLen:=Xf z (Xf hty (by decide));have R:∀k∈args.reverse,k.size<=maxLen:=fun k hk=>Xf (hsa k (List.mem_reverse.1 hk)) (Xf hty (by decide))
   have T:args.reverse.length<=4194304:=(by rw[List.length_reverse];omega);have hl6:args.length<=9223372036854775807:=(by omega);dsimp only at P;go_upto_region 5 with(first
    |(go_fit (HD.out _);rintro e w3⟨q,v,rfl,t⟩;obtain⟨vp,vc,rfl⟩:=Qd t)
    |(go_fit (HT.out _);rintro e wq⟨rfl,rfl⟩))
   have T3:=E.out.over q;have G:∀b,(Value.slice vp args.length vc).ownBlock=some b->W.heap.size<=b/\b<w3.heap.size:=fun b n=>t.lt b n
   go_upto_region 6 with(first
    |(go_fit (Qbb t rfl hl6);rintro e w4⟨rfl,hO4,hg4⟩))
   have U:=T3.grown hg4 T3.step.size (fun b n=>⟨Xf E.out.below.size (G b n).1,Xf E.out.step.size (G b n).1,Nat.ne_of_gt (Nat.lt_of_lt_of_le E.out.box.lt (G b n).1),E.out.step.fresh (G b n).1⟩);have V:QaE w4 (.slice vp args.length vc) args.reverse sb lv sv:=⟨Qi (l:=args.reverse) (by rw[List.length_reverse];exact hO4),fun b n=>⟨(hO4.lt b n).2,E.out.step.fresh (G b n).1⟩⟩;obtain⟨i0,i1,i2,i3,i4,i5⟩:=U.cells;clear T3 E q t hg4 HD hsa z hl5 hl6 hm;cases hV:(g.toList==[86]) with
   |true =>
    go_wp2_with (first
     |(go_at_call 169;rcases hq0:Qf (Za l) args.reverse S with _|S1;(with_reducible refine(U.takeAN x args.reverse _ V R T hq0).mono ?_);(rintro e w5 A;obtain⟨M,rfl⟩:=A.no';exact And.intro rfl (U.stop M (P.out.symm.trans (Zd (Zq hq0)))));(with_reducible refine(U.takeAY x args.reverse _ V R T hq0).mono ?_);rintro e w5 A;obtain⟨c,rfl,lv5,sv5,d,f⟩:=A.ok';(have O:=U.next c d f);(have H:=Qh hq0 x);obtain⟨i0,i1,i2,i3,i4,i5⟩:=O.cells)
     |(go_fit (HTh.out _);rintro e wq⟨rfl,rfl⟩)
     |(go_at_call 169;(have I:=O.alloc (.cells #[.string (Qc cls)] 9));rcases hq1:Qf (Za l) [Qc cls] S1 with _|S2;(with_reducible refine(O.takeON H (Qc cls) X _ (by simp) hq1).mono ?_);(rintro e w6 A;obtain⟨M,rfl⟩:=A.no';exact And.intro rfl (I.stop M (P.out.symm.trans (Zd ((Qe hq0).trans (Zq hq1))))));(with_reducible refine(O.takeOY H (Qc cls) X _ (by simp) hq1).mono ?_);rintro e w6 A;obtain⟨i,rfl,lv6,sv6,j,m⟩:=A.ok';(have T6:=I.next i j m)))
    go_end0;exact T6.done (P.out.symm.trans (qj ((Qe hq0).trans ((Qe hq1).trans (Zck hV)))))
   |false =>
    by_cases Z:Qg (Za l) g=0
    ·go_wp2_with (first
      |(go_at_call 169;rcases hq0:Qf (Za l) args.reverse S with _|S1;(with_reducible refine(U.takeAN x args.reverse _ V R T hq0).mono ?_);(rintro e w5 A;obtain⟨M,rfl⟩:=A.no';exact And.intro rfl (U.stop M (P.out.symm.trans (Zd (Zq hq0)))));(with_reducible refine(U.takeAY x args.reverse _ V R T hq0).mono ?_);rintro e w5 A;obtain⟨c,rfl,lv5,sv5,d,f⟩:=A.ok';(have O:=U.next c d f);(have H:=Qh hq0 x);obtain⟨i0,i1,i2,i3,i4,i5⟩:=O.cells)
      |(go_fit (HTh.out _);rintro e wq⟨rfl,rfl⟩)
      |(go_at_call 169;(have I:=O.alloc (.cells #[.string (Qc cls)] 9));rcases hq1:Qf (Za l) [Qc cls] S1 with _|S2;(with_reducible refine(O.takeON H (Qc cls) X _ (by simp) hq1).mono ?_);(rintro e w6 A;obtain⟨M,rfl⟩:=A.no';exact And.intro rfl (I.stop M (P.out.symm.trans (Zd ((Qe hq0).trans (Zq hq1))))));(with_reducible refine(O.takeOY H (Qc cls) X _ (by simp) hq1).mono ?_);rintro e w6 A;obtain⟨i,rfl,lv6,sv6,j,m⟩:=A.ok';(have T6:=I.next i j m))
      |(go_fit (T6.knowsY g hgs Z);rintro e w7 A;obtain⟨hB7,rfl,lv7,sv7,hS7,hk7⟩:=A.ok';(have T7:=T6.next hB7 hS7 hk7))
      |(go_at_call 166;rcases hq2:QN S2 g with _|S3;(with_reducible refine(T7.putN g hq2).mono ?_);(rintro e w8 A;obtain⟨M,rfl⟩:=A.no';exact And.intro rfl (T7.stop M (P.out.symm.trans (Zd ((Qe hq0).trans ((Qe hq1).trans (qbs hV Z hq2)))))));(with_reducible refine(T7.putY g hq2).mono ?_);rintro e w8 A;obtain⟨hB8,rfl,lv8,sv8,hS8,hk8⟩:=A.ok';(have T8:=T7.next hB8 hS8 hk8)))
     go_end0;exact T8.done (P.out.symm.trans (qj ((Qe hq0).trans ((Qe hq1).trans (Qbs hV Z hq2)))))
    ·go_wp2_with (first
      |(go_at_call 169;rcases hq0:Qf (Za l) args.reverse S with _|S1;(with_reducible refine(U.takeAN x args.reverse _ V R T hq0).mono ?_);(rintro e w5 A;obtain⟨M,rfl⟩:=A.no';exact And.intro rfl (U.stop M (P.out.symm.trans (Zd (Zq hq0)))));(with_reducible refine(U.takeAY x args.reverse _ V R T hq0).mono ?_);rintro e w5 A;obtain⟨c,rfl,lv5,sv5,d,f⟩:=A.ok';(have O:=U.next c d f);(have H:=Qh hq0 x);obtain⟨i0,i1,i2,i3,i4,i5⟩:=O.cells)
      |(go_fit (HTh.out _);rintro e wq⟨rfl,rfl⟩)
      |(go_at_call 169;(have I:=O.alloc (.cells #[.string (Qc cls)] 9));rcases hq1:Qf (Za l) [Qc cls] S1 with _|S2;(with_reducible refine(O.takeON H (Qc cls) X _ (by simp) hq1).mono ?_);(rintro e w6 A;obtain⟨M,rfl⟩:=A.no';exact And.intro rfl (I.stop M (P.out.symm.trans (Zd ((Qe hq0).trans (Zq hq1))))));(with_reducible refine(O.takeOY H (Qc cls) X _ (by simp) hq1).mono ?_);rintro e w6 A;obtain⟨i,rfl,lv6,sv6,j,m⟩:=A.ok';(have T6:=I.next i j m))
      |(go_fit (T6.knowsN g hgs Z);rintro e w7 A;obtain⟨hB7,rfl⟩:=A.no'))
     exact And.intro rfl (T6.stop hB7 (P.out.symm.trans (Zd ((Qe hq0).trans ((Qe hq1).trans (zcg hV Z))))))
set_option maxRecDepth 512
end Go.Proofs.YtmclocdhcblbiaaGreatDoor
