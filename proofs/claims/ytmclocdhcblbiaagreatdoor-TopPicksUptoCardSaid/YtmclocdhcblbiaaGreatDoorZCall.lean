/- Lemmas; conditions: as each states. -/
import Derived.Test.YtmclocdhcblbiaaGreatDoorZPlainly
set_option maxHeartbeats 4000000
namespace Go.Proofs.YtmclocdhcblbiaaGreatDoor
open Go.RowKit Go.Shelf Go.Lib Tryz
structure zZ where
 name:Str
 type:Str
 cls:Str
 deriving DecidableEq
def qV(c:Str):List zZ->qc->List zZ
 |[],m=>[⟨m.name,m.type,c⟩]
 |s::r,m=>if s.name=m.name/\s.type=m.type then ⟨m.name,m.type,c⟩::r else s::qV c r m
def Z7(c:Str)(out:List zZ)(m:qc):List zZ:=if m.static||m.priv then out else qV c out m
def qI(c:Str)(out:List zZ)(l:List qc):List zZ:=l.foldl (Z7 c) out
def ZaE(cs:List qa)(out:List zZ)(line:List Str):List zZ:=line.foldl (fun o c=>qI c o (Qd cs c).methods) out
def qaE(cs:List qa)(c:Str):List zZ:=ZaE cs [] (zm cs c).reverse
structure Qat (c:Str) (a b:List zZ):Prop where
 len:a.length<=b.length
 same:∀i (h1:i<a.length) (h2:i<b.length),b[i].name=a[i].name/\b[i].type=a[i].type/\(b[i].cls=a[i].cls\/b[i].cls=c)
 new:∀i (h:i<b.length),a.length<=i->b[i].cls=c
theorem Qat.refl(c:Str)(a:List zZ):Qat c a a:=⟨Xl,fun _ _ _=>⟨rfl,rfl,Or.inl rfl⟩,fun i A B=>by omega⟩
theorem Qat.trans{c:Str}{x y z:List zZ}(h:Qat c x y)(g:Qat c y z):Qat c x z:=by
 refine⟨Xf h.len g.len,fun i D E=>?_,fun i D E=>?_⟩
 ·have B:i<y.length:=by have:=h.len;omega
  obtain⟨F,G,C⟩:=h.same i D B;obtain⟨H,I,A⟩:=g.same i B E;refine⟨H.trans F,I.trans G,?_⟩;rcases A with A|A
  ·rcases C with C|C
   ·exact Or.inl (A.trans C)
   ·exact Or.inr (A.trans C)
  ·exact Or.inr A
 ·by_cases B:i<y.length
  ·obtain⟨_,_,A⟩:=g.same i B D;rcases A with A|A
   ·rw[A];exact h.new i B E
   ·exact A
  ·exact g.new i D (by omega)
theorem qbk(c:Str)(m:qc):∀l:List zZ,Qat c l (qV c l m)
 |[]=>⟨by simp,fun i A=>by simp at A,fun i A _=>by
  simp[qV]at A;subst A;rfl⟩
 |s::r=>by
  unfold qV;by_cases h:s.name=m.name/\s.type=m.type
  ·rw[if_pos h];refine⟨by simp,fun i A B=>?_,fun i A B=>by simp only[List.length_cons]at A B;omega⟩;cases i with
   |zero=>exact⟨h.1.symm,h.2.symm,Or.inr rfl⟩
   |succ i=>exact⟨rfl,rfl,Or.inl rfl⟩
  ·rw[if_neg h];have C:=qbk c m r;refine⟨by simp only[List.length_cons];have:=C.len;omega,fun i A B=>?_,fun i A B=>?_⟩
   ·cases i with
    |zero=>exact⟨rfl,rfl,Or.inl rfl⟩
    |succ i=>exact C.same i (by simpa using A) (by simpa using B)
   ·cases i with
    |zero=>simp at B
    |succ i=>exact C.new i (by simpa using A) (by simpa using B)
theorem Qbk(c:Str):∀(l:List qc) (A:List zZ),Qat c A (qI c A l)
 |[],A=>Qat.refl c A
 |m::r,A=>by
  show Qat c A (qI c (Z7 c A m) r)
  refine Qat.trans ?_ (Qbk c r _);unfold Z7;split
  ·exact Qat.refl c A
  ·exact qbk c m A
theorem zcl(cs:List qa):∀(l:List Str) (A:List zZ),∀s∈ZaE cs A l,s.cls∈l\/∃x∈A,x.cls=s.cls
 |[],A,s,D=>Or.inr ⟨s,D,rfl⟩
 |c::r,A,s,D=>by
  rcases zcl cs r (qI c A (Qd cs c).methods) s D with h|⟨x,F,B⟩
  ·exact Or.inl (by simp[h])
  ·obtain⟨i,E,rfl⟩:=List.getElem_of_mem F;have e:=Qbk c (Qd cs c).methods A;by_cases C:i<A.length
   ·rcases(e.same i C E).2.2 with h|h
    ·exact Or.inr ⟨A[i],by simp,by rw[<-B,h]⟩
    ·exact Or.inl (by rw[<-B,h];simp)
   ·exact Or.inl (by rw[<-B,e.new i E (by omega)];simp)
theorem QbG(cs:List qa)(c:Str):∀s∈qaE cs c,s.cls∈zm cs c:=fun s A=>by
 rcases zcl cs _ _ s A with h|⟨x,B,_⟩
 ·exact List.mem_reverse.1 h
 ·cases B
def qaT(m:qc)(s:zZ):Bool:=decide (s.name=m.name)&&decide (s.type=m.type)
def zau(m:qc):List zZ->Option Nat
 |[]=>none
 |s::r=>if qaT m s then some 0 else (zau m r).map (· + 1)
theorem zbO{m:qc}{c:Str}:∀{l:List zZ},zau m l=none->qV c l m=l++[⟨m.name,m.type,c⟩]
 |[],_=>rfl
 |s::r,h=>by
  unfold zau at h;cases A:qaT m s with
  |true=>rw[A,if_pos rfl]at h;cases h
  |false =>
   rw[A,if_neg (by decide)]at h;have B:zau m r=none:=by cases D:zau m r with
    |none=>rfl
    |some _=>rw[D]at h;cases h
   unfold qV;have C:¬(s.name=m.name/\s.type=m.type):=by
    rintro⟨E,F⟩;unfold qaT at A;rw[Xj E,Xj F]at A;cases A
   rw[if_neg C,zbO B];rfl
theorem ZbO{m:qc}{c:Str}:∀{l:List zZ} {k:Nat},zau m l=some k->k<l.length/\qV c l m=l.set k ⟨m.name,m.type,c⟩
 |[],_,h=>by cases h
 |s::r,k,h=>by
  unfold zau at h;unfold qV;cases A:qaT m s with
  |true =>
   rw[A,if_pos rfl]at h;injection h with h;subst h
   have B:s.name=m.name/\s.type=m.type:=by
    unfold qaT at A;rw[Bool.and_eq_true]at A;exact⟨Xm A.1,Xm A.2⟩
   rw[if_pos B];exact⟨by simp,rfl⟩
  |false =>
   rw[A,if_neg (by decide)]at h;have B:¬(s.name=m.name/\s.type=m.type):=by
    rintro⟨D,E⟩;unfold qaT at A;rw[Xj D,Xj E]at A;cases A
   rw[if_neg B];cases C:zau m r with
   |none=>rw[C]at h;cases h
   |some j =>
    rw[C]at h;injection h with h;subst h
    obtain⟨D,E⟩:=ZbO (c:=c) C;exact⟨by simp;exact D,by rw[E];rfl⟩
theorem qbm(c:Str)(m:qc):∀l:List zZ,(qV c l m).length<=l.length+1
 |[]=>by simp[qV]
 |s::r=>by
  unfold qV;split
  ·simp
  ·have:=qbm c m r;simp;omega
theorem zc4(c:Str)(A:List zZ)(m:qc)(r:List qc):qI c A (m::r)=qI c (Z7 c A m) r:=rfl
theorem Zc4(c:Str)(A:List zZ)(l:List qc)(k:Nat)(m:qc)(h:l[k]? = some m):qI c A (l.drop k)=qI c (Z7 c A m) (l.drop (k+1)):=by
 obtain⟨B,rfl⟩:=List.getElem?_eq_some_iff.1 h;rw[List.drop_eq_getElem_cons B];rfl
theorem Zdj(cs:List qa)(A:List zZ)(l:List Str)(k:Nat)(c:Str)(h:l[k]? = some c):ZaE cs A (l.drop k)=ZaE cs (qI c A (Qd cs c).methods) (l.drop (k+1)):=by
 obtain⟨B,rfl⟩:=List.getElem?_eq_some_iff.1 h;rw[List.drop_eq_getElem_cons B];rfl
def zV(cs:List qa)(n t:Str):Option (Str×qc)->List zZ->Option (Str×qc)
 |o,[]=>o
 |o,s::r=>zV cs n t (if s.name=n/\s.type=t then qB cs s.cls n t else o) r
theorem qbB(cs:List qa)(n t:Str)(o:Option (Str×qc))(l:List zZ)(k:Nat)(s:zZ)(h:l[k]? = some s):
 zV cs n t o (l.drop k)=zV cs n t (if s.name=n/\s.type=t then qB cs s.cls n t else o) (l.drop (k+1)):=by
 obtain⟨A,rfl⟩:=List.getElem?_eq_some_iff.1 h;rw[List.drop_eq_getElem_cons A];rfl
def Qs(cs:List qa)(c n t:Str):Option (Str×qc):=zV cs n t (qB cs c n t) (qaE cs c)
def QB:Option (Str×qc)->Bool
 |some (_,m)=>!m.static&&!m.priv&&!m.abs
 |none=>false
def zeI(cs:List qa)(c n t:Str):Option (Str×qc):=if QB (Qs cs c n t) then Qs cs c n t else none
def zz(cs:List qa)(src c n t:Str)(static:Bool):Nat :=
 if (Qb cs c).isNone then 3
 else match qB cs c n t with
  |none=>3
  |some (d,m)=>if (Qb cs src).isNone then 3 else if m.static≠static then 7 else if m.priv&&decide (d≠src) then 9 else 0
theorem zca{n:Str}:∀{l:List QJ} {f:QJ},Z3 n l=some f->f∈l
 |x::r,f,h=>by
  unfold Z3 at h;split at h
  ·injection h with h
   subst h;simp
  ·exact List.mem_cons_of_mem _ (zca h)
theorem qak{cs:List qa}{n:Str}:∀{B:List Str} {x:Str} {f:QJ},qab cs n B=some (x,f)->f∈(Qd cs x).fields
 |c::r,x,f,h=>by
  unfold qab at h;cases A:Z3 n (Qd cs c).fields with
  |none =>
   rw[A]at h;exact qak h
  |some g =>
   rw[A]at h;injection h with h
   injection h with C D
   subst C D;exact zca A
theorem zaY{cs:List qa}{c:Str}(h:Zg cs (Qc c)=0):(Qb cs c).isSome=true:=by
 obtain⟨X,B,C⟩:=QT h;rw[QaE]at B;have A:X=.ty (.cl c):=Zbe B;subst A;exact C
theorem Qh.aside{base:Nat}{w:World}{A B b:Nat}{qb Zb:Str}{C D:Value}{L S:List Str}(h:Qh base w A B qb Zb C D L S)(E:Qa6 A C D b)(j:Nat)(u:Value):Qh base (w.setCell ⟨b,j,none⟩ u) A B qb Zb C D L S :=
 ⟨(Xk w ⟨b,j,none⟩ A u (fun e=>E.1 e.symm)).trans h.blk,Z1 h.locals E.2.1 j u,Z1 h.stack E.2.2 j u,h.apart,h.lfar,h.sfar,h.low⟩
theorem SA.aside{M w:World}{B:Nat}{l:List qa}{base:Nat}{F:World}{A C:Value}{G:Nat}{qb Zb:Str}{H:Nat}{N:List Value}{wx:World}{I J:Value}{L S:List Str}(T:SA M w B l base F A C G qb Zb H N wx I J L S){b:Nat}(U:F.heap.size<=b)(D:base<=b)(P:b≠H)(R:Qa6 G I J b)(j:Nat)(u:Value):SA M w B l base F A C G qb Zb H N (wx.setCell ⟨b,j,none⟩ u) I J L S :=
 ⟨⟨T.env.map0,T.env.le,T.env.below.setCell (p:=⟨b,j,none⟩) (Xf T.env.le D) u⟩,T.step.aside R j u,T.box.other (fun e=>P e.symm) j u,T.apart,T.below.setCell (p:=⟨b,j,none⟩) D u,⟨T.kp.1,fun g O E=>⟨(Xk wx ⟨b,j,none⟩ g u (by show g≠b;omega)).trans (T.kp.2 g O E).1,(T.kp.2 g O E).2⟩⟩⟩
theorem QA{w:World}{a:Addr}{b:Nat}(h:a.block≠b)(u v:Value):((w.setCell ⟨b,0,none⟩ u).setCell ⟨b,1,none⟩ v).cell? a=w.cell? a:=World.cell?_of_block (by rw[Xk _ _ _ _ h,Xk _ _ _ _ h])
def qN(cs:List qa)(c n:Str):Option Str :=
 if Zg cs (Qc c)≠0 then none else match zaM cs c n with
  |none=>none
  |some (_,f)=>if Zg cs f.type=0 then some f.type else none
set_option maxRecDepth 100000
theorem ZcP(w0 w:World)(B:Nat)(l:List qa)(base:Nat)(H:World)(hE:Env w0 w B l base H)(O:Nat)(qb Zb:Str)(lv sv:Value)(L S:List Str)(h:Qh base H O B qb Zb lv sv L S)(op a b:Int)(T cls name:Str)(hc:cls.size<=1048576):
 Calls prog 173 #[.pointer (some ⟨O,0,none⟩),.agg #[.int .i64 op,.int .i64 a,.int .i64 b,.string T,.string cls,.string name]] H (qf base H O B qb Zb lv sv ((qN (Za l) cls name).map fun t=>(.string t,L,S))):=by
 have T0:SA w0 w B l base H lv sv O qb Zb H.heap.size [.int .i64 op,.int .i64 a,.int .i64 b,.string T,.string cls,.string name] (H.alloc (.cells #[.int .i64 op,.int .i64 a,.int .i64 b,.string T,.string cls,.string name] 34)) lv sv L S:=SA.new hE h _;obtain⟨i0,i1,i2,i3,i4,i5⟩:=T0.cells;have HT:Hid (∀wx,_):=fun wx=>qH wx
 have HF:Hid (∀wx,_):=fun wx=>Zx wx
 have HTh:Hid (∀wx,_):=fun wx=>ZZ cls wx (Xf hc (by decide))
 have hsz:(Qc cls).size<=maxLen:=by rw[Zao];exact Xf (Nat.add_le_add_right hc 2) (by decide)
 have HRg:=Xh hE.map0.faults;obtain⟨res,V⟩:∃r,(qN (Za l) cls name).map (fun t=>((.string t:Value),L,S))=r:=⟨_,rfl⟩;have I:=Xh V;rw[V];clear V;unfold qN at I;clear h hE;by_cases hk:Zg (Za l) (Qc cls)=0
 ·rw[if_neg (by rw[hk];decide)]at I;have HKn:=Xh (zaY hk);go_enter func173,ntmps173;go_upto_region 2 with(first
   |(go_fit (HTh.out _);rintro e v⟨rfl,rfl⟩)
   |(go_fit (T0.knowsY (Qc cls) hsz hk);rintro e E P;obtain⟨d,rfl,lv1,sv1,hS1,q⟩:=P.ok'))
  obtain rfl:=q.1;have k:=T0.next d hS1 q;obtain⟨i0,i1,i2,i3,i4,i5⟩:=k.cells;have q0:E.cell? ⟨O,0,none⟩=some (.map (some B)):=k.step.blk.cell 0;have D:=Xh k;have M:Hid (∀wx,Below E.heap.size E wx->Calls prog 150 #[.map (some B),.string cls,.string name] wx fun e w'=>e=.returned (qbZ (zaM (Za l) cls name))/\Below wx.heap.size wx w'/\Below E.heap.size E w'/\w'.cell? ⟨O,0,none⟩=some (.map (some B))/\w'.cell? ⟨H.heap.size,4,none⟩=some (.string cls)/\w'.cell? ⟨H.heap.size,5,none⟩=some (.string name)):=fun wx hb =>
   (Zca w0 wx B l (D.out.over hb).env.map cls name HKn.out).mono fun e w' ⟨he,hB⟩=>by
    have hb':=Qa hb Xl hB;have T2:=D.out.over hb';obtain⟨_,_,_,_,g,i⟩:=T2.cells;exact⟨he,hB,hb',T2.step.blk.cell 0,g,i⟩
  have N:=k.step.blk.lt;have Y:=k.step.low;have A:=k.box.lt;clear T0 k d hS1 q P;cases hf:zaM (Za l) cls name with
  |none =>
   rw[hf]at I M;unfold qbZ at M;go_region_held3 (fun w'=>w'.cell? ⟨O,0,none⟩=some (.map (some B))/\w'.cell? ⟨H.heap.size,4,none⟩=some (.string cls)/\w'.cell? ⟨H.heap.size,5,none⟩=some (.string name)) (first|go_keep|exact⟨(QA (a:=⟨O,0,none⟩) (Nat.ne_of_lt N) _ _).trans z,(QA (a:=⟨H.heap.size,4,none⟩) (Nat.ne_of_lt A) _ _).trans g,(QA (a:=⟨H.heap.size,5,none⟩) (Nat.ne_of_lt A) _ _).trans i⟩)
    (first
     |(go_fit (M.out _ ?_);(first|exact Xb.drew|exact(Xb.alloc Xl _).drew);rintro e R⟨rfl,x,F,z,g,i⟩;(first|(have j:Blk R E.heap.size 118 [.string ⟨#[]⟩,.string ⟨#[]⟩]:=Blk.step (w:=(E.alloc (.cells #[.string ⟨#[]⟩,.string ⟨#[]⟩] 118)).drew) (Blk.new E 118 [.string ⟨#[]⟩,.string ⟨#[]⟩]) x;obtain⟨x0,x1⟩:=j.cells2;(have f0:=j.frozen 0);(have f1:=j.frozen 1))|skip)))
   ·have U:=(D.out.over F).alloc (.cells #[.string ⟨#[]⟩,.string ⟨#[]⟩] 118);generalize (R.alloc (.cells #[.string ⟨#[]⟩,.string ⟨#[]⟩] 118))=W at *;have C:=Xh U;clear U z g i i0 i1 i2 i3 i4 i5 q0;go_wp2_with (first
     |(go_fit (HF.out _);rintro e v⟨rfl,rfl⟩))
    exact And.intro rfl (C.out.stop Xb I.out.symm)
   ·have U:=((D.out.over F).aside (b:=E.heap.size) (Nat.le_of_lt A) (Xf Y (Nat.le_of_lt N)) (Nat.ne_of_gt A) (D.out.step.fresh Xl) 0 (.string ⟨#[]⟩)).aside (b:=E.heap.size) (Nat.le_of_lt A) (Xf Y (Nat.le_of_lt N)) (Nat.ne_of_gt A) (D.out.step.fresh Xl) 1 (.string ⟨#[]⟩);generalize ((R.setCell ⟨E.heap.size,0,none⟩ (.string ⟨#[]⟩)).setCell ⟨E.heap.size,1,none⟩ (.string ⟨#[]⟩))=W at *;have C:=Xh U;clear U z g i i0 i1 i2 i3 i4 i5 q0;go_wp2_with (first
     |(go_fit (HF.out _);rintro e v⟨rfl,rfl⟩))
    exact And.intro rfl (C.out.stop Xb I.out.symm)
  |some p =>
   obtain⟨c,f⟩:=p;have Z:f.type.size<=maxLen:=by
    obtain⟨y,hy⟩:=Q8 (zaj HRg.out c f (qak hf));exact hy.size
   rw[hf]at I M;unfold qbZ at M;dsimp only at I;go_region_held3 (fun w'=>w'.cell? ⟨O,0,none⟩=some (.map (some B))/\w'.cell? ⟨H.heap.size,4,none⟩=some (.string cls)/\w'.cell? ⟨H.heap.size,5,none⟩=some (.string name)) (first|go_keep|exact⟨(QA (a:=⟨O,0,none⟩) (Nat.ne_of_lt N) _ _).trans z,(QA (a:=⟨H.heap.size,4,none⟩) (Nat.ne_of_lt A) _ _).trans g,(QA (a:=⟨H.heap.size,5,none⟩) (Nat.ne_of_lt A) _ _).trans i⟩)
    (first
     |(go_fit (M.out _ ?_);(first|exact Xb.drew|exact(Xb.alloc Xl _).drew);rintro e R⟨rfl,x,F,z,g,i⟩;(first|(have j:Blk R E.heap.size 118 [.string ⟨#[]⟩,.string ⟨#[]⟩]:=Blk.step (w:=(E.alloc (.cells #[.string ⟨#[]⟩,.string ⟨#[]⟩] 118)).drew) (Blk.new E 118 [.string ⟨#[]⟩,.string ⟨#[]⟩]) x;obtain⟨x0,x1⟩:=j.cells2;(have f0:=j.frozen 0);(have f1:=j.frozen 1))|skip)))
   ·have U:=(D.out.over F).alloc (.cells #[.string f.name,.string f.type] 118);have m:Blk (R.alloc (.cells #[.string f.name,.string f.type] 118)) R.heap.size 118 [.string f.name,.string f.type]:=Blk.new R 118 [.string f.name,.string f.type];have n:Qa6 O lv1 sv1 R.heap.size:=(D.out.over F).step.fresh Xl;generalize (R.alloc (.cells #[.string f.name,.string f.type] 118))=W at *;obtain⟨y0,y1⟩:=m.cells2;have C:=Xh U;have o:=Xh m;clear U m z g i i0 i1 i2 i3 i4 i5 q0;by_cases G:Zg (Za l) f.type=0
    ·rw[if_pos G]at I;go_wp2_with (first
      |(go_fit (HT.out _);rintro e v⟨rfl,rfl⟩)
      |(go_fit (C.out.knowsY f.type Z G);rintro e w3 P;obtain⟨J,rfl,lv3,sv3,s,X⟩:=P.ok';(have T3:=C.out.next J s X);obtain⟨x0,x1⟩:=(X.blk o.out n).cells2))
     go_ret;exact T3.done I.out.symm
    ·rw[if_neg G]at I;go_wp2_with (first
      |(go_fit (HT.out _);rintro e v⟨rfl,rfl⟩)
      |(go_fit (C.out.knowsN f.type Z G);rintro e w3 P;obtain⟨J,rfl⟩:=P.no'))
     exact And.intro rfl (C.out.stop J I.out.symm)
   ·have U:=((D.out.over F).aside (b:=E.heap.size) (Nat.le_of_lt A) (Xf Y (Nat.le_of_lt N)) (Nat.ne_of_gt A) (D.out.step.fresh Xl) 0 (.string f.name)).aside (b:=E.heap.size) (Nat.le_of_lt A) (Xf Y (Nat.le_of_lt N)) (Nat.ne_of_gt A) (D.out.step.fresh Xl) 1 (.string f.type);have m:Blk ((R.setCell ⟨E.heap.size,0,none⟩ (.string f.name)).setCell ⟨E.heap.size,1,none⟩ (.string f.type)) E.heap.size 118 [.string f.name,.string f.type]:=j.put2 _ _;have n:Qa6 O lv1 sv1 E.heap.size:=D.out.step.fresh Xl;generalize ((R.setCell ⟨E.heap.size,0,none⟩ (.string f.name)).setCell ⟨E.heap.size,1,none⟩ (.string f.type))=W at *;obtain⟨y0,y1⟩:=m.cells2;have C:=Xh U;have o:=Xh m;clear U m z g i i0 i1 i2 i3 i4 i5 q0;by_cases G:Zg (Za l) f.type=0
    ·rw[if_pos G]at I;go_wp2_with (first
      |(go_fit (HT.out _);rintro e v⟨rfl,rfl⟩)
      |(go_fit (C.out.knowsY f.type Z G);rintro e w3 P;obtain⟨J,rfl,lv3,sv3,s,X⟩:=P.ok';(have T3:=C.out.next J s X);obtain⟨x0,x1⟩:=(X.blk o.out n).cells2))
     go_ret;exact T3.done I.out.symm
    ·rw[if_neg G]at I;go_wp2_with (first
      |(go_fit (HT.out _);rintro e v⟨rfl,rfl⟩)
      |(go_fit (C.out.knowsN f.type Z G);rintro e w3 P;obtain⟨J,rfl⟩:=P.no'))
     exact And.intro rfl (C.out.stop J I.out.symm)
 ·rw[if_pos hk]at I;go_enter func173,ntmps173;go_wp2_with (first
   |(go_fit (HTh.out _);rintro e v⟨rfl,rfl⟩)
   |(go_fit (T0.knowsN (Qc cls) hsz hk);rintro e E P;obtain⟨d,rfl⟩:=P.no'))
  exact And.intro rfl (T0.stop d I.out.symm)
def qcP(w:World)(f:Nat)(e:Ending)(w':World):Prop:=(∃s v,e=.returned (.tuple #[.string s,v,Qx f]))/\Below w.heap.size w w'
def Zee(v:Value):Prop:=∃a b c d e n p1 n1 k1 p2 n2 k2,v=.agg #[.string a,.string b,.bool c,.bool d,.bool e,.int .i64 n,.slice p1 n1 k1,.slice p2 n2 k2]
def QcP(w:World)(f:Nat)(e:Ending)(w':World):Prop:=(∃s v,e=.returned (.tuple #[.string s,v,Qx f])/\Zee v)/\Below w.heap.size w w'
def Zcl(o:Option (Str×qc))(iss:Bool)(src:Str)(static:Bool):Nat :=
 match o with
 |none=>3
 |some (d,m)=>if (!iss)=true then 3 else if m.static≠static then 7 else if m.priv&&decide (d≠src) then 9 else 0
theorem qdj(d:Str)(m:qc)(B:Bool)(C:Str)(A:Bool):Zcl (some (d,m)) B C A=if B=false then 3 else if (m.static==A)=false then 7 else if (m.priv&&!decide (d=C))=true then 9 else 0:=by
 unfold Zcl;cases B with
 |false=>rfl
 |true =>
  obtain⟨p,F⟩:∃p,m.priv=p:=⟨_,rfl⟩;cases p<;>by_cases D:m.static=A<;>by_cases E:d=C<;>simp[D,E,F]
theorem Qc4(cs:List qa)(B c n t:Str)(A:Bool):zz cs B c n t A=if (!(Qb cs c).isSome)=true then 3 else Zcl (qB cs c n t) (Qb cs B).isSome B A:=by
 unfold zz Zcl;cases Qb cs c<;>cases Qb cs B<;>cases qB cs c n t<;>rfl
theorem zbv(w0 w:World)(B:Nat)(l:List qa)(j:qh w0 w B l)(C c n t:Str)(A:Bool)(k:c.size<=maxLen)(p:C.size<=maxLen):
 Calls prog 24 #[.map (some B),.string C,.string c,.string n,.string t,.bool A] w (QcP w (zz (Za l) C c n t A)):=by
 obtain⟨p1,k1,p2,k2,p3,k3,_,_,_,aB⟩:=j.map.look3 j.right.nodup c k;obtain⟨p4,k4,p5,k5,p6,k6,_,_,_,g⟩:=j.map.look3 j.right.nodup C p;have J:Below w.heap.size w (w.alloc (.cells #[.string ⟨#[]⟩,.string ⟨#[]⟩,.bool false,.bool false,.bool false,.int .i64 0,.slice none 0 0,.slice none 0 0] 39)):=Xb.alloc Xl _;have a:=(aB _ J).1;have R:Hid ((Qb (Za l) c).isSome=true->∀wx,Below w.heap.size w wx->_):=fun hk wx hb=>qbe w0 wx B l (j.step hb) c n t hk
 unfold Qbm at R;have L:=Xh g;have D:Blk (w.alloc (.cells #[.string ⟨#[]⟩,.string ⟨#[]⟩,.bool false,.bool false,.bool false,.int .i64 0,.slice none 0 0,.slice none 0 0] 39)) w.heap.size 39 Qw:=Blk.new w _ Qw;have F:=Xh (Qc4 (Za l) C c n t A);unfold QcP;clear j k p aB g;generalize zz (Za l) C c n t A=f at *;generalize (Qb (Za l) c).isSome=isc at *;generalize (Qb (Za l) C).isSome=i at *;generalize (Qb (Za l) c).getD qg=dc at *;generalize (Qb (Za l) C).getD qg=ds at *;generalize qB (Za l) c n t=o at *;obtain⟨n2,s2,f2,b2,d2,m2⟩:=dc;obtain⟨n3,s3,f3,b3,d3,m3⟩:=ds;unfold Zu at a L;dsimp only at a L;have I:=(J.alloc J.size (.cells #[.string n2,.string s2,.slice p1 f2.length k1,.bool b2,.slice p2 d2.length k2,.slice p3 m2.length k3] 31));have E:=D.step (Xb.alloc Xl (.cells #[.string n2,.string s2,.slice p1 f2.length k1,.bool b2,.slice p2 d2.length k2,.slice p3 m2.length k3] 31));cases isc with
 |false =>
  have O:f=3:=F.out;subst O;obtain⟨q0,q1,q2,q3,q4,q5,q6,q7⟩:=D.method;have r:=D.frozen;have s:=Xh J;have y:=D.lt;clear F E D I R L J;go_enter func24,ntmps24;go_wp2_with fail;exact bodyPost_ret (v:=.tuple #[.string ⟨#[]⟩,.agg Qw.toArray,.iface 52 (.int .i64 3)]) (by simp[results,results24,go_sem, *,Qw]) rfl ⟨⟨_,_,rfl,⟨_,_,_,_,_,_,_,_,_,_,_,_,rfl⟩⟩,s.out.alloc s.out.size _⟩
 |true =>
  have S:Hid (∀wx,Below w.heap.size w wx->_):=fun wx hb=>R.out rfl wx hb
  replace F:Hid (f=Zcl o i C A):=F.out;clear R D J;cases o with
  |none =>
   simp only[za7,Option.map_none,Option.getD_none]at S;have O:f=3:=F.out;subst O;clear F L;go_enter func24,ntmps24;go_upto_region 6 with(go_fit (S.out _ I);rintro e V⟨⟨v3,rfl,pc,X,Y,Z,rfl,_,_⟩,H⟩)
   have T:=E.step H;obtain⟨q0,q1,q2,q3,q4,q5,q6,q7⟩:=T.method;have r:=T.frozen;have y:=T.lt;have M:=Qa I Xl H;have HE:=Xh ((Z9 M (Nat.le_refl w.heap.size) (.string ⟨#[]⟩) (.string ⟨#[]⟩) (.bool false) (.bool false) (.bool false) (.int .i64 0) (.slice none 0 0) (.slice none 0 0)).alloc (Xf M.size (by simp)) (.cells #[.string QH.name,.string QH.type,.bool QH.static,.bool QH.abs,.bool QH.priv,.int .i64 QH.locals,.slice pc QH.code.length X,.slice Y QH.handlers.length Z] 39));clear T M E I H;go_wp2_with fail;exact bodyPost_ret (v:=.tuple #[.string ⟨#[]⟩,.agg Qw.toArray,.iface 52 (.int .i64 3)]) (by simp[results,results24,go_sem, *,Qw]) rfl ⟨⟨_,_,rfl,⟨_,_,_,_,_,_,_,_,_,_,_,_,rfl⟩⟩,HE⟩
  |some x =>
   obtain⟨d,m⟩:=x;simp only[za7,Option.map_some,Option.getD_some]at S;go_enter func24,ntmps24;go_upto_region 7 with(go_fit (S.out _ I);rintro e V⟨⟨v3,rfl,pc,X,Y,Z,rfl,_,_⟩,H⟩)
   have M:=Qa I Xl H;have P:=Blk.new V 39 [.string m.name,.string m.type,.bool m.static,.bool m.abs,.bool m.priv,.int .i64 m.locals,.slice pc m.code.length X,.slice Y m.handlers.length Z];have b:=(Below.refl V.heap.size V).alloc Xl (.cells #[.string m.name,.string m.type,.bool m.static,.bool m.abs,.bool m.priv,.int .i64 m.locals,.slice pc m.code.length X,.slice Y m.handlers.length Z] 39);have U:=(E.step H).step b;have N:=Qa M Xl b;have hne:w.heap.size<V.heap.size:=(E.step H).lt;have P:Blk (V.alloc (.cells #[.string m.name,.string m.type,.bool m.static,.bool m.abs,.bool m.priv,.int .i64 m.locals,.slice pc m.code.length X,.slice Y m.handlers.length Z] 39)) V.heap.size 39 [.string m.name,.string m.type,.bool m.static,.bool m.abs,.bool m.priv,.int .i64 m.locals,.slice pc m.code.length X,.slice Y m.handlers.length Z]:=P;clear E I H M b;generalize V.alloc (.cells #[.string m.name,.string m.type,.bool m.static,.bool m.abs,.bool m.priv,.int .i64 m.locals,.slice pc m.code.length X,.slice Y m.handlers.length Z] 39)=w4 at *;generalize V.heap.size=x18 at *;have g:=(L.out w4 N).1;obtain⟨q0,q1,q2,q3,q4,q5,q6,q7⟩:=U.method;have r:=U.frozen;have y:=U.lt;obtain⟨t0,t1,t2,t3,t4,t5,t6,t7⟩:=P.cells8;have hl18:=P.lt;have h:=Xh ((Z9 N (Nat.le_refl w.heap.size) (.string ⟨#[]⟩) (.string ⟨#[]⟩) (.bool false) (.bool false) (.bool false) (.int .i64 0) (.slice none 0 0) (.slice none 0 0)).alloc (Xf N.size (by simp)) (.cells #[.string n3,.string s3,.slice p4 f3.length k4,.bool b3,.slice p5 d3.length k5,.slice p6 m3.length k6] 31));have z:=Xh (((Z9 N (Nat.le_refl w.heap.size) (.string m.name) (.string m.type) (.bool m.static) (.bool m.abs) (.bool m.priv) (.int .i64 m.locals) (.slice pc m.code.length X) (.slice Y m.handlers.length Z)).alloc (Xf N.size (by simp)) (.cells #[.string n3,.string s3,.slice p4 f3.length k4,.bool b3,.slice p5 d3.length k5,.slice p6 m3.length k6] 31)).drew);clear U P N L;have aA:=Zay d C;obtain⟨st,aC⟩:∃q,(m.static==A)=q:=⟨_,rfl⟩;have hs1n:(m.static != A)=!st:=(by rw[<-aC];rfl);obtain⟨ne,hs2⟩:∃q,(d.toList==C.toList)=q:=⟨_,rfl⟩;have G:Hid (f=if i=false then 3 else if st=false then 7 else if (m.priv&&!ne)=true then 9 else 0):=by
    unfold Hid;rw[F.out,qdj,<-aC,<-hs2,aA]
   clear F aA;obtain⟨pv,hpv⟩:∃q,m.priv=q:=⟨_,rfl⟩;rw[hpv]at G t4 z;cases i with
   |false =>
    have O:f=3:=G.out;subst O;go_wp2_with fail;exact bodyPost_ret (v:=.tuple #[.string ⟨#[]⟩,.agg Qw.toArray,.iface 52 (.int .i64 3)]) (by simp[results,results24,go_sem, *,Qw]) rfl ⟨⟨_,_,rfl,⟨_,_,_,_,_,_,_,_,_,_,_,_,rfl⟩⟩,h⟩
   |true =>
    cases st with
    |false =>
     have O:f=7:=G.out;subst O;go_wp2_with fail;exact bodyPost_ret (v:=.tuple #[.string ⟨#[]⟩,.agg Qw.toArray,.iface 52 (.int .i64 7)]) (by simp[results,results24,go_sem, *,Qw]) rfl ⟨⟨_,_,rfl,⟨_,_,_,_,_,_,_,_,_,_,_,_,rfl⟩⟩,h⟩
    |true =>
     cases pv<;>cases ne
     case true.false =>
      have O:f=9:=G.out;subst O;go_wp2_with fail;exact bodyPost_ret (v:=.tuple #[.string ⟨#[]⟩,.agg Qw.toArray,.iface 52 (.int .i64 9)]) (by simp[results,results24,go_sem, *,Qw]) rfl ⟨⟨_,_,rfl,⟨_,_,_,_,_,_,_,_,_,_,_,_,rfl⟩⟩,h⟩
     all_goals
      have O:f=0:=G.out;subst O;go_upto_region 14 with fail;go_region
      all_goals go_wp2
      all_goals exact bodyPost_ret (v:=.tuple #[.string d,.agg #[.string m.name,.string m.type,.bool m.static,.bool m.abs,.bool _,.int .i64 m.locals,.slice pc m.code.length X,.slice Y m.handlers.length Z],.nilIface]) (by simp[results,results24,go_sem, *];rfl) rfl ⟨⟨_,_,rfl,⟨_,_,_,_,_,_,_,_,_,_,_,_,rfl⟩⟩,z⟩
theorem qcl(F w:World)(B:Nat)(l:List qa)(G:qh F w B l)(C c n t:Str)(A:Bool)(D:c.size<=maxLen)(E:C.size<=maxLen):
 Calls prog 24 #[.map (some B),.string C,.string c,.string n,.string t,.bool A] w (qcP w (zz (Za l) C c n t A)) :=
 (zbv F w B l G C c n t A D E).mono fun _ _ h=>⟨h.1.elim fun s h=>h.elim fun v h=>⟨s,v,h.1⟩,h.2⟩
def Qbe(w:World)(m:Option (List ByteArray×ByteArray))(e:Ending)(w':World):Prop :=
 Below w.heap.size w w'/\match m with
  |none=>e=.returned (.tuple #[.slice none 0 0,.string .empty,.iface 52 (.int .i64 1)])
  |some (args,g)=>∃v,e=.returned (.tuple #[v,.string g,.nilIface])/\w'.ownsRow w.heap.size 9 1 v args.length (args.map Value.string)
theorem zc5{w w':World}{m:Option (List ByteArray×ByteArray)}(A:m=none)(B:Below w.heap.size w w'):
 Qbe w m (.returned (.tuple #[.slice none 0 0,.string .empty,.iface 52 (.int .i64 1)])) w':=by subst A;exact⟨B,rfl⟩
theorem Qdj{w w':World}{m:Option (List ByteArray×ByteArray)}{args:List ByteArray}{g:ByteArray}{v:Value}(A:m=some (args,g))(B:Below w.heap.size w w')(C:w'.ownsRow w.heap.size 9 1 v args.length (args.map Value.string)):
 Qbe w m (.returned (.tuple #[v,.string g,.nilIface])) w':=by subst A;exact⟨B,v,rfl,C⟩
theorem qee(s i:ByteArray)(R:Bool)(w:World)(hs:s.size<=1048576)(Z:i.size<=s.size)(h0:Lib.trimPrefix s.data.toList [40]=i.data.toList)(o:Lib.hasPrefix s.data.toList [40]=R)(r:ByteArray)(J:List ByteArray)(a:Bool)(hf:qC i R []=(r,J,a))(m:Option (List ByteArray×ByteArray))(hm:qQ (r,J,a)=m):
 Calls prog 28 #[.string s] w (Qbe w m):=by
 have N:=Xh hm;clear hm;have HF:=Xh hf;obtain⟨i0,hi,hz0,hz1,hz2⟩:=info_parts Zae;clear hf;go_enter func28,ntmps28;go_wp2_with (go_fit (Qa1 _ _ _);rintro e w'⟨rfl,rfl⟩)
 clear h0 o;go_loopw [5,6,7] (fun x y v wr=>∃(F:ByteArray) (O:Bool) (A:List ByteArray),Hid (qC F O A=(r,J,a))/\F.size+A.length<=s.size/\wr.ownsRow w.heap.size 9 1 v A.length (A.map Value.string)/\Below w.heap.size w wr/\x=.string F/\y=.bool O)
  (fun x y _ _=>if QbZ y then qch x+1 else 0)
 case atStart=>exact⟨i,R,[],HF,by simpa using Z,World.ownsRow_nil _ _ _ _,Xb,rfl,rfl⟩
 case round =>
  clear HF;obtain⟨F,O,A,E,f,C,B,rfl,rfl⟩:=hrel;cases O with
  |false =>
   have G:=E.out;unfold qC at G;simp only[Bool.false_eq_true,if_false,Prod.mk.injEq]at G;obtain⟨rfl,rfl,rfl⟩:=G;have L:Hid (m=none):=(by unfold Hid;rw[<-N.out];simp[qQ]);clear E N C;go_wp2_with (go_fit (zN _ _);rintro e w'⟨rfl,rfl⟩)
   go_ret3;exact zc5 L.out B
  |true =>
   cases hp:Lib.hasPrefix F.data.toList [41] with
   |true =>
    have G:=E.out;rw[zdk hp]at G;simp only[Prod.mk.injEq]at G;obtain⟨rfl,rfl,rfl⟩:=G;clear E;have H:(qao F).size<=maxLen:=Q6 (by have:=Qcl F;omega);have D:Hid (qQ (F,A,true)=m):=N.out;clear N;obtain⟨va,vc,rfl⟩:=Ze C;generalize hg:qao F=g at *;by_cases p:A.length<=5
    ·cases hV:(g.toList==[86]) with
     |true =>
      have M:Hid (m=some (A,g)):=(by unfold Hid;rw[<-D.out];exact qaI p hg (by simp[qZ,hV]));have hv:=Xh C;have HG:=Xh H;clear C D H;go_wp2_with (first|(go_fit (qu _ _ _);rintro e w'⟨rfl,rfl⟩)|(go_fit (zN _ _);rintro e w'⟨rfl,rfl⟩))
      go_ret3;exact Qdj M.out B hv.out
     |false =>
      cases Y:zp g.data.toList with
      |true =>
       have M:Hid (m=some (A,g)):=(by unfold Hid;rw[<-D.out];exact qaI p hg (by simp[qZ,Y]));have q:=Xh (Qak H Y);have HO:=Xh C;clear C D H Y;go_wp2_with (first|(go_fit (qu _ _ _);rintro e w'⟨rfl,rfl⟩)|(go_fit (zN _ _);rintro e w'⟨rfl,rfl⟩)|(go_fit (q.out _);rintro e h⟨rfl,I⟩))
       go_ret3;exact Qdj M.out (B.trans (I.mono B.size)) (QW HO.out I)
      |false =>
       have L:Hid (m=none):=(by unfold Hid;rw[<-D.out];exact QbB hg (by simp[qZ,Y,hV]));have q:=Xh (zar H Y);clear C D H Y;go_wp2_with (first|(go_fit (qu _ _ _);rintro e w'⟨rfl,rfl⟩)|(go_fit (zN _ _);rintro e w'⟨rfl,rfl⟩)|(go_fit (q.out _);rintro e h⟨rfl,I⟩))
       go_ret3;exact zc5 L.out (B.trans (I.mono B.size))
    ·have L:Hid (m=none):=(by unfold Hid;rw[<-D.out];exact zbC p);clear D H C;go_wp2_with (first|(go_fit (qu _ _ _);rintro e w'⟨rfl,rfl⟩)|(go_fit (zN _ _);rintro e w'⟨rfl,rfl⟩))
     go_ret3;exact zc5 L.out B
   |false =>
    cases U:zr F.data.toList with
    |zero =>
     have j:=Xh U;have b:Hid (qC F false A=(r,J,a)):=(by unfold Hid;rw[<-Zd7 hp U];exact E.out);clear U E;go_wp2_with (first|(go_fit (qu _ _ _);rintro e w'⟨rfl,rfl⟩)|(go_fit (Zc5 (Q6 (by omega)) j.out _);rintro e h⟨rfl,I⟩))
     go_roundw;case rel=>exact⟨F,false,A,b,f,QW C I,B.trans (I.mono B.size),rfl,rfl⟩
     case measure=>simp[QbZ]
    |succ n =>
     have c:=QaT F.data.toList;rw[zP,U]at c;have j:=Xh U;have b:Hid (qC (F.extract (n+1) F.size) true (A++[F.extract 0 (n+1)])=(r,J,a)):=(by unfold Hid;rw[<-Zdk hp U];exact E.out);have d:(F.extract (n+1) F.size).size=F.size-(n+1):=(by simp);have l:=Xh d;clear U E d;generalize hr2:F.extract (n+1) F.size=r2 at b l;generalize hx:F.extract 0 (n+1)=X at b;go_wp2_with (go_fit (qu _ _ _);rintro e w'⟨rfl,rfl⟩)
     (with_reducible refine(qbO (Q6 (by omega)) j.out _).mono ?_)
     rintro e h⟨rfl,I⟩;have ho:=QW C I;have S:Below w.heap.size w (h.alloc (.cells #[.string X] 9)):=(B.trans (I.mono B.size)).alloc (Xf B.size I.size) _;have c2:∀u∈[Value.string X],u.oneCell'=true:=fun u hu=>by simp at hu;subst hu;rfl
     have c3:A.length+1<=maxLen:=Q6 (by omega);have c4:(A.length+1)*16<=140737488355328:=(by omega);have c5:=S.size;have t:=Xh S;have HZ:Hid ((r2.size:Nat)+(A++[X]).length<=s.size):=(by unfold Hid;rw[l.out];simp;omega);have HM:Hid (r2.size<F.size):=(by unfold Hid;rw[l.out];omega);clear C I B S c f Z l j;go_wp2_with (at_builtin;refine wpList_append_own _ rfl _ _ 27 rfl w.heap.size 9 i0 (.string .empty) 1 16 underlying27 hi hz0 hz1 hz2 rfl (by decide) _ _ _ rfl (ho.alloc _) ⟨h.heap.size,0,none⟩ 1 1 [.string X] rfl rfl (cell_one_new _ _ _) c2 c3 c4 c5 ?_;intro v2 w3 V P _)
     have z:Below w.heap.size w w3:=t.out.grown P c5 (fun k hk=>(ho.lt k hk).1);have T:w3.ownsRow w.heap.size 9 1 v2 (A++[X]).length ((A++[X]).map Value.string):=(by simpa using V);go_roundw;case rel=>exact⟨r2,true,A++[X],b,HZ,T,z,rfl,rfl⟩
     case measure=>have:=HM.out;simp[QbZ,qch];omega
theorem zbn(s:ByteArray)(w:World)(B:s.size<=1048576):Calls prog 28 #[.string s] w (Qbe w (Zl s)):=by
 have A:(Lib.trimPrefix s.data.toList [40]).length<=s.data.toList.length:=by unfold Lib.trimPrefix;split<;>simp
 rw[zP]at A;exact qee s ⟨(Lib.trimPrefix s.data.toList [40]).toArray⟩ (Lib.hasPrefix s.data.toList [40]) w B (by show(Lib.trimPrefix s.data.toList [40]).toArray.size<=s.size;rw[List.size_toArray];exact A) rfl rfl _ _ _ rfl _ rfl
theorem QbO(N:Nat):∀(n:Nat) (r:ByteArray) (A:List ByteArray),r.size<=N->(∀x∈A,x.size<=N)->(qay n r A).1.size<=N/\∀x∈(qay n r A).2.1,x.size<=N
 |0,r,A,D,C=>⟨D,C⟩
 |n+1,r,A,D,C=>by
  unfold qay;split
  ·exact⟨D,C⟩
  ·split
   ·exact⟨D,C⟩
   ·refine QbO N n _ _ ?_ ?_
    ·rw[ByteArray.size_extract];omega
    ·intro x B;rcases List.mem_append.1 B with B|B
     ·exact C x B
     ·simp at B;subst B;rw[ByteArray.size_extract];omega
theorem Qah{s:ByteArray}{args:List ByteArray}{g:ByteArray}(h:Zl s=some (args,g)):(∀x∈args,x.size<=s.size)/\g.size<=s.size:=by
 have A:(Lib.trimPrefix s.data.toList [40]).length<=s.data.toList.length:=by unfold Lib.trimPrefix;split<;>simp
 rw[zP]at A;unfold Zl qQ at h;have D:(qC ⟨(Lib.trimPrefix s.data.toList [40]).toArray⟩ (Lib.hasPrefix s.data.toList [40]) []).1.size<=s.size/\∀x∈(qC ⟨(Lib.trimPrefix s.data.toList [40]).toArray⟩ (Lib.hasPrefix s.data.toList [40]) []).2.1,x.size<=s.size:=by
  have B:(⟨(Lib.trimPrefix s.data.toList [40]).toArray⟩:ByteArray).size<=s.size:=by show(Lib.trimPrefix s.data.toList [40]).toArray.size<=s.size;rw[List.size_toArray];exact A
  unfold qC;split
  ·exact QbO s.size _ _ _ B (fun x C=>by cases C)
  ·exact⟨B,fun x C=>by cases C⟩
 split at h
 ·injection h with h
  injection h with F G
  subst F G;refine⟨D.2,?_⟩;have E:(qao (qC ⟨(Lib.trimPrefix s.data.toList [40]).toArray⟩ (Lib.hasPrefix s.data.toList [40]) []).1).size<=(qC ⟨(Lib.trimPrefix s.data.toList [40]).toArray⟩ (Lib.hasPrefix s.data.toList [40]) []).1.size:=by
   generalize (qC ⟨(Lib.trimPrefix s.data.toList [40]).toArray⟩ (Lib.hasPrefix s.data.toList [40]) []).1=r;show(Lib.trimPrefix r.data.toList [41]).toArray.size<=r.size
   rw[List.size_toArray,<-zP r];unfold Lib.trimPrefix;split<;>simp
  exact Xf E D.1
 ·cases h
def qdJ(cs:List qa)(L S:List Str)(g:Str):Option (List Str×List Str):=if Zg cs g=0 then qq L S g else none
def Za7(cs:List qa)(L S:List Str)(g:Str):Option (List Str×List Str):=if (g.toList==[86])=true then some (L,S) else qdJ cs L S g
def ZbC(cs:List qa)(static:Bool)(cls:Str)(S:List Str):Option (List Str):=if static=true then some S else zg cs [Qc cls] S
def Zar(cs:List qa)(qb cls name type:Str)(static:Bool)(L S:List Str):Option (List Str×List Str) :=
 if zz cs qb cls name type static≠0 then none else match Zl type with
  |none=>none
  |some (args,g)=>(zg cs args.reverse S).bind fun S1=>(ZbC cs static cls S1).bind fun S2=>Za7 cs L S2 g
theorem zcm{cs:List qa}{L S:List Str}{g:Str}(h:(g.toList==[86])=true):Za7 cs L S g=some (L,S):=by unfold Za7;rw[if_pos h]
theorem Qch{cs:List qa}{L S:List Str}{g:Str}(h:(g.toList==[86])=false)(A:Zg cs g≠0):Za7 cs L S g=none:=by unfold Za7 qdJ;rw[if_neg (by rw[h];decide),if_neg A]
theorem Zbv{cs:List qa}{L S:List Str}{g:Str}(h:(g.toList==[86])=false)(A:Zg cs g=0)(B:QP S g=none):Za7 cs L S g=none:=by unfold Za7 qdJ;rw[if_neg (by rw[h];decide),if_pos A];exact qA B
theorem qbv{cs:List qa}{L S S':List Str}{g:Str}(h:(g.toList==[86])=false)(A:Zg cs g=0)(B:QP S g=some S'):Za7 cs L S g=some (L,S'):=by unfold Za7 qdJ;rw[if_neg (by rw[h];decide),if_pos A];exact Zz B
theorem Qh.grown{base:Nat}{w w':World}{A B:Nat}{qb Zb:Str}{C D v:Value}{L S:List Str}(h:Qh base w A B qb Zb C D L S)(E:w.grownBy w' v.ownBlock)(F:∀g,v.ownBlock=some g->Qa6 A C D g):Qh base w' A B qb Zb C D L S :=
 ⟨h.blk.grown E (fun e=>(F A e).1 rfl),h.locals.kept E (by
  cases G:C.ownBlock with
  |none=>exact Or.inl rfl
  |some g=>exact Or.inr (fun e=>(F g e.symm).2.1 G)),h.stack.kept E (by
  cases G:D.ownBlock with
  |none=>exact Or.inl rfl
  |some g=>exact Or.inr (fun e=>(F g e.symm).2.2 G)),h.apart,h.lfar,h.sfar,h.low⟩
theorem SA.grown{N w:World}{B:Nat}{l:List qa}{base:Nat}{H:World}{C D:Value}{I:Nat}{qb Zb:Str}{E:Nat}{O:List Value}{wx:World}{J M v:Value}{L S:List Str}(T:SA N w B l base H C D I qb Zb E O wx J M L S){w':World}(F:wx.grownBy w' v.ownBlock)(U:base<=wx.heap.size)(G:∀g,v.ownBlock=some g->H.heap.size<=g/\base<=g/\g≠E/\Qa6 I J M g):SA N w B l base H C D I qb Zb E O w' J M L S :=
 have P:Below base wx w':=(Below.refl base wx).grown F U (fun g e=>(G g e).2.1);⟨T.env.step P,T.step.grown F (fun g e=>(G g e).2.2.2),T.box.grown F (fun e=>(G E e).2.2.1 rfl),T.apart,T.below.trans P,⟨T.kp.1,fun g A R=>⟨(F.block g (Nat.lt_of_lt_of_le A T.below.size) (fun e=>absurd (G g e.symm).1 (Nat.not_le_of_lt A))).trans (T.kp.2 g A R).1,(T.kp.2 g A R).2⟩⟩⟩
theorem QC{w:World}{a:Addr}{b:Nat}{v0 A B C D E F G:Value}(h:a.block≠b):((((((((w.setCell ⟨b,0,none⟩ v0).setCell ⟨b,1,none⟩ A).setCell ⟨b,2,none⟩ B).setCell ⟨b,3,none⟩ C).setCell ⟨b,4,none⟩ D).setCell ⟨b,5,none⟩ E).setCell ⟨b,6,none⟩ F).setCell ⟨b,7,none⟩ G).cell? a=w.cell? a:=World.cell?_of_block (by rw[Xk _ _ _ _ h,Xk _ _ _ _ h,Xk _ _ _ _ h,Xk _ _ _ _ h,Xk _ _ _ _ h,Xk _ _ _ _ h,Xk _ _ _ _ h,Xk _ _ _ _ h])
theorem qe5(z w:World)(B:Nat)(l:List qa)(base:Nat)(H:World)(hE:Env z w B l base H)(O:Nat)(qb Zb:Str)(x y:Value)(L S:List Str)(h:Qh base H O B qb Zb x y L S)(m a b:Int)(C cls name:Str)(D:Bool)(hc:cls.size<=1048576)(aA:qb.size<=maxLen)(hf:zz (Za l) qb cls name C D≠0):
 Calls prog 175 #[.pointer (some ⟨O,0,none⟩),.agg #[.int .i64 m,.int .i64 a,.int .i64 b,.string C,.string cls,.string name],.bool D] H (qf base H O B qb Zb x y (none)):=by
 have P:SA z w B l base H x y O qb Zb H.heap.size [.int .i64 m,.int .i64 a,.int .i64 b,.string C,.string cls,.string name] (H.alloc (.cells #[.int .i64 m,.int .i64 a,.int .i64 b,.string C,.string cls,.string name] 34)) x y L S:=SA.new hE h _;obtain⟨i0,i1,i2,i3,i4,i5⟩:=P.cells;have HF:Hid (∀wx,_):=fun wx=>Zx wx
 have q0:(H.alloc (.cells #[.int .i64 m,.int .i64 a,.int .i64 b,.string C,.string cls,.string name] 34)).cell? ⟨O,0,none⟩=some (.map (some B)):=P.step.blk.cell 0;have q1:(H.alloc (.cells #[.int .i64 m,.int .i64 a,.int .i64 b,.string C,.string cls,.string name] 34)).cell? ⟨O,1,none⟩=some (.string qb):=P.step.blk.cell 1;obtain⟨G,p⟩:∃G,H.alloc (.cells #[.int .i64 m,.int .i64 a,.int .i64 b,.string C,.string cls,.string name] 34)=G:=⟨_,rfl⟩;rw[p]at P i0 i1 i2 i3 i4 i5 q0 q1;have F:=Xh P;have R:Hid (∀wx,Below G.heap.size G wx->Calls prog 24 #[.map (some B),.string qb,.string cls,.string name,.string C,.bool D] wx fun e w'=>(∃s U V X Y Z c d f g J M N,e=.returned (.tuple #[.string s,.agg #[.string U,.string V,.bool X,.bool Y,.bool Z,.int .i64 c,.slice d f g,.slice J M N],Qx (zz (Za l) qb cls name C D)]))/\Below wx.heap.size wx w'/\Below G.heap.size G w'/\w'.cell? ⟨O,0,none⟩=some (.map (some B))/\w'.cell? ⟨O,1,none⟩=some (.string qb)/\w'.cell? ⟨H.heap.size,3,none⟩=some (.string C)/\w'.cell? ⟨H.heap.size,4,none⟩=some (.string cls)/\w'.cell? ⟨H.heap.size,5,none⟩=some (.string name)):=fun wx hb =>
  (zbv z wx B l (F.out.over hb).env.map qb cls name C D (Xf hc (by decide)) aA).mono fun e w' ⟨⟨s,v,he,U,V,X,Y,Z,c,d,f,g,J,M,N,hm⟩,hB⟩=>by
   have o:=Qa hb Xl hB;have T2:=F.out.over o;obtain⟨_,_,_,q,r,t⟩:=T2.cells;subst hm;exact⟨⟨s,U,V,X,Y,Z,c,d,f,g,J,M,N,he⟩,hB,o,T2.step.blk.cell 0,T2.step.blk.cell 1,q,r,t⟩
 have E:=P.step.blk.lt;have I:=P.step.low;have A:=P.box.lt;rcases zB (zz (Za l) qb cls name C D) with⟨_,hz⟩|⟨hv,_⟩
 ·exact absurd hz hf
 rw[hv]at R;clear hv;generalize zz (Za l) qb cls name C D=n at *;go_enter func175,ntmps175;go_upto_region 1 with fail;clear P h hE p;go_region_held3 (fun w'=>w'.cell? ⟨O,0,none⟩=some (.map (some B))/\w'.cell? ⟨O,1,none⟩=some (.string qb)/\w'.cell? ⟨H.heap.size,3,none⟩=some (.string C)/\w'.cell? ⟨H.heap.size,4,none⟩=some (.string cls)/\w'.cell? ⟨H.heap.size,5,none⟩=some (.string name)) (first|go_keep|exact⟨(QC (a:=⟨O,0,none⟩) (Nat.ne_of_lt E)).trans k0,(QC (a:=⟨O,1,none⟩) (Nat.ne_of_lt E)).trans k1,(QC (a:=⟨H.heap.size,3,none⟩) (Nat.ne_of_lt A)).trans q,(QC (a:=⟨H.heap.size,4,none⟩) (Nat.ne_of_lt A)).trans r,(QC (a:=⟨H.heap.size,5,none⟩) (Nat.ne_of_lt A)).trans t⟩)
  (first
   |(go_fit (R.out _ ?_);(first|exact Xb.drew|exact(Xb.alloc Xl _).drew);rintro e w2⟨⟨s,U,V,X,Y,Z,c,d,f,g,J,M,N,rfl⟩,hB2,i,k0,k1,q,r,t⟩;(first|(have T:Blk w2 G.heap.size 39 [.string ⟨#[]⟩,.string ⟨#[]⟩,.bool false,.bool false,.bool false,.int .i64 0,.slice none 0 0,.slice none 0 0]:=Blk.step (w:=(G.alloc (.cells #[.string ⟨#[]⟩,.string ⟨#[]⟩,.bool false,.bool false,.bool false,.int .i64 0,.slice none 0 0,.slice none 0 0] 39)).drew) (Blk.new G 39 [.string ⟨#[]⟩,.string ⟨#[]⟩,.bool false,.bool false,.bool false,.int .i64 0,.slice none 0 0,.slice none 0 0]) hB2;obtain⟨x0,x1,x2,x3,x4,x5,x6,x7⟩:=T.cells8;(have f0:=T.frozen 0);(have f1:=T.frozen 1);(have f2:=T.frozen 2);(have f3:=T.frozen 3);(have f4:=T.frozen 4);(have f5:=T.frozen 5);(have f6:=T.frozen 6);(have f7:=T.frozen 7))|skip)))
 ·have j:=(F.out.over i).alloc (.cells #[.string U,.string V,.bool X,.bool Y,.bool Z,.int .i64 c,.slice d f g,.slice J M N] 39);generalize (w2.alloc (.cells #[.string U,.string V,.bool X,.bool Y,.bool Z,.int .i64 c,.slice d f g,.slice J M N] 39))=W at *;have k:=Xh j;obtain⟨i0,i1,i2,i3,i4,i5⟩:=j.cells;clear j k0 k1 q r t F R q0 q1;go_wp2_with (first
   |(go_fit (HF.out _);rintro e wq⟨rfl,rfl⟩))
  exact And.intro rfl (k.out.stop Xb rfl)
 ·have j:=(((((((((F.out.over i).aside (b:=G.heap.size) (Nat.le_of_lt A) (Xf I (Nat.le_of_lt E)) (Nat.ne_of_gt A) (F.out.step.fresh Xl) 0 (.string U)).aside (b:=G.heap.size) (Nat.le_of_lt A) (Xf I (Nat.le_of_lt E)) (Nat.ne_of_gt A) (F.out.step.fresh Xl) 1 (.string V)).aside (b:=G.heap.size) (Nat.le_of_lt A) (Xf I (Nat.le_of_lt E)) (Nat.ne_of_gt A) (F.out.step.fresh Xl) 2 (.bool X)).aside (b:=G.heap.size) (Nat.le_of_lt A) (Xf I (Nat.le_of_lt E)) (Nat.ne_of_gt A) (F.out.step.fresh Xl) 3 (.bool Y)).aside (b:=G.heap.size) (Nat.le_of_lt A) (Xf I (Nat.le_of_lt E)) (Nat.ne_of_gt A) (F.out.step.fresh Xl) 4 (.bool Z)).aside (b:=G.heap.size) (Nat.le_of_lt A) (Xf I (Nat.le_of_lt E)) (Nat.ne_of_gt A) (F.out.step.fresh Xl) 5 (.int .i64 c)).aside (b:=G.heap.size) (Nat.le_of_lt A) (Xf I (Nat.le_of_lt E)) (Nat.ne_of_gt A) (F.out.step.fresh Xl) 6 (.slice d f g)).aside (b:=G.heap.size) (Nat.le_of_lt A) (Xf I (Nat.le_of_lt E)) (Nat.ne_of_gt A) (F.out.step.fresh Xl) 7 (.slice J M N));generalize ((((((((w2.setCell ⟨G.heap.size,0,none⟩ (.string U)).setCell ⟨G.heap.size,1,none⟩ (.string V)).setCell ⟨G.heap.size,2,none⟩ (.bool X)).setCell ⟨G.heap.size,3,none⟩ (.bool Y)).setCell ⟨G.heap.size,4,none⟩ (.bool Z)).setCell ⟨G.heap.size,5,none⟩ (.int .i64 c)).setCell ⟨G.heap.size,6,none⟩ (.slice d f g)).setCell ⟨G.heap.size,7,none⟩ (.slice J M N))=W at *;have k:=Xh j;obtain⟨i0,i1,i2,i3,i4,i5⟩:=j.cells;clear j k0 k1 q r t F R q0 q1;go_wp2_with (first
   |(go_fit (HF.out _);rintro e wq⟨rfl,rfl⟩))
  exact And.intro rfl (k.out.stop Xb rfl)
theorem Qfl(w0 w:World)(B:Nat)(l:List qa)(base:Nat)(Z:World)(hE:Env w0 w B l base Z)(z:Nat)(qb Zb:Str)(lv sv:Value)(L S:List Str)(h:Qh base Z z B qb Zb lv sv L S)(i:ql (Za l) S)(op a b:Int)(C cls name:Str)(hc:cls.size<=1048576)(hfr:qb.size<=maxLen)(hty:C.size<=1048576)(hf:zz (Za l) qb cls name C true=0):
 Calls prog 175 #[.pointer (some ⟨z,0,none⟩),.agg #[.int .i64 op,.int .i64 a,.int .i64 b,.string C,.string cls,.string name],.bool true] Z (qf base Z z B qb Zb lv sv (Zm (match Zl C with|none=>none|some (args,g)=>(zg (Za l) args.reverse S).bind fun f=>(ZbC (Za l) true cls f).bind fun S2=>Za7 (Za l) L S2 g))):=by
 have T0:SA w0 w B l base Z lv sv z qb Zb Z.heap.size [.int .i64 op,.int .i64 a,.int .i64 b,.string C,.string cls,.string name] (Z.alloc (.cells #[.int .i64 op,.int .i64 a,.int .i64 b,.string C,.string cls,.string name] 34)) lv sv L S:=SA.new hE h _;obtain⟨i0,i1,i2,i3,i4,i5⟩:=T0.cells;have HT:Hid (∀wx,_):=fun wx=>qH wx
 have HF:Hid (∀wx,_):=fun wx=>Zx wx
 have q0:(Z.alloc (.cells #[.int .i64 op,.int .i64 a,.int .i64 b,.string C,.string cls,.string name] 34)).cell? ⟨z,0,none⟩=some (.map (some B)):=T0.step.blk.cell 0;have q1:(Z.alloc (.cells #[.int .i64 op,.int .i64 a,.int .i64 b,.string C,.string cls,.string name] 34)).cell? ⟨z,1,none⟩=some (.string qb):=T0.step.blk.cell 1;obtain⟨O,hw1⟩:∃O,Z.alloc (.cells #[.int .i64 op,.int .i64 a,.int .i64 b,.string C,.string cls,.string name] 34)=O:=⟨_,rfl⟩;rw[hw1]at T0 i0 i1 i2 i3 i4 i5 q0 q1;have H:=Xh T0;have HFO:Hid (∀wx,Below O.heap.size O wx->Calls prog 24 #[.map (some B),.string qb,.string cls,.string name,.string C,.bool true] wx fun e w'=>(∃s m1 m2 m3 m4 m5 m6 m7 m8 m9 o q t,e=.returned (.tuple #[.string s,.agg #[.string m1,.string m2,.bool m3,.bool m4,.bool m5,.int .i64 m6,.slice m7 m8 m9,.slice o q t],Qx (zz (Za l) qb cls name C true)]))/\Below wx.heap.size wx w'/\Below O.heap.size O w'/\w'.cell? ⟨z,0,none⟩=some (.map (some B))/\w'.cell? ⟨z,1,none⟩=some (.string qb)/\w'.cell? ⟨Z.heap.size,3,none⟩=some (.string C)/\w'.cell? ⟨Z.heap.size,4,none⟩=some (.string cls)/\w'.cell? ⟨Z.heap.size,5,none⟩=some (.string name)):=fun wx X =>
  (zbv w0 wx B l (H.out.over X).env.map qb cls name C true (Xf hc (by decide)) hfr).mono fun e w' ⟨⟨s,v,he,m1,m2,m3,m4,m5,m6,m7,m8,m9,o,q,t,hm⟩,j⟩=>by
   have hb':=Qa X Xl j;have T2:=H.out.over hb';obtain⟨_,_,_,k3,k4,k5⟩:=T2.cells;subst hm;exact⟨⟨s,m1,m2,m3,m4,m5,m6,m7,m8,m9,o,q,t,he⟩,j,hb',T2.step.blk.cell 0,T2.step.blk.cell 1,k3,k4,k5⟩
 have G:=T0.step.blk.lt;have m:=T0.step.low;have A:=T0.box.lt;have HD:Hid (∀wx,_):=fun wx=>zbn C wx hty
 unfold Qbe at HD;obtain⟨res,hres⟩:∃r,Zm (match Zl C with|none=>none|some (args,g)=>(zg (Za l) args.reverse S).bind fun f=>(ZbC (Za l) true cls f).bind fun S2=>Za7 (Za l) L S2 g)=r:=⟨_,rfl⟩;have V:=Xh hres;rw[hres];clear hres;rw[hf,show Qx 0=.nilIface from rfl]at HFO;clear hf;go_enter func175,ntmps175;go_upto_region 1 with fail;clear T0 h hE hw1;go_region_held3 (fun w'=>w'.cell? ⟨z,0,none⟩=some (.map (some B))/\w'.cell? ⟨z,1,none⟩=some (.string qb)/\w'.cell? ⟨Z.heap.size,3,none⟩=some (.string C)/\w'.cell? ⟨Z.heap.size,4,none⟩=some (.string cls)/\w'.cell? ⟨Z.heap.size,5,none⟩=some (.string name)) (first|go_keep|exact⟨(QC (a:=⟨z,0,none⟩) (Nat.ne_of_lt G)).trans k0,(QC (a:=⟨z,1,none⟩) (Nat.ne_of_lt G)).trans k1,(QC (a:=⟨Z.heap.size,3,none⟩) (Nat.ne_of_lt A)).trans k3,(QC (a:=⟨Z.heap.size,4,none⟩) (Nat.ne_of_lt A)).trans k4,(QC (a:=⟨Z.heap.size,5,none⟩) (Nat.ne_of_lt A)).trans k5⟩)
  (first
   |(go_fit (HFO.out _ ?_);(first|exact Xb.drew|exact(Xb.alloc Xl _).drew);rintro e w2⟨⟨s,m1,m2,m3,m4,m5,m6,m7,m8,m9,o,q,t,rfl⟩,hB2,hB12,k0,k1,k3,k4,k5⟩;(first|(have KB:Blk w2 O.heap.size 39 [.string ⟨#[]⟩,.string ⟨#[]⟩,.bool false,.bool false,.bool false,.int .i64 0,.slice none 0 0,.slice none 0 0]:=Blk.step (w:=(O.alloc (.cells #[.string ⟨#[]⟩,.string ⟨#[]⟩,.bool false,.bool false,.bool false,.int .i64 0,.slice none 0 0,.slice none 0 0] 39)).drew) (Blk.new O 39 [.string ⟨#[]⟩,.string ⟨#[]⟩,.bool false,.bool false,.bool false,.int .i64 0,.slice none 0 0,.slice none 0 0]) hB2;obtain⟨x0,x1,x2,x3,x4,x5,x6,x7⟩:=KB.cells8;(have f0:=KB.frozen 0);(have f1:=KB.frozen 1);(have f2:=KB.frozen 2);(have f3:=KB.frozen 3);(have f4:=KB.frozen 4);(have f5:=KB.frozen 5);(have f6:=KB.frozen 6);(have f7:=KB.frozen 7))|skip)))
 ·have Tw:=(H.out.over hB12).alloc (.cells #[.string m1,.string m2,.bool m3,.bool m4,.bool m5,.int .i64 m6,.slice m7 m8 m9,.slice o q t] 39);generalize (w2.alloc (.cells #[.string m1,.string m2,.bool m3,.bool m4,.bool m5,.int .i64 m6,.slice m7 m8 m9,.slice o q t] 39))=W at *;have D:=Xh Tw;obtain⟨i0,i1,i2,i3,i4,i5⟩:=Tw.cells;clear Tw k0 k1 k3 k4 k5 H HFO q0 q1;go_upto_region 3 with(first
   |(go_fit (HT.out _);rintro e wq⟨rfl,rfl⟩))
  cases hm:Zl C with
  |none =>
   rw[hm]at V HD;have hre:=V.out;go_wp2_with (first
    |(go_fit (HD.out _);rintro e w3⟨c,rfl⟩)
    |(go_fit (HF.out _);rintro e wq⟨rfl,rfl⟩))
   exact And.intro rfl (D.out.stop (D.out.step.over c) hre.symm)
  |some p =>
   obtain⟨args,g⟩:=p;rw[hm]at V HD;obtain⟨hsa,n⟩:=Qah hm;have hl5:=Zaw hm;have hgs:g.size<=maxLen:=Xf n (Xf hty (by decide));have I:∀k∈args.reverse,k.size<=maxLen:=fun k hk=>Xf (hsa k (List.mem_reverse.1 hk)) (Xf hty (by decide))
   have J:args.reverse.length<=4194304:=(by rw[List.length_reverse];omega);have hl6:args.length<=9223372036854775807:=(by omega);dsimp only at V;go_upto_region 5 with(first
    |(go_fit (HD.out _);rintro e w3⟨c,v,rfl,d⟩;obtain⟨vp,vc,rfl⟩:=Ze d)
    |(go_fit (HT.out _);rintro e wq⟨rfl,rfl⟩))
   have T3:=D.out.over c;have F:∀b,(Value.slice vp args.length vc).ownBlock=some b->W.heap.size<=b/\b<w3.heap.size:=fun b X=>d.lt b X
   go_upto_region 6 with(first
    |(go_fit (zbf d rfl hl6);rintro e w4⟨rfl,hO4,hg4⟩))
   have M:=T3.grown hg4 T3.step.size (fun b X=>⟨Xf D.out.below.size (F b X).1,Xf D.out.step.size (F b X).1,Nat.ne_of_gt (Nat.lt_of_lt_of_le D.out.box.lt (F b X).1),D.out.step.fresh (F b X).1⟩);have N:QaI w4 (.slice vp args.length vc) args.reverse z lv sv:=⟨Zk (l:=args.reverse) (by rw[List.length_reverse];exact hO4),fun b X=>⟨(hO4.lt b X).2,D.out.step.fresh (F b X).1⟩⟩;obtain⟨i0,i1,i2,i3,i4,i5⟩:=M.cells;clear T3 D c d hg4 HD hsa n hl5 hl6 hm;cases hV:(g.toList==[86]) with
   |true =>
    go_wp2_with (first
     |(go_at_call 169;rcases hq0:zg (Za l) args.reverse S with _|f;(with_reducible refine(M.takeAN i args.reverse _ N I J hq0).mono ?_);(rintro e w5 E;obtain⟨j,rfl⟩:=E.no';exact And.intro rfl (M.stop j (V.out.symm.trans (qd (zq hq0)))));(with_reducible refine(M.takeAY i args.reverse _ N I J hq0).mono ?_);rintro e w5 E;obtain⟨R,rfl,lv5,sv5,T,U⟩:=E.ok';(have Y:=M.next R T U);(have hN5:=zi hq0 i);obtain⟨i0,i1,i2,i3,i4,i5⟩:=Y.cells))
    go_end0;exact Y.done (V.out.symm.trans (Zj ((Zf hq0).trans ((Zf (x:=f) rfl).trans (zcm hV)))))
   |false =>
    by_cases P:Zg (Za l) g=0
    ·go_wp2_with (first
      |(go_at_call 169;rcases hq0:zg (Za l) args.reverse S with _|f;(with_reducible refine(M.takeAN i args.reverse _ N I J hq0).mono ?_);(rintro e w5 E;obtain⟨j,rfl⟩:=E.no';exact And.intro rfl (M.stop j (V.out.symm.trans (qd (zq hq0)))));(with_reducible refine(M.takeAY i args.reverse _ N I J hq0).mono ?_);rintro e w5 E;obtain⟨R,rfl,lv5,sv5,T,U⟩:=E.ok';(have Y:=M.next R T U);(have hN5:=zi hq0 i);obtain⟨i0,i1,i2,i3,i4,i5⟩:=Y.cells)
      |(go_fit (Y.knowsY g hgs P);rintro e w7 E;obtain⟨y,rfl,lv7,sv7,hS7,hk7⟩:=E.ok';(have T7:=Y.next y hS7 hk7))
      |(go_at_call 166;rcases hq2:QP f g with _|S3;(with_reducible refine(T7.putN g hq2).mono ?_);(rintro e w8 E;obtain⟨j,rfl⟩:=E.no';exact And.intro rfl (T7.stop j (V.out.symm.trans (qd ((Zf hq0).trans ((Zf (x:=f) rfl).trans (Zbv hV P hq2)))))));(with_reducible refine(T7.putY g hq2).mono ?_);rintro e w8 E;obtain⟨hB8,rfl,lv8,sv8,hS8,hk8⟩:=E.ok';(have T8:=T7.next hB8 hS8 hk8)))
     go_end0;exact T8.done (V.out.symm.trans (Zj ((Zf hq0).trans ((Zf (x:=f) rfl).trans (qbv hV P hq2)))))
    ·go_wp2_with (first
      |(go_at_call 169;rcases hq0:zg (Za l) args.reverse S with _|f;(with_reducible refine(M.takeAN i args.reverse _ N I J hq0).mono ?_);(rintro e w5 E;obtain⟨j,rfl⟩:=E.no';exact And.intro rfl (M.stop j (V.out.symm.trans (qd (zq hq0)))));(with_reducible refine(M.takeAY i args.reverse _ N I J hq0).mono ?_);rintro e w5 E;obtain⟨R,rfl,lv5,sv5,T,U⟩:=E.ok';(have Y:=M.next R T U);(have hN5:=zi hq0 i);obtain⟨i0,i1,i2,i3,i4,i5⟩:=Y.cells)
      |(go_fit (Y.knowsN g hgs P);rintro e w7 E;obtain⟨y,rfl⟩:=E.no'))
     exact And.intro rfl (Y.stop y (V.out.symm.trans (qd ((Zf hq0).trans ((Zf (x:=f) rfl).trans (Qch hV P))))))
 ·have Tw:=(((((((((H.out.over hB12).aside (b:=O.heap.size) (Nat.le_of_lt A) (Xf m (Nat.le_of_lt G)) (Nat.ne_of_gt A) (H.out.step.fresh Xl) 0 (.string m1)).aside (b:=O.heap.size) (Nat.le_of_lt A) (Xf m (Nat.le_of_lt G)) (Nat.ne_of_gt A) (H.out.step.fresh Xl) 1 (.string m2)).aside (b:=O.heap.size) (Nat.le_of_lt A) (Xf m (Nat.le_of_lt G)) (Nat.ne_of_gt A) (H.out.step.fresh Xl) 2 (.bool m3)).aside (b:=O.heap.size) (Nat.le_of_lt A) (Xf m (Nat.le_of_lt G)) (Nat.ne_of_gt A) (H.out.step.fresh Xl) 3 (.bool m4)).aside (b:=O.heap.size) (Nat.le_of_lt A) (Xf m (Nat.le_of_lt G)) (Nat.ne_of_gt A) (H.out.step.fresh Xl) 4 (.bool m5)).aside (b:=O.heap.size) (Nat.le_of_lt A) (Xf m (Nat.le_of_lt G)) (Nat.ne_of_gt A) (H.out.step.fresh Xl) 5 (.int .i64 m6)).aside (b:=O.heap.size) (Nat.le_of_lt A) (Xf m (Nat.le_of_lt G)) (Nat.ne_of_gt A) (H.out.step.fresh Xl) 6 (.slice m7 m8 m9)).aside (b:=O.heap.size) (Nat.le_of_lt A) (Xf m (Nat.le_of_lt G)) (Nat.ne_of_gt A) (H.out.step.fresh Xl) 7 (.slice o q t));generalize ((((((((w2.setCell ⟨O.heap.size,0,none⟩ (.string m1)).setCell ⟨O.heap.size,1,none⟩ (.string m2)).setCell ⟨O.heap.size,2,none⟩ (.bool m3)).setCell ⟨O.heap.size,3,none⟩ (.bool m4)).setCell ⟨O.heap.size,4,none⟩ (.bool m5)).setCell ⟨O.heap.size,5,none⟩ (.int .i64 m6)).setCell ⟨O.heap.size,6,none⟩ (.slice m7 m8 m9)).setCell ⟨O.heap.size,7,none⟩ (.slice o q t))=W at *;have D:=Xh Tw;obtain⟨i0,i1,i2,i3,i4,i5⟩:=Tw.cells;clear Tw k0 k1 k3 k4 k5 H HFO q0 q1;go_upto_region 3 with(first
   |(go_fit (HT.out _);rintro e wq⟨rfl,rfl⟩))
  cases hm:Zl C with
  |none =>
   rw[hm]at V HD;have hre:=V.out;go_wp2_with (first
    |(go_fit (HD.out _);rintro e w3⟨c,rfl⟩)
    |(go_fit (HF.out _);rintro e wq⟨rfl,rfl⟩))
   exact And.intro rfl (D.out.stop (D.out.step.over c) hre.symm)
  |some p =>
   obtain⟨args,g⟩:=p;rw[hm]at V HD;obtain⟨hsa,n⟩:=Qah hm;have hl5:=Zaw hm;have hgs:g.size<=maxLen:=Xf n (Xf hty (by decide));have I:∀k∈args.reverse,k.size<=maxLen:=fun k hk=>Xf (hsa k (List.mem_reverse.1 hk)) (Xf hty (by decide))
   have J:args.reverse.length<=4194304:=(by rw[List.length_reverse];omega);have hl6:args.length<=9223372036854775807:=(by omega);dsimp only at V;go_upto_region 5 with(first
    |(go_fit (HD.out _);rintro e w3⟨c,v,rfl,d⟩;obtain⟨vp,vc,rfl⟩:=Ze d)
    |(go_fit (HT.out _);rintro e wq⟨rfl,rfl⟩))
   have T3:=D.out.over c;have F:∀b,(Value.slice vp args.length vc).ownBlock=some b->W.heap.size<=b/\b<w3.heap.size:=fun b X=>d.lt b X
   go_upto_region 6 with(first
    |(go_fit (zbf d rfl hl6);rintro e w4⟨rfl,hO4,hg4⟩))
   have M:=T3.grown hg4 T3.step.size (fun b X=>⟨Xf D.out.below.size (F b X).1,Xf D.out.step.size (F b X).1,Nat.ne_of_gt (Nat.lt_of_lt_of_le D.out.box.lt (F b X).1),D.out.step.fresh (F b X).1⟩);have N:QaI w4 (.slice vp args.length vc) args.reverse z lv sv:=⟨Zk (l:=args.reverse) (by rw[List.length_reverse];exact hO4),fun b X=>⟨(hO4.lt b X).2,D.out.step.fresh (F b X).1⟩⟩;obtain⟨i0,i1,i2,i3,i4,i5⟩:=M.cells;clear T3 D c d hg4 HD hsa n hl5 hl6 hm;cases hV:(g.toList==[86]) with
   |true =>
    go_wp2_with (first
     |(go_at_call 169;rcases hq0:zg (Za l) args.reverse S with _|f;(with_reducible refine(M.takeAN i args.reverse _ N I J hq0).mono ?_);(rintro e w5 E;obtain⟨j,rfl⟩:=E.no';exact And.intro rfl (M.stop j (V.out.symm.trans (qd (zq hq0)))));(with_reducible refine(M.takeAY i args.reverse _ N I J hq0).mono ?_);rintro e w5 E;obtain⟨R,rfl,lv5,sv5,T,U⟩:=E.ok';(have Y:=M.next R T U);(have hN5:=zi hq0 i);obtain⟨i0,i1,i2,i3,i4,i5⟩:=Y.cells))
    go_end0;exact Y.done (V.out.symm.trans (Zj ((Zf hq0).trans ((Zf (x:=f) rfl).trans (zcm hV)))))
   |false =>
    by_cases P:Zg (Za l) g=0
    ·go_wp2_with (first
      |(go_at_call 169;rcases hq0:zg (Za l) args.reverse S with _|f;(with_reducible refine(M.takeAN i args.reverse _ N I J hq0).mono ?_);(rintro e w5 E;obtain⟨j,rfl⟩:=E.no';exact And.intro rfl (M.stop j (V.out.symm.trans (qd (zq hq0)))));(with_reducible refine(M.takeAY i args.reverse _ N I J hq0).mono ?_);rintro e w5 E;obtain⟨R,rfl,lv5,sv5,T,U⟩:=E.ok';(have Y:=M.next R T U);(have hN5:=zi hq0 i);obtain⟨i0,i1,i2,i3,i4,i5⟩:=Y.cells)
      |(go_fit (Y.knowsY g hgs P);rintro e w7 E;obtain⟨y,rfl,lv7,sv7,hS7,hk7⟩:=E.ok';(have T7:=Y.next y hS7 hk7))
      |(go_at_call 166;rcases hq2:QP f g with _|S3;(with_reducible refine(T7.putN g hq2).mono ?_);(rintro e w8 E;obtain⟨j,rfl⟩:=E.no';exact And.intro rfl (T7.stop j (V.out.symm.trans (qd ((Zf hq0).trans ((Zf (x:=f) rfl).trans (Zbv hV P hq2)))))));(with_reducible refine(T7.putY g hq2).mono ?_);rintro e w8 E;obtain⟨hB8,rfl,lv8,sv8,hS8,hk8⟩:=E.ok';(have T8:=T7.next hB8 hS8 hk8)))
     go_end0;exact T8.done (V.out.symm.trans (Zj ((Zf hq0).trans ((Zf (x:=f) rfl).trans (qbv hV P hq2)))))
    ·go_wp2_with (first
      |(go_at_call 169;rcases hq0:zg (Za l) args.reverse S with _|f;(with_reducible refine(M.takeAN i args.reverse _ N I J hq0).mono ?_);(rintro e w5 E;obtain⟨j,rfl⟩:=E.no';exact And.intro rfl (M.stop j (V.out.symm.trans (qd (zq hq0)))));(with_reducible refine(M.takeAY i args.reverse _ N I J hq0).mono ?_);rintro e w5 E;obtain⟨R,rfl,lv5,sv5,T,U⟩:=E.ok';(have Y:=M.next R T U);(have hN5:=zi hq0 i);obtain⟨i0,i1,i2,i3,i4,i5⟩:=Y.cells)
      |(go_fit (Y.knowsN g hgs P);rintro e w7 E;obtain⟨y,rfl⟩:=E.no'))
     exact And.intro rfl (Y.stop y (V.out.symm.trans (qd ((Zf hq0).trans ((Zf (x:=f) rfl).trans (Qch hV P))))))
theorem zfm(w0 w:World)(B:Nat)(l:List qa)(base:Nat)(n:World)(hE:Env w0 w B l base n)(sb:Nat)(qb Zb:Str)(lv sv:Value)(L S:List Str)(h:Qh base n sb B qb Zb lv sv L S)(t:ql (Za l) S)(op a b:Int)(D cls name:Str)(hc:cls.size<=1048576)(hfr:qb.size<=maxLen)(hty:D.size<=1048576)(hf:zz (Za l) qb cls name D false=0):
 Calls prog 175 #[.pointer (some ⟨sb,0,none⟩),.agg #[.int .i64 op,.int .i64 a,.int .i64 b,.string D,.string cls,.string name],.bool false] n (qf base n sb B qb Zb lv sv (Zm (match Zl D with|none=>none|some (args,g)=>(zg (Za l) args.reverse S).bind fun S1=>(ZbC (Za l) false cls S1).bind fun S2=>Za7 (Za l) L S2 g))):=by
 have T0:SA w0 w B l base n lv sv sb qb Zb n.heap.size [.int .i64 op,.int .i64 a,.int .i64 b,.string D,.string cls,.string name] (n.alloc (.cells #[.int .i64 op,.int .i64 a,.int .i64 b,.string D,.string cls,.string name] 34)) lv sv L S:=SA.new hE h _;obtain⟨i0,i1,i2,i3,i4,i5⟩:=T0.cells;have HT:Hid (∀wx,_):=fun wx=>qH wx
 have HF:Hid (∀wx,_):=fun wx=>Zx wx
 have q0:(n.alloc (.cells #[.int .i64 op,.int .i64 a,.int .i64 b,.string D,.string cls,.string name] 34)).cell? ⟨sb,0,none⟩=some (.map (some B)):=T0.step.blk.cell 0;have q1:(n.alloc (.cells #[.int .i64 op,.int .i64 a,.int .i64 b,.string D,.string cls,.string name] 34)).cell? ⟨sb,1,none⟩=some (.string qb):=T0.step.blk.cell 1;obtain⟨X,hw1⟩:∃X,n.alloc (.cells #[.int .i64 op,.int .i64 a,.int .i64 b,.string D,.string cls,.string name] 34)=X:=⟨_,rfl⟩;rw[hw1]at T0 i0 i1 i2 i3 i4 i5 q0 q1;have M:=Xh T0;have HFO:Hid (∀wx,Below X.heap.size X wx->Calls prog 24 #[.map (some B),.string qb,.string cls,.string name,.string D,.bool false] wx fun e w'=>(∃s m1 m2 m3 m4 m5 m6 m7 m8 m9 z aA aB,e=.returned (.tuple #[.string s,.agg #[.string m1,.string m2,.bool m3,.bool m4,.bool m5,.int .i64 m6,.slice m7 m8 m9,.slice z aA aB],Qx (zz (Za l) qb cls name D false)]))/\Below wx.heap.size wx w'/\Below X.heap.size X w'/\w'.cell? ⟨sb,0,none⟩=some (.map (some B))/\w'.cell? ⟨sb,1,none⟩=some (.string qb)/\w'.cell? ⟨n.heap.size,3,none⟩=some (.string D)/\w'.cell? ⟨n.heap.size,4,none⟩=some (.string cls)/\w'.cell? ⟨n.heap.size,5,none⟩=some (.string name)):=fun wx m =>
  (zbv w0 wx B l (M.out.over m).env.map qb cls name D false (Xf hc (by decide)) hfr).mono fun e w' ⟨⟨s,v,he,m1,m2,m3,m4,m5,m6,m7,m8,m9,z,aA,aB,hm⟩,J⟩=>by
   have hb':=Qa m Xl J;have T2:=M.out.over hb';obtain⟨_,_,_,k3,k4,k5⟩:=T2.cells;subst hm;exact⟨⟨s,m1,m2,m3,m4,m5,m6,m7,m8,m9,z,aA,aB,he⟩,J,hb',T2.step.blk.cell 0,T2.step.blk.cell 1,k3,k4,k5⟩
 have I:=T0.step.blk.lt;have x:=T0.step.low;have C:=T0.box.lt;have HD:Hid (∀wx,_):=fun wx=>zbn D wx hty
 unfold Qbe at HD;have HTh:Hid (∀wx,_):=fun wx=>ZZ cls wx (Xf hc (by decide))
 have V:(Qc cls).size<=maxLen:=by rw[Zao];exact Xf (Nat.add_le_add_right hc 2) (by decide)
 obtain⟨res,hres⟩:∃r,Zm (match Zl D with|none=>none|some (args,g)=>(zg (Za l) args.reverse S).bind fun S1=>(ZbC (Za l) false cls S1).bind fun S2=>Za7 (Za l) L S2 g)=r:=⟨_,rfl⟩;have O:=Xh hres;rw[hres];clear hres;rw[hf,show Qx 0=.nilIface from rfl]at HFO;clear hf;go_enter func175,ntmps175;go_upto_region 1 with fail;clear T0 h hE hw1;go_region_held3 (fun w'=>w'.cell? ⟨sb,0,none⟩=some (.map (some B))/\w'.cell? ⟨sb,1,none⟩=some (.string qb)/\w'.cell? ⟨n.heap.size,3,none⟩=some (.string D)/\w'.cell? ⟨n.heap.size,4,none⟩=some (.string cls)/\w'.cell? ⟨n.heap.size,5,none⟩=some (.string name)) (first|go_keep|exact⟨(QC (a:=⟨sb,0,none⟩) (Nat.ne_of_lt I)).trans k0,(QC (a:=⟨sb,1,none⟩) (Nat.ne_of_lt I)).trans k1,(QC (a:=⟨n.heap.size,3,none⟩) (Nat.ne_of_lt C)).trans k3,(QC (a:=⟨n.heap.size,4,none⟩) (Nat.ne_of_lt C)).trans k4,(QC (a:=⟨n.heap.size,5,none⟩) (Nat.ne_of_lt C)).trans k5⟩)
  (first
   |(go_fit (HFO.out _ ?_);(first|exact Xb.drew|exact(Xb.alloc Xl _).drew);rintro e w2⟨⟨s,m1,m2,m3,m4,m5,m6,m7,m8,m9,z,aA,aB,rfl⟩,hB2,hB12,k0,k1,k3,k4,k5⟩;(first|(have KB:Blk w2 X.heap.size 39 [.string ⟨#[]⟩,.string ⟨#[]⟩,.bool false,.bool false,.bool false,.int .i64 0,.slice none 0 0,.slice none 0 0]:=Blk.step (w:=(X.alloc (.cells #[.string ⟨#[]⟩,.string ⟨#[]⟩,.bool false,.bool false,.bool false,.int .i64 0,.slice none 0 0,.slice none 0 0] 39)).drew) (Blk.new X 39 [.string ⟨#[]⟩,.string ⟨#[]⟩,.bool false,.bool false,.bool false,.int .i64 0,.slice none 0 0,.slice none 0 0]) hB2;obtain⟨x0,x1,x2,x3,x4,x5,x6,x7⟩:=KB.cells8;(have f0:=KB.frozen 0);(have f1:=KB.frozen 1);(have f2:=KB.frozen 2);(have f3:=KB.frozen 3);(have f4:=KB.frozen 4);(have f5:=KB.frozen 5);(have f6:=KB.frozen 6);(have f7:=KB.frozen 7))|skip)))
 ·have Tw:=(M.out.over hB12).alloc (.cells #[.string m1,.string m2,.bool m3,.bool m4,.bool m5,.int .i64 m6,.slice m7 m8 m9,.slice z aA aB] 39);generalize (w2.alloc (.cells #[.string m1,.string m2,.bool m3,.bool m4,.bool m5,.int .i64 m6,.slice m7 m8 m9,.slice z aA aB] 39))=W at *;have E:=Xh Tw;obtain⟨i0,i1,i2,i3,i4,i5⟩:=Tw.cells;clear Tw k0 k1 k3 k4 k5 M HFO q0 q1;go_upto_region 3 with(first
   |(go_fit (HT.out _);rintro e wq⟨rfl,rfl⟩))
  cases hm:Zl D with
  |none =>
   rw[hm]at O HD;have hre:=O.out;go_wp2_with (first
    |(go_fit (HD.out _);rintro e w3⟨o,rfl⟩)
    |(go_fit (HF.out _);rintro e wq⟨rfl,rfl⟩))
   exact And.intro rfl (E.out.stop (E.out.step.over o) hre.symm)
  |some p =>
   obtain⟨args,g⟩:=p;rw[hm]at O HD;obtain⟨hsa,y⟩:=Qah hm;have hl5:=Zaw hm;have hgs:g.size<=maxLen:=Xf y (Xf hty (by decide));have P:∀k∈args.reverse,k.size<=maxLen:=fun k hk=>Xf (hsa k (List.mem_reverse.1 hk)) (Xf hty (by decide))
   have R:args.reverse.length<=4194304:=(by rw[List.length_reverse];omega);have hl6:args.length<=9223372036854775807:=(by omega);dsimp only at O;go_upto_region 5 with(first
    |(go_fit (HD.out _);rintro e w3⟨o,v,rfl,q⟩;obtain⟨vp,vc,rfl⟩:=Ze q)
    |(go_fit (HT.out _);rintro e wq⟨rfl,rfl⟩))
   have T3:=E.out.over o;have F:∀b,(Value.slice vp args.length vc).ownBlock=some b->W.heap.size<=b/\b<w3.heap.size:=fun b m=>q.lt b m
   go_upto_region 6 with(first
    |(go_fit (zbf q rfl hl6);rintro e w4⟨rfl,hO4,hg4⟩))
   have T:=T3.grown hg4 T3.step.size (fun b m=>⟨Xf E.out.below.size (F b m).1,Xf E.out.step.size (F b m).1,Nat.ne_of_gt (Nat.lt_of_lt_of_le E.out.box.lt (F b m).1),E.out.step.fresh (F b m).1⟩);have U:QaI w4 (.slice vp args.length vc) args.reverse sb lv sv:=⟨Zk (l:=args.reverse) (by rw[List.length_reverse];exact hO4),fun b m=>⟨(hO4.lt b m).2,E.out.step.fresh (F b m).1⟩⟩;obtain⟨i0,i1,i2,i3,i4,i5⟩:=T.cells;clear T3 E o q hg4 HD hsa y hl5 hl6 hm;cases hV:(g.toList==[86]) with
   |true =>
    go_wp2_with (first
     |(go_at_call 169;rcases hq0:zg (Za l) args.reverse S with _|S1;(with_reducible refine(T.takeAN t args.reverse _ U P R hq0).mono ?_);(rintro e w5 A;obtain⟨J,rfl⟩:=A.no';exact And.intro rfl (T.stop J (O.out.symm.trans (qd (zq hq0)))));(with_reducible refine(T.takeAY t args.reverse _ U P R hq0).mono ?_);rintro e w5 A;obtain⟨Z,rfl,lv5,sv5,c,d⟩:=A.ok';(have N:=T.next Z c d);(have G:=zi hq0 t);obtain⟨i0,i1,i2,i3,i4,i5⟩:=N.cells)
     |(go_fit (HTh.out _);rintro e wq⟨rfl,rfl⟩)
     |(go_at_call 169;(have H:=N.alloc (.cells #[.string (Qc cls)] 9));rcases hq1:zg (Za l) [Qc cls] S1 with _|S2;(with_reducible refine(N.takeON G (Qc cls) V _ (by simp) hq1).mono ?_);(rintro e w6 A;obtain⟨J,rfl⟩:=A.no';exact And.intro rfl (H.stop J (O.out.symm.trans (qd ((Zf hq0).trans (zq hq1))))));(with_reducible refine(N.takeOY G (Qc cls) V _ (by simp) hq1).mono ?_);rintro e w6 A;obtain⟨f,rfl,lv6,sv6,i,j⟩:=A.ok';(have T6:=H.next f i j)))
    go_end0;exact T6.done (O.out.symm.trans (Zj ((Zf hq0).trans ((Zf hq1).trans (zcm hV)))))
   |false =>
    by_cases Y:Zg (Za l) g=0
    ·go_wp2_with (first
      |(go_at_call 169;rcases hq0:zg (Za l) args.reverse S with _|S1;(with_reducible refine(T.takeAN t args.reverse _ U P R hq0).mono ?_);(rintro e w5 A;obtain⟨J,rfl⟩:=A.no';exact And.intro rfl (T.stop J (O.out.symm.trans (qd (zq hq0)))));(with_reducible refine(T.takeAY t args.reverse _ U P R hq0).mono ?_);rintro e w5 A;obtain⟨Z,rfl,lv5,sv5,c,d⟩:=A.ok';(have N:=T.next Z c d);(have G:=zi hq0 t);obtain⟨i0,i1,i2,i3,i4,i5⟩:=N.cells)
      |(go_fit (HTh.out _);rintro e wq⟨rfl,rfl⟩)
      |(go_at_call 169;(have H:=N.alloc (.cells #[.string (Qc cls)] 9));rcases hq1:zg (Za l) [Qc cls] S1 with _|S2;(with_reducible refine(N.takeON G (Qc cls) V _ (by simp) hq1).mono ?_);(rintro e w6 A;obtain⟨J,rfl⟩:=A.no';exact And.intro rfl (H.stop J (O.out.symm.trans (qd ((Zf hq0).trans (zq hq1))))));(with_reducible refine(N.takeOY G (Qc cls) V _ (by simp) hq1).mono ?_);rintro e w6 A;obtain⟨f,rfl,lv6,sv6,i,j⟩:=A.ok';(have T6:=H.next f i j))
      |(go_fit (T6.knowsY g hgs Y);rintro e w7 A;obtain⟨hB7,rfl,lv7,sv7,hS7,hk7⟩:=A.ok';(have T7:=T6.next hB7 hS7 hk7))
      |(go_at_call 166;rcases hq2:QP S2 g with _|S3;(with_reducible refine(T7.putN g hq2).mono ?_);(rintro e w8 A;obtain⟨J,rfl⟩:=A.no';exact And.intro rfl (T7.stop J (O.out.symm.trans (qd ((Zf hq0).trans ((Zf hq1).trans (Zbv hV Y hq2)))))));(with_reducible refine(T7.putY g hq2).mono ?_);rintro e w8 A;obtain⟨hB8,rfl,lv8,sv8,hS8,hk8⟩:=A.ok';(have T8:=T7.next hB8 hS8 hk8)))
     go_end0;exact T8.done (O.out.symm.trans (Zj ((Zf hq0).trans ((Zf hq1).trans (qbv hV Y hq2)))))
    ·go_wp2_with (first
      |(go_at_call 169;rcases hq0:zg (Za l) args.reverse S with _|S1;(with_reducible refine(T.takeAN t args.reverse _ U P R hq0).mono ?_);(rintro e w5 A;obtain⟨J,rfl⟩:=A.no';exact And.intro rfl (T.stop J (O.out.symm.trans (qd (zq hq0)))));(with_reducible refine(T.takeAY t args.reverse _ U P R hq0).mono ?_);rintro e w5 A;obtain⟨Z,rfl,lv5,sv5,c,d⟩:=A.ok';(have N:=T.next Z c d);(have G:=zi hq0 t);obtain⟨i0,i1,i2,i3,i4,i5⟩:=N.cells)
      |(go_fit (HTh.out _);rintro e wq⟨rfl,rfl⟩)
      |(go_at_call 169;(have H:=N.alloc (.cells #[.string (Qc cls)] 9));rcases hq1:zg (Za l) [Qc cls] S1 with _|S2;(with_reducible refine(N.takeON G (Qc cls) V _ (by simp) hq1).mono ?_);(rintro e w6 A;obtain⟨J,rfl⟩:=A.no';exact And.intro rfl (H.stop J (O.out.symm.trans (qd ((Zf hq0).trans (zq hq1))))));(with_reducible refine(N.takeOY G (Qc cls) V _ (by simp) hq1).mono ?_);rintro e w6 A;obtain⟨f,rfl,lv6,sv6,i,j⟩:=A.ok';(have T6:=H.next f i j))
      |(go_fit (T6.knowsN g hgs Y);rintro e w7 A;obtain⟨hB7,rfl⟩:=A.no'))
     exact And.intro rfl (T6.stop hB7 (O.out.symm.trans (qd ((Zf hq0).trans ((Zf hq1).trans (Qch hV Y))))))
 ·have Tw:=(((((((((M.out.over hB12).aside (b:=X.heap.size) (Nat.le_of_lt C) (Xf x (Nat.le_of_lt I)) (Nat.ne_of_gt C) (M.out.step.fresh Xl) 0 (.string m1)).aside (b:=X.heap.size) (Nat.le_of_lt C) (Xf x (Nat.le_of_lt I)) (Nat.ne_of_gt C) (M.out.step.fresh Xl) 1 (.string m2)).aside (b:=X.heap.size) (Nat.le_of_lt C) (Xf x (Nat.le_of_lt I)) (Nat.ne_of_gt C) (M.out.step.fresh Xl) 2 (.bool m3)).aside (b:=X.heap.size) (Nat.le_of_lt C) (Xf x (Nat.le_of_lt I)) (Nat.ne_of_gt C) (M.out.step.fresh Xl) 3 (.bool m4)).aside (b:=X.heap.size) (Nat.le_of_lt C) (Xf x (Nat.le_of_lt I)) (Nat.ne_of_gt C) (M.out.step.fresh Xl) 4 (.bool m5)).aside (b:=X.heap.size) (Nat.le_of_lt C) (Xf x (Nat.le_of_lt I)) (Nat.ne_of_gt C) (M.out.step.fresh Xl) 5 (.int .i64 m6)).aside (b:=X.heap.size) (Nat.le_of_lt C) (Xf x (Nat.le_of_lt I)) (Nat.ne_of_gt C) (M.out.step.fresh Xl) 6 (.slice m7 m8 m9)).aside (b:=X.heap.size) (Nat.le_of_lt C) (Xf x (Nat.le_of_lt I)) (Nat.ne_of_gt C) (M.out.step.fresh Xl) 7 (.slice z aA aB));generalize ((((((((w2.setCell ⟨X.heap.size,0,none⟩ (.string m1)).setCell ⟨X.heap.size,1,none⟩ (.string m2)).setCell ⟨X.heap.size,2,none⟩ (.bool m3)).setCell ⟨X.heap.size,3,none⟩ (.bool m4)).setCell ⟨X.heap.size,4,none⟩ (.bool m5)).setCell ⟨X.heap.size,5,none⟩ (.int .i64 m6)).setCell ⟨X.heap.size,6,none⟩ (.slice m7 m8 m9)).setCell ⟨X.heap.size,7,none⟩ (.slice z aA aB))=W at *;have E:=Xh Tw;obtain⟨i0,i1,i2,i3,i4,i5⟩:=Tw.cells;clear Tw k0 k1 k3 k4 k5 M HFO q0 q1;go_upto_region 3 with(first
   |(go_fit (HT.out _);rintro e wq⟨rfl,rfl⟩))
  cases hm:Zl D with
  |none =>
   rw[hm]at O HD;have hre:=O.out;go_wp2_with (first
    |(go_fit (HD.out _);rintro e w3⟨o,rfl⟩)
    |(go_fit (HF.out _);rintro e wq⟨rfl,rfl⟩))
   exact And.intro rfl (E.out.stop (E.out.step.over o) hre.symm)
  |some p =>
   obtain⟨args,g⟩:=p;rw[hm]at O HD;obtain⟨hsa,y⟩:=Qah hm;have hl5:=Zaw hm;have hgs:g.size<=maxLen:=Xf y (Xf hty (by decide));have P:∀k∈args.reverse,k.size<=maxLen:=fun k hk=>Xf (hsa k (List.mem_reverse.1 hk)) (Xf hty (by decide))
   have R:args.reverse.length<=4194304:=(by rw[List.length_reverse];omega);have hl6:args.length<=9223372036854775807:=(by omega);dsimp only at O;go_upto_region 5 with(first
    |(go_fit (HD.out _);rintro e w3⟨o,v,rfl,q⟩;obtain⟨vp,vc,rfl⟩:=Ze q)
    |(go_fit (HT.out _);rintro e wq⟨rfl,rfl⟩))
   have T3:=E.out.over o;have F:∀b,(Value.slice vp args.length vc).ownBlock=some b->W.heap.size<=b/\b<w3.heap.size:=fun b m=>q.lt b m
   go_upto_region 6 with(first
    |(go_fit (zbf q rfl hl6);rintro e w4⟨rfl,hO4,hg4⟩))
   have T:=T3.grown hg4 T3.step.size (fun b m=>⟨Xf E.out.below.size (F b m).1,Xf E.out.step.size (F b m).1,Nat.ne_of_gt (Nat.lt_of_lt_of_le E.out.box.lt (F b m).1),E.out.step.fresh (F b m).1⟩);have U:QaI w4 (.slice vp args.length vc) args.reverse sb lv sv:=⟨Zk (l:=args.reverse) (by rw[List.length_reverse];exact hO4),fun b m=>⟨(hO4.lt b m).2,E.out.step.fresh (F b m).1⟩⟩;obtain⟨i0,i1,i2,i3,i4,i5⟩:=T.cells;clear T3 E o q hg4 HD hsa y hl5 hl6 hm;cases hV:(g.toList==[86]) with
   |true =>
    go_wp2_with (first
     |(go_at_call 169;rcases hq0:zg (Za l) args.reverse S with _|S1;(with_reducible refine(T.takeAN t args.reverse _ U P R hq0).mono ?_);(rintro e w5 A;obtain⟨J,rfl⟩:=A.no';exact And.intro rfl (T.stop J (O.out.symm.trans (qd (zq hq0)))));(with_reducible refine(T.takeAY t args.reverse _ U P R hq0).mono ?_);rintro e w5 A;obtain⟨Z,rfl,lv5,sv5,c,d⟩:=A.ok';(have N:=T.next Z c d);(have G:=zi hq0 t);obtain⟨i0,i1,i2,i3,i4,i5⟩:=N.cells)
     |(go_fit (HTh.out _);rintro e wq⟨rfl,rfl⟩)
     |(go_at_call 169;(have H:=N.alloc (.cells #[.string (Qc cls)] 9));rcases hq1:zg (Za l) [Qc cls] S1 with _|S2;(with_reducible refine(N.takeON G (Qc cls) V _ (by simp) hq1).mono ?_);(rintro e w6 A;obtain⟨J,rfl⟩:=A.no';exact And.intro rfl (H.stop J (O.out.symm.trans (qd ((Zf hq0).trans (zq hq1))))));(with_reducible refine(N.takeOY G (Qc cls) V _ (by simp) hq1).mono ?_);rintro e w6 A;obtain⟨f,rfl,lv6,sv6,i,j⟩:=A.ok';(have T6:=H.next f i j)))
    go_end0;exact T6.done (O.out.symm.trans (Zj ((Zf hq0).trans ((Zf hq1).trans (zcm hV)))))
   |false =>
    by_cases Y:Zg (Za l) g=0
    ·go_wp2_with (first
      |(go_at_call 169;rcases hq0:zg (Za l) args.reverse S with _|S1;(with_reducible refine(T.takeAN t args.reverse _ U P R hq0).mono ?_);(rintro e w5 A;obtain⟨J,rfl⟩:=A.no';exact And.intro rfl (T.stop J (O.out.symm.trans (qd (zq hq0)))));(with_reducible refine(T.takeAY t args.reverse _ U P R hq0).mono ?_);rintro e w5 A;obtain⟨Z,rfl,lv5,sv5,c,d⟩:=A.ok';(have N:=T.next Z c d);(have G:=zi hq0 t);obtain⟨i0,i1,i2,i3,i4,i5⟩:=N.cells)
      |(go_fit (HTh.out _);rintro e wq⟨rfl,rfl⟩)
      |(go_at_call 169;(have H:=N.alloc (.cells #[.string (Qc cls)] 9));rcases hq1:zg (Za l) [Qc cls] S1 with _|S2;(with_reducible refine(N.takeON G (Qc cls) V _ (by simp) hq1).mono ?_);(rintro e w6 A;obtain⟨J,rfl⟩:=A.no';exact And.intro rfl (H.stop J (O.out.symm.trans (qd ((Zf hq0).trans (zq hq1))))));(with_reducible refine(N.takeOY G (Qc cls) V _ (by simp) hq1).mono ?_);rintro e w6 A;obtain⟨f,rfl,lv6,sv6,i,j⟩:=A.ok';(have T6:=H.next f i j))
      |(go_fit (T6.knowsY g hgs Y);rintro e w7 A;obtain⟨hB7,rfl,lv7,sv7,hS7,hk7⟩:=A.ok';(have T7:=T6.next hB7 hS7 hk7))
      |(go_at_call 166;rcases hq2:QP S2 g with _|S3;(with_reducible refine(T7.putN g hq2).mono ?_);(rintro e w8 A;obtain⟨J,rfl⟩:=A.no';exact And.intro rfl (T7.stop J (O.out.symm.trans (qd ((Zf hq0).trans ((Zf hq1).trans (Zbv hV Y hq2)))))));(with_reducible refine(T7.putY g hq2).mono ?_);rintro e w8 A;obtain⟨hB8,rfl,lv8,sv8,hS8,hk8⟩:=A.ok';(have T8:=T7.next hB8 hS8 hk8)))
     go_end0;exact T8.done (O.out.symm.trans (Zj ((Zf hq0).trans ((Zf hq1).trans (qbv hV Y hq2)))))
    ·go_wp2_with (first
      |(go_at_call 169;rcases hq0:zg (Za l) args.reverse S with _|S1;(with_reducible refine(T.takeAN t args.reverse _ U P R hq0).mono ?_);(rintro e w5 A;obtain⟨J,rfl⟩:=A.no';exact And.intro rfl (T.stop J (O.out.symm.trans (qd (zq hq0)))));(with_reducible refine(T.takeAY t args.reverse _ U P R hq0).mono ?_);rintro e w5 A;obtain⟨Z,rfl,lv5,sv5,c,d⟩:=A.ok';(have N:=T.next Z c d);(have G:=zi hq0 t);obtain⟨i0,i1,i2,i3,i4,i5⟩:=N.cells)
      |(go_fit (HTh.out _);rintro e wq⟨rfl,rfl⟩)
      |(go_at_call 169;(have H:=N.alloc (.cells #[.string (Qc cls)] 9));rcases hq1:zg (Za l) [Qc cls] S1 with _|S2;(with_reducible refine(N.takeON G (Qc cls) V _ (by simp) hq1).mono ?_);(rintro e w6 A;obtain⟨J,rfl⟩:=A.no';exact And.intro rfl (H.stop J (O.out.symm.trans (qd ((Zf hq0).trans (zq hq1))))));(with_reducible refine(N.takeOY G (Qc cls) V _ (by simp) hq1).mono ?_);rintro e w6 A;obtain⟨f,rfl,lv6,sv6,i,j⟩:=A.ok';(have T6:=H.next f i j))
      |(go_fit (T6.knowsN g hgs Y);rintro e w7 A;obtain⟨hB7,rfl⟩:=A.no'))
     exact And.intro rfl (T6.stop hB7 (O.out.symm.trans (qd ((Zf hq0).trans ((Zf hq1).trans (Qch hV Y))))))
