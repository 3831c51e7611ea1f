/- Lemmas; conditions: as each states. -/
import Derived.Test.YtmclocdhcblbiaaGreatDoorZStepper
set_option maxHeartbeats 4000000
namespace Go.Proofs.YtmclocdhcblbiaaGreatDoor
open Go.RowKit Go.Shelf Go.Lib Tryz
def ql(cs:List qa)(S:List Str):Prop:=∀k∈S,Zg cs k=0
theorem Zaf{cs:List qa}{k:Str}(h:Zg cs k=0):k.size<=25:=by
 have C:k.size=(lst k).length:=zP k |>.symm
 unfold Zg at h;split at h
 ·rename_i A;rcases A with A|A<;>rw[C,A]<;>decide
 ·split at h
  ·cases h
  ·rename_i _ D;obtain⟨y,B⟩:=Q8 (t:=k) (by simpa using D);have E:=Qda y B.name;have F:=B.deep;rw[C,<-B.text];omega
structure Env (w0 w:World) (B:Nat) (l:List qa) (base:Nat) (wx:World):Prop where
 map0:qh w0 w B l
 le:w.heap.size<=base
 below:Below w.heap.size w wx
theorem Env.map{w0 w wx:World}{B base:Nat}{l:List qa}(h:Env w0 w B l base wx):qh w0 wx B l:=h.map0.step h.below
theorem Env.step{w0 w wx A:World}{B base:Nat}{l:List qa}(h:Env w0 w B l base wx)(C:Below base wx A):Env w0 w B l base A:=⟨h.map0,h.le,h.below.trans (C.mono h.le)⟩
theorem Qh.over{base:Nat}{w w':World}{sb B:Nat}{qb Zb:Str}{lv sv:Value}{L S:List Str}(h:Qh base w sb B qb Zb lv sv L S)(A:Below w.heap.size w w'):Below base w w':=A.mono h.size
def Qa6(sb:Nat)(lv sv:Value)(g:Nat):Prop:=g≠sb/\lv.ownBlock≠some g/\sv.ownBlock≠some g
def Kp(sb:Nat)(lv sv:Value)(w:World)(lv' sv':Value)(w':World):Prop:=lv'=lv/\∀g,g<w.heap.size->Qa6 sb lv sv g->w'.heap[g]? = w.heap[g]?/\Qa6 sb lv' sv' g
theorem Kp.below{sb:Nat}{lv sv:Value}{w w':World}(A:Below w.heap.size w w'):Kp sb lv sv w lv sv w':=⟨rfl,fun g B C=>⟨A.block g B,C⟩⟩
theorem Kp.trans{sb:Nat}{lv sv A B C D:Value}{w E F:World}(h:Kp sb lv sv w A B E)(k:Kp sb A B E C D F)(N:w.heap.size<=E.heap.size):Kp sb lv sv w C D F:=⟨k.1.trans h.1,fun g L M=>by
 obtain⟨G,H⟩:=h.2 g L M;obtain⟨I,J⟩:=k.2 g (by omega) H;exact⟨I.trans G,J⟩⟩
theorem Kp.blk{sb:Nat}{lv sv B C:Value}{w w':World}(h:Kp sb lv sv w B C w'){b:Nat}{t:TypeId}{A:List Value}(D:Blk w b t A)(E:Qa6 sb lv sv b):Blk w' b t A:=(h.2 b D.lt E).1.trans D
def qf(base:Nat)(w:World)(sb B:Nat)(qb Zb:Str)(lv sv:Value)(r:Option (Value×List Str×List Str))(e:Ending)(w':World):Prop :=
 Below base w w'/\match r with
  |none=>e=.panicked [qaN]
  |some (v,L,S)=>e=.returned v/\∃lv' sv',Qh base w' sb B qb Zb lv' sv' L S/\Kp sb lv sv w lv' sv' w'
theorem qf.ok{base:Nat}{w w':World}{sb B:Nat}{qb Zb:Str}{v:Value}{lv sv A C:Value}{L S:List Str}(D:Below base w w')(h:Qh base w' sb B qb Zb A C L S)(E:Kp sb lv sv w A C w'):qf base w sb B qb Zb lv sv (some (v,L,S)) (.returned v) w':=⟨D,rfl,A,C,h,E⟩
theorem qf.no{base:Nat}{w w':World}{sb B:Nat}{qb Zb:Str}{lv sv:Value}(A:Below base w w'):qf base w sb B qb Zb lv sv none (.panicked [qaN]) w':=⟨A,rfl⟩
theorem qf.no'{base:Nat}{w w':World}{sb B:Nat}{qb Zb:Str}{lv sv:Value}{e:Ending}(h:qf base w sb B qb Zb lv sv none e w'):Below base w w'/\e=.panicked [qaN]:=h
theorem qf.ok'{base:Nat}{w w':World}{sb B:Nat}{qb Zb:Str}{v:Value}{lv sv:Value}{L S:List Str}{e:Ending}(h:qf base w sb B qb Zb lv sv (some (v,L,S)) e w'):Below base w w'/\e=.returned v/\∃A C,Qh base w' sb B qb Zb A C L S/\Kp sb lv sv w A C w':=h
theorem qf.post{base:Nat}{w w':World}{sb B:Nat}{qb Zb:Str}{lv sv:Value}{r:Option (Value×List Str×List Str)}{e:Ending}(h:qf base w sb B qb Zb lv sv r e w'):zan base w sb B qb Zb r e w':=by
 cases r with
 |none=>exact h
 |some p=>exact⟨h.1,h.2.1,h.2.2.elim fun A h=>h.elim fun C h=>⟨A,C,h.1⟩⟩
theorem Qh.fresh{base:Nat}{w:World}{sb B:Nat}{qb Zb:Str}{lv sv:Value}{L S:List Str}(h:Qh base w sb B qb Zb lv sv L S){g:Nat}(A:w.heap.size<=g):Qa6 sb lv sv g :=
 ⟨fun e=>by have:=h.blk.lt;omega,fun e=>by have:=(h.locals.lt g e).2;omega,fun e=>by have:=(h.stack.lt g e).2;omega⟩
set_option maxRecDepth 100000
theorem QeS(base:Nat)(w:World)(sb B:Nat)(qb Zb:Str)(lv sv:Value)(L S:List Str)(h:Qh base w sb B qb Zb lv sv L S)(k:Str):
 Calls prog 166 #[.pointer (some ⟨sb,0,none⟩),.string k] w (qf base w sb B qb Zb lv sv ((QP S k).map fun S'=>(.tuple #[],L,S'))):=by
 obtain⟨p,c,rfl⟩:=Ze h.stack;have C:=Xh h;have Y:w.cell? ⟨sb,4,none⟩=some (.slice p S.length c):=h.blk.cell 4;have T:Hid (∀wx,_):=fun wx=>qH wx
 have U:Hid (∀wx,_):=fun wx=>Zx wx
 unfold QP;clear h;by_cases O:S.length<8
 ·rw[if_pos O,Option.map_some];have V:decide ((S.length:Int)<8)=true:=by simp;omega
  have F:=(Below.refl w.heap.size w).alloc Xl (.cells #[.string k] 9);have A:=Xh (C.out.step F);have G:=A.out.size;go_enter func166,ntmps166;go_wp2_with (first
   |(go_fit (T.out _);rintro e X⟨rfl,rfl⟩)
   |(at_builtin;refine Z2 rfl _ _ rfl base (.slice p S.length c) S.length _ rfl A.out.stack _ [k] rfl (qbR _ _) (by unfold maxLen;simp;omega) (by simp;omega) G ?_;intro b P H D I;obtain⟨M,c',rfl⟩:=Ze H;(have E:=A.out.blk.grown D C.out.sfar);(have Z:P.cell? ⟨sb,4,none⟩=some (.slice p S.length c):=E.cell 4);(have a:=E.frozen 4)))
  go_end0;have N:Below base w P:=((Below.refl base w).alloc C.out.size _).grown D G (fun g e=>(A.out.stack.lt g e).1);refine qf.ok (N.setCell (p:=⟨sb,4,none⟩) C.out.low _) (C.out.stacked E (A.out.locals.kept D ?_) (by simpa using H) ?_) ⟨rfl,fun g R J=>⟨?_,J.1,J.2.1,?_⟩⟩
  ·cases h:lv.ownBlock with
   |none=>exact Or.inl rfl
   |some g=>exact Or.inr (fun e=>C.out.apart g h e.symm)
  ·rcases I with h|h
   ·exact Or.inl h
   ·refine Or.inr fun g e=>?_
    rw[show(Value.slice M (S.length+1) c').ownBlock=(Value.slice M (S.length+[k].length) c').ownBlock from rfl,h]at e;injection e with e
    have:=F.size;omega
  ·rw[Xk _ _ _ _ J.1,D.block g (Nat.lt_of_lt_of_le R F.size) (fun e=>J.2.2 e.symm)];exact F.block g R
  ·intro e;rcases I with h|h
   ·exact J.2.2 (h▸e)
   ·rw[show(Value.slice M (S.length+1) c').ownBlock=(Value.slice M (S.length+[k].length) c').ownBlock from rfl,h]at e;injection e with e
    have:=F.size;omega
 ·rw[if_neg O,Option.map_none];have V:decide ((S.length:Int)<8)=false:=by simp;omega
  go_enter func166,ntmps166;go_wp2_with (first
   |(go_fit (U.out _);rintro e X⟨rfl,rfl⟩))
  exact⟨rfl,qf.no Xb⟩
def Zb6(cs:List qa)(t:Str)(L S:List Str):Option (Value×List Str×List Str):=if Zg cs t=0 then some (.tuple #[],L,S) else none
theorem QcW(w0 w:World)(B:Nat)(l:List qa)(base:Nat)(wx:World)(G:Env w0 w B l base wx)(sb:Nat)(qb Zb:Str)(lv sv:Value)(L S:List Str)(h:Qh base wx sb B qb Zb lv sv L S)(t:Str)(H:t.size<=maxLen):
 Calls prog 172 #[.pointer (some ⟨sb,0,none⟩),.string t] wx (qf base wx sb B qb Zb lv sv (Zb6 (Za l) t L S)):=by
 have F:=Xh (qcn w0 wx B (Za l) G.map.map G.map.right.nodup t H);have C:=Xh h;have O:wx.cell? ⟨sb,0,none⟩=some (.map (some B)):=h.blk.cell 0;have I:Hid (∀wx,_):=fun wx=>qH wx
 have J:Hid (∀wx,_):=fun wx=>Zx wx
 clear h G;unfold Zb6;rcases zB (Zg (Za l) t) with⟨D,E⟩|⟨D,E⟩
 ·rw[D]at F;rw[if_pos E];clear D E;go_enter func172,ntmps172;go_wp2_with (first
   |(go_fit F.out;rintro e M⟨rfl,A⟩)
   |(go_fit (I.out _);rintro e N⟨rfl,rfl⟩))
  go_end0;exact qf.ok (C.out.over A) (C.out.step A) (Kp.below A)
 ·rw[D]at F;rw[if_neg E];clear D E;generalize Zg (Za l) t=n at *;go_enter func172,ntmps172;go_wp2_with (first
   |(go_fit F.out;rintro e M⟨rfl,A⟩)
   |(go_fit (J.out _);rintro e N⟨rfl,rfl⟩))
  exact⟨rfl,qf.no (C.out.over A)⟩
def zC(S:List Str):Option (Str×List Str):=S.getLast?.map fun k=>(k,S.dropLast)
theorem zeT:zC []=none:=rfl
theorem zba(S:List Str)(k:Str):zC (S++[k])=some (k,S):=by unfold zC;simp
def Qci(L S:List Str):Option (Value×List Str×List Str):=(zC S).map fun p=>(.string p.1,L,p.2)
theorem Zdd(base:Nat)(w:World)(sb B:Nat)(qb Zb:Str)(lv sv:Value)(L S:List Str)(h:Qh base w sb B qb Zb lv sv L S):
 Calls prog 168 #[.pointer (some ⟨sb,0,none⟩)] w (qf base w sb B qb Zb lv sv (Qci L S)):=by
 have I:Hid (∀wx,_):=fun wx=>qH wx
 have J:Hid (∀wx,_):=fun wx=>Zx wx
 have C:=Xh h;unfold Qci;rcases List.eq_nil_or_concat S with rfl|⟨r,k,rfl⟩
 ·obtain⟨p,c,rfl⟩:=Ze h.stack;have M:w.cell? ⟨sb,4,none⟩=some (.slice p 0 c):=h.blk.cell 4;rw[zeT,Option.map_none];clear h;go_enter func168,ntmps168;go_wp2_with (first
   |(go_fit (J.out _);rintro e O⟨rfl,rfl⟩))
  exact⟨rfl,qf.no Xb⟩
 ·rw[List.concat_eq_append]at *;rw[zba,Option.map_some];have A:=h.stack;have D:(r++[k]).length=r.length+1:=by simp
  rw[D,List.map_append]at A;obtain⟨g,cap,rfl,N,G,F⟩:∃g cap,sv=.slice (some ⟨g,0,none⟩) (r.length+1) cap/\base<=g/\r.length+1<=cap/\cap<=maxLen:=by
   rcases A.2 with⟨_,b⟩|⟨g,cap,P,R,T,_,U,V,_⟩
   ·omega
   ·exact⟨g,cap,R,T,U,V⟩
  have M:w.cell? ⟨sb,4,none⟩=some (.slice (some ⟨g,0,none⟩) (r.length+1) cap):=h.blk.cell 4;have X:=h.blk.frozen 4;have Y:w.cell? ⟨g,r.length,none⟩=some (.string k):=by
   rw[World.ownsRow.cellAt A r.length (by omega)];simp
  have Z:decide ((0:Int)<=(r.length:Int))=true:=by simp
  have a:wrap64 (r.length:Int)=(r.length:Int):=by
   unfold maxLen at F;unfold wrap64;omega
  have E:=Xh (ownsRow_pop (by simp) A);clear h A;go_enter func168,ntmps168;go_wp2_with (first
   |(go_fit (I.out _);rintro e O⟨rfl,rfl⟩))
  go_ret;exact qf.ok ((Below.refl base w).setCell (p:=⟨sb,4,none⟩) C.out.low _) (C.out.stacked C.out.blk C.out.locals E.out (Or.inl rfl)) ⟨rfl,fun g _ H=>⟨Xk _ _ _ _ H.1,H⟩⟩
def zg(cs:List qa):List Str->List Str->Option (List Str)
 |[],S=>some S
 |k::r,S=>if Zg cs k≠0 then none else match zC S with
  |none=>none
  |some (t,S')=>if ZS cs (Zr t) (Zr k) then zg cs r S' else none
theorem Qal{cs:List qa}{S S':List Str}{k:Str}(h:zC S=some (k,S'))(B:ql cs S):Zg cs k=0/\ql cs S':=by
 rcases List.eq_nil_or_concat S with rfl|⟨r,t,rfl⟩
 ·cases h
 ·rw[List.concat_eq_append]at *;rw[zba]at h;injection h with h
  injection h with C D
  subst C D;exact⟨B _ (by simp),fun k A=>B k (by simp[A])⟩
def zaW(x:Kd):Bool:=decide (x=.n)||zA x
def QaI(w:World)(kv:Value)(ks:List Str)(sb:Nat)(lv sv:Value):Prop:=qp w kv ks/\∀g,kv.ownBlock=some g->g<w.heap.size/\Qa6 sb lv sv g
theorem QaI.keep{w w':World}{C:Value}{D:List Str}{sb:Nat}{lv sv A B:Value}(h:QaI w C D sb lv sv)(F:Kp sb lv sv w A B w'):qp w' C D:=by
 rcases h with⟨N|⟨a,cap,rfl,O,P,R⟩,S⟩
 ·exact Or.inl N
 ·refine Or.inr ⟨a,cap,rfl,O,P,fun i x M=>?_⟩;obtain⟨vs,E,G,H,I⟩:=R i x M;obtain⟨J,L⟩:=S a.block rfl;unfold qt at E;subst E;exact⟨_,rfl,G,H,(World.cell?_of_block (a:=⟨a.block,a.off+i*1,none⟩) (F.2 a.block J L).1).trans I.1,trivial⟩
theorem zaH(w0 w:World)(B:Nat)(l:List qa)(F:qh w0 w B l)(a b:Str)(A:Zg (Za l) a=0)(C:Zg (Za l) b=0):
 Calls prog 52 #[.map (some B),.string a,.string b] w fun e w'=>e=.returned (.bool (ZS (Za l) (Zr a) (Zr b)))/\Below w.heap.size w w':=by
 obtain⟨X,D⟩:=QT A;obtain⟨Y,E⟩:=QT C;rw[ZL D.1,ZL E.1];exact Qcq w0 w B l F a b X Y D E (Xf (Zaf A) (by decide)) (Xf (Zaf C) (by decide))
theorem Qfb(w0 w:World)(B:Nat)(l:List qa)(base:Nat)(wx:World)(_hE:Env w0 w B l base wx)(sb:Nat)(qb Zb:Str)(lv sv:Value)(L S:List Str)(h:Qh base wx sb B qb Zb lv sv L S)(Z:ql (Za l) S):
 Calls prog 171 #[.pointer (some ⟨sb,0,none⟩)] wx (qf base wx sb B qb Zb lv sv ((zC S).bind fun p=>if zaW (Zr p.1) then some (.string p.1,L,p.2) else none)):=by
 have F:=Xh (Zdd base wx sb B qb Zb lv sv L S h);have a:Hid (∀wx,_):=fun wx=>qH wx
 have c:Hid (∀wx,_):=fun wx=>Zx wx
 clear h;unfold Qci at F;cases J:zC S with
 |none =>
  rw[J,Option.map_none]at F;rw[Option.bind_none];clear J;go_enter func171,ntmps171;go_wp2_with (first
   |(go_fit F.out;rintro e Y G;obtain⟨A,rfl⟩:=G.no'))
  exact⟨rfl,qf.no A⟩
 |some p =>
  obtain⟨k,S'⟩:=p;rw[J,Option.map_some]at F;rw[Option.bind_some];obtain⟨b,V⟩:=Qal J Z;obtain⟨X,R,_⟩:=QT b;have O:Hid (∀wx,_):=fun wx=>QL k X wx R
  have H:=ZL R;have U:=Qas R .n;rw[show Qo Kd.n=[78] from rfl]at U;dsimp only;rw[H];clear J b R H Z V;by_cases C:X=.n
  ·subst C;rw[Xj rfl]at U;rw[show zaW Kd.n=true from rfl,if_pos rfl];go_enter func171,ntmps171;go_wp2_with (first
    |(go_fit F.out;rintro e Y G;obtain⟨A,rfl,M,N,D,E⟩:=G.ok')
    |(go_fit (a.out _);rintro e T⟨rfl,rfl⟩))
   go_ret;exact qf.ok A D E
  ·rw[Xi C]at U;have I:zaW X=zA X:=(by unfold zaW;rw[Xi C];rfl);rw[I];clear I;cases P:zA X with
   |true =>
    rw[P]at O;rw[if_pos rfl];clear P C;go_enter func171,ntmps171;go_wp2_with (first
     |(go_fit F.out;rintro e Y G;obtain⟨A,rfl,M,N,D,E⟩:=G.ok')
     |(go_fit (O.out _);rintro e T⟨rfl,rfl⟩)
     |(go_fit (a.out _);rintro e T⟨rfl,rfl⟩))
    go_ret;exact qf.ok A D E
   |false =>
    rw[P]at O;rw[if_neg (by decide)];clear P C;go_enter func171,ntmps171;go_wp2_with (first
     |(go_fit F.out;rintro e Y G;obtain⟨A,rfl,M,N,D,E⟩:=G.ok')
     |(go_fit (O.out _);rintro e T⟨rfl,rfl⟩)
     |(go_fit (c.out _);rintro e T⟨rfl,rfl⟩))
    exact⟨rfl,qf.no A⟩
theorem Qer{cs:List qa}{k:Str}{r S:List Str}(h:Zg cs k≠0):zg cs (k::r) S=none:=by unfold zg;rw[if_pos h]
theorem Zdx{cs:List qa}{k:Str}{r S:List Str}(h:Zg cs k=0)(A:zC S=none):zg cs (k::r) S=none:=by unfold zg;rw[if_neg (by rw[h];decide),A]
theorem zes{cs:List qa}{k t:Str}{r S S':List Str}(h:Zg cs k=0)(A:zC S=some (t,S')):zg cs (k::r) S=if ZS cs (Zr t) (Zr k) then zg cs r S' else none:=by
 conv=>lhs;unfold zg
 rw[if_neg (by rw[h];decide),A]
theorem ZeT(w0 w:World)(B:Nat)(l:List qa)(base:Nat)(wx:World)(hE:Env w0 w B l base wx)(sb:Nat)(qb Zb:Str)(lv sv:Value)(L S:List Str)(h:Qh base wx sb B qb Zb lv sv L S)(hS:ql (Za l) S)(H:List Str)(kv:Value)(z:QaI wx kv H sb lv sv)(hsz:∀k∈H,k.size<=maxLen)(hln:H.length<=4194304):
 Calls prog 169 #[.pointer (some ⟨sb,0,none⟩),kv] wx (qf base wx sb B qb Zb lv sv ((zg (Za l) H S).map fun S'=>(.tuple #[],L,S'))):=by
 have HE:=Xh hE;have HSt0:=Xh h;have HS0:=Xh hS;have HSz:=Xh hsz;have HKs:=Xh z;have HT:Hid (∀wx,_):=fun wx=>qH wx
 have HF:Hid (∀wx,_):=fun wx=>Zx wx
 obtain⟨p,c,rfl,_⟩:=z.1.open;obtain⟨n,hn⟩:∃n,H.length=n:=⟨_,rfl⟩;have HN:=Xh hn;rw[hn]at hln ⊢;clear hE h hS z hsz hn;obtain⟨res,O⟩:∃r,zg (Za l) H S=r:=⟨_,rfl⟩;have HR:=Xh O;rw[O];clear O;go_enter func169,ntmps169;go_wp2_with fail;go_loopw [8] (fun x wr=>∃(k:Nat) (Z a:Value) (S':List Str),k<=n/\Hid (Qh base wr sb B qb Zb Z a L S')/\Hid (zg (Za l) (H.drop k) S'=res)/\Hid (Below base wx wr)/\Hid (Kp sb lv sv wx Z a wr)/\Hid (ql (Za l) S')/\x=.int .i64 k) (fun x _=>n-(intOf x).toNat)
 case atStart=>exact⟨0,lv,sv,S,by omega,HSt0,HR,Xb,⟨rfl,fun g _ ha=>⟨rfl,ha⟩⟩,HS0,rfl⟩
 case round =>
  obtain⟨k,Z,a,S',hk,d,f,hB,P,aD,rfl⟩:=hrel;by_cases hkl:k<n
  ·obtain⟨x,hx⟩:∃x,H[k]? = some x:=⟨H[k]'(by rw[HN.out];exact hkl),by simp⟩;obtain⟨p',c',hpc,_,_,aE⟩:=(HKs.out.keep P.out).open;cases hpc;obtain⟨b,o,vs,rfl,hRr,_,Zd⟩:=aE k x hx;unfold qt at hRr;subst hRr;have c0:=Zd.1;rw[Nat.mul_one]at c0;have aA:H.drop k=x::H.drop (k+1):=by
    obtain⟨h1,h2⟩:=List.getElem?_eq_some_iff.1 hx;rw[List.drop_eq_getElem_cons h1,h2]
   have A:=f.out;rw[aA]at A;have U:=HE.out.step hB.out;have I:=Xh (QcW w0 w B l base wr U sb qb Zb Z a L S' d.out x (HSz.out x (Xe hx)));unfold Zb6 at I;by_cases F:Zg (Za l) x=0
   ·rw[if_pos F]at I;have HKn:=Xh aD.out;have HEr:=Xh U;have J:=Xh hB.out;have HKr:=Xh P.out;have aB:=Xh F;have D:=Xh A;clear Zd aE aA U F hx d f P aD hB A;go_upto_region 4 with(first
     |(go_fit I.out;rintro e q s;obtain⟨R,rfl,lv2,sv2,j,hk2⟩:=s.ok'))
    have HE2:=Xh (HEr.out.step R);have V:=Xh (J.out.trans R);have HK2:=Xh (HKr.out.trans hk2 J.out.size);have hP2:∀wy,Below q.heap.size q wy->_:=fun wy hb=>Zdd base wy sb B qb Zb lv2 sv2 L S' (j.step hb)
    have q0:q.cell? ⟨sb,0,none⟩=some (.map (some B)):=j.blk.cell 0;have G:=Xh hP2;have HS2:=Xh j;have X:=(Below.refl q.heap.size q).drew;have M:=(Below.refl base q).drew;clear R hk2 j hP2 c0;unfold Qci at G;have q0d:q.drew.cell? ⟨sb,0,none⟩=some (.map (some B)):=q0;refine wp_region_held_drew (S:=fun w'=>w'.cell? ⟨sb,0,none⟩=some (.map (some B))) (by kernel_rfl) q0d (fun hHeld=>?_);change wpAnyH _ _ _ _ _ 9 _ _ _;iterate 5 ((first|(refine tkN rfl rfl hHeld ?_)|(refine tkY (v:=?_) rfl rfl hHeld ?_ ?_;rotate_left;focus (intro w aF;((try dsimp only at aF));go_simp;all_goals with_reducible rfl)));try simp only[Act.put,Xa,Xc,Xd])
    refine tkI (i:=6) (fuel:=3) (v:=?_) rfl (by kernel_rfl) (by kernel_rfl) (by kernel_rfl) (fun _ _ _ h=>h) (by rfl) hHeld ?_ ?_;rotate_left;focus (intro w aF;((try dsimp only at aF));go_simp;all_goals with_reducible rfl);(try simp only[Act.put]);(try simp only[Xa]);(try simp only[Xd]);(try simp only[Xc])
    refine wpAnyH_ready (rs:=[5]) (fuel:=2) (by kernel_rfl) (by simp) ?_;refine AllReadyH.cons (i:=5) rfl (fun K y=>?_) AllReadyH.nil;go_simp;cases hp:zC S' with
    |none =>
     rw[Zdx aB.out hp]at D;have aC:=D.out;subst aC;rw[hp,Option.map_none]at G;refine(G.out _ X).mono ?_;rintro e w4 s;obtain⟨T,rfl⟩:=s.no';exact And.intro rfl (qf.no (V.out.trans (M.trans T)))
    |some p =>
     obtain⟨t,S2⟩:=p;rw[zes aB.out hp]at D;rw[hp,Option.map_some]at G;obtain⟨hkt,m⟩:=Qal hp HKn.out;refine(G.out _ X).mono ?_;rintro e w4 s;obtain⟨T,rfl,lv4,sv4,C,hk4⟩:=s.ok';have hE4:=HE2.out.step (M.trans T);have Y:=Xh (V.out.trans (M.trans T));have HK4:=Xh (HK2.out.trans ((Kp.below X).trans hk4 X.size) V.out.size);have HD:=Xh (zaH w0 w4 B l hE4.map t x hkt aB.out);have HS4:=Xh C;have HN2:=Xh m;clear G s hp hkt m T hk4 hE4;refine y.out _ _ (C.blk.cell 0) (fun _=>?_);clear y K;refine wpAnyH_ready (rs:=[7]) (fuel:=1) (by kernel_rfl) (by simp) ?_;refine AllReadyH.cons (i:=7) rfl (fun K y=>?_) AllReadyH.nil;go_simp;refine HD.out.mono ?_;rintro e w5⟨rfl,E⟩;refine y.out _ _ ((C.step E).blk.cell 0) (fun _=>?_);clear y K;try simp only[Act.put,Xa,Xc,Xd]
     refine wpAnyH_ready (rs:=[8]) (fuel:=0) (by kernel_rfl) (by simp) ?_;refine AllReadyH.cons (i:=8) rfl (fun K y=>?_) AllReadyH.nil;go_simp;cases N:ZS (Za l) (Zr t) (Zr x) with
     |false =>
      rw[N,if_neg (by decide)]at D;have aC:=D.out;subst aC;refine(HF.out _).mono ?_;rintro e w6⟨rfl,rfl⟩;exact And.intro rfl (qf.no (Y.out.trans (C.over E)))
     |true =>
      rw[N,if_pos rfl]at D;refine(HT.out _).mono ?_;rintro e w6⟨rfl,rfl⟩;refine y.out _ _ ((C.step E).blk.cell 0) (fun _=>?_);clear y K;try simp only[Act.put,Xa,Xc,Xd]
      refine wpAnyH_done (by kernel_rfl) ?_ _;have HS5:=Xh (C.step E);have HB5:=Xh (Y.out.trans (C.over E));have HK5:=Xh (HK4.out.trans (Kp.below E) Y.out.size);clear C E HK4 Y HK2 V HKr J N;go_wp2_with fail;go_roundw;case rel=>exact⟨k+1,lv4,sv4,S2,by omega,HS5,D,HB5,HK5,HN2,by simp⟩
      case measure=>simp[intOf];omega
   ·rw[if_neg F]at I;rw[Qer F]at A;subst A;have J:=Xh hB.out;clear Zd aE aA U F hx d f P aD hB;go_wp2_with (first
     |(go_fit I.out;rintro e q s;obtain⟨R,rfl⟩:=s.no'))
    exact⟨rfl,qf.no (J.out.trans R)⟩
  ·obtain rfl:n=k:=(by omega);have A:=f.out;rw[Xg (by rw[HN.out];exact Xl)]at A;subst A;go_wp2_with fail;go_end0;exact qf.ok hB.out d.out P.out
def kI:Str:=⟨#[73]⟩
def kJ:Str:=⟨#[74]⟩
def kN:Str:=⟨#[78]⟩
def Zan:Str:=⟨#[70,97,117,108,116]⟩
def qq(L S:List Str)(k:Str):Option (List Str×List Str):=(QP S k).map fun S'=>(L,S')
def zbE(L S:List Str)(a:Int):Option (List Str×List Str):=match L[a.toNat]? with
 |some k=>if (k.toList==[84])=true then none else qq L S k
 |none=>none
def za4(L S:List Str)(a:Int):Option (List Str×List Str):=(zC S).bind fun p=>if a.toNat<L.length then some (L.set a.toNat p.1,p.2) else none
def Qap(a:Int)(t:Str):List Str:=if a=12 then [] else if a=9\/a=10\/a=11 then [kI] else [t]
def Qav(t:Str):Str:=if (t.toList==[73])=true then kJ else kI
def qdx(L S:List Str):Option (List Str×List Str):=(zC S).bind fun p=>if zaW (Zr p.1) then some (L,p.2) else none
def zE(cs:List qa)(Zb:Str)(x:Ins)(L S:List Str):Option (List Str×List Str) :=
 if x.op=2 then qq L S x.type
 else if x.op=3 then qq L S kN
 else if x.op=4 then zbE L S x.a
 else if x.op=5 then za4 L S x.a
 else if x.op=6 then (zC S).map fun p=>(L,p.2)
 else if x.op=7 then (zC S).bind fun p=>(QP p.2 p.1).bind fun S1=>qq L S1 p.1
 else if x.op=8 then (zC S).bind fun p=>(zC p.2).bind fun q=>(QP q.2 p.1).bind fun S1=>qq L S1 q.1
 else if x.op=9 then (zg cs (Qap x.a x.type) S).bind fun S1=>(zg cs [x.type] S1).bind fun S2=>qq L S2 x.type
 else if x.op=10 then (zg cs [Qav x.type] S).bind fun S1=>qq L S1 x.type
 else if x.op=11 then (zg cs [kJ,kJ] S).bind fun S1=>qq L S1 kI
 else if x.op=12 then (zg cs [kI] S).map fun S1=>(L,S1)
 else if x.op=13 then qdx L S
 else if x.op=26 then if (Zb.toList==[86])=true then some (L,S) else none
 else if x.op=27 then if (Zb.toList==[86])=true then none else (zg cs [Zb] S).map fun S1=>(L,S1)
 else if x.op=28 then (zg cs [Qc Zan] S).map fun S1=>(L,S1)
 else some (L,S)
theorem zq{α β:Type}{o:Option α}{f:α->Option β}(h:o=none):o.bind f=none:=by rw[h];rfl
theorem Zf{α β:Type}{o:Option α}{f:α->Option β}{x:α}(h:o=some x):o.bind f=f x:=by rw[h];rfl
theorem QaZ{α β:Type}{o:Option α}{f:α->β}(h:o=none):o.map f=none:=by rw[h];rfl
theorem zaf{α β:Type}{o:Option α}{f:α->β}{x:α}(h:o=some x):o.map f=some (f x):=by rw[h];rfl
theorem qd{o:Option (List Str×List Str)}(h:o=none):Zm o=none:=by rw[h];rfl
theorem Zj{o:Option (List Str×List Str)}{L S:List Str}(h:o=some (L,S)):Zm o=some (.tuple #[],L,S):=by rw[h];rfl
theorem qA{L S:List Str}{k:Str}(h:QP S k=none):qq L S k=none:=QaZ h
theorem Zz{L S S':List Str}{k:Str}(h:QP S k=some S'):qq L S k=some (L,S'):=zaf h
theorem zi{cs:List qa}:∀{C S S':List Str},zg cs C S=some S'->ql cs S->ql cs S'
 |[],S,S',h,B=>by injection h with h;subst h;exact B
 |k::r,S,S',h,B=>by
  unfold zg at h;split at h
  ·cases h
  ·cases A:zC S with
   |none=>rw[A]at h;cases h
   |some p =>
    obtain⟨t,D⟩:=p;rw[A]at h;dsimp only at h;split at h
    ·exact zi h (Qal A B).2
    ·cases h
structure SA (w0 w:World) (B:Nat) (l:List qa) (base:Nat) (ws:World) (lv0 sv0:Value) (sb:Nat) (qb Zb:Str) (xb:Nat) (xv:List Value) (wx:World) (lv sv:Value) (L S:List Str):Prop where
 env:Env w0 w B l base wx
 step:Qh base wx sb B qb Zb lv sv L S
 box:Blk wx xb 34 xv
 apart:Qa6 sb lv sv xb
 below:Below base ws wx
 kp:Kp sb lv0 sv0 ws lv sv wx
variable {w0 w:World} {B:Nat} {l:List qa} {base:Nat} {ws:World} {lv0 sv0:Value} {sb:Nat} {qb Zb:Str} {xb:Nat} {xv:List Value} {wx:World} {lv sv:Value} {L S:List Str}
theorem SA.new(C:Env w0 w B l base ws)(h:Qh base ws sb B qb Zb lv0 sv0 L S)(xv:List Value):SA w0 w B l base ws lv0 sv0 sb qb Zb ws.heap.size xv (ws.alloc (.cells xv.toArray 34)) lv0 sv0 L S :=
 have A:=(Below.refl ws.heap.size ws).alloc Xl (.cells xv.toArray 34);⟨C.step (A.mono h.size),h.step A,Blk.new ws 34 xv,h.fresh Xl,A.mono h.size,Kp.below A⟩
theorem SA.next(T:SA w0 w B l base ws lv0 sv0 sb qb Zb xb xv wx lv sv L S){w':World}{A C:Value}{E S':List Str}(F:Below base wx w')(h:Qh base w' sb B qb Zb A C E S')(D:Kp sb lv sv wx A C w'):SA w0 w B l base ws lv0 sv0 sb qb Zb xb xv w' A C E S' :=
 ⟨T.env.step F,h,D.blk T.box T.apart,(D.2 xb T.box.lt T.apart).2,T.below.trans F,T.kp.trans D T.below.size⟩
theorem SA.over(T:SA w0 w B l base ws lv0 sv0 sb qb Zb xb xv wx lv sv L S){w':World}(A:Below wx.heap.size wx w'):SA w0 w B l base ws lv0 sv0 sb qb Zb xb xv w' lv sv L S :=
 T.next (T.step.over A) (T.step.step A) (Kp.below A)
theorem SA.alloc(T:SA w0 w B l base ws lv0 sv0 sb qb Zb xb xv wx lv sv L S)(o:Obj):SA w0 w B l base ws lv0 sv0 sb qb Zb xb xv (wx.alloc o) lv sv L S:=T.over (Xb.alloc Xl o)
theorem SA.stop(T:SA w0 w B l base ws lv0 sv0 sb qb Zb xb xv wx lv sv L S){w':World}(A:Below base wx w'){r:Option (Value×List Str×List Str)}(C:r=none):qf base ws sb B qb Zb lv0 sv0 r (.panicked [qaN]) w':=by subst C;exact qf.no (T.below.trans A)
theorem SA.done(T:SA w0 w B l base ws lv0 sv0 sb qb Zb xb xv wx lv sv L S){v:Value}{r:Option (Value×List Str×List Str)}(A:r=some (v,L,S)):qf base ws sb B qb Zb lv0 sv0 r (.returned v) wx:=by subst A;exact qf.ok T.below T.step T.kp
theorem SA.put(T:SA w0 w B l base ws lv0 sv0 sb qb Zb xb xv wx lv sv L S)(k:Str):Calls prog 166 #[.pointer (some ⟨sb,0,none⟩),.string k] wx (qf base wx sb B qb Zb lv sv ((QP S k).map fun S'=>(.tuple #[],L,S'))):=QeS base wx sb B qb Zb lv sv L S T.step k
theorem SA.pop(T:SA w0 w B l base ws lv0 sv0 sb qb Zb xb xv wx lv sv L S):Calls prog 168 #[.pointer (some ⟨sb,0,none⟩)] wx (qf base wx sb B qb Zb lv sv ((zC S).map fun p=>(.string p.1,L,p.2))):=Zdd base wx sb B qb Zb lv sv L S T.step
theorem SA.knows(T:SA w0 w B l base ws lv0 sv0 sb qb Zb xb xv wx lv sv L S)(t:Str)(A:t.size<=maxLen):Calls prog 172 #[.pointer (some ⟨sb,0,none⟩),.string t] wx (qf base wx sb B qb Zb lv sv (Zb6 (Za l) t L S)):=QcW w0 w B l base wx T.env sb qb Zb lv sv L S T.step t A
theorem SA.ref(T:SA w0 w B l base ws lv0 sv0 sb qb Zb xb xv wx lv sv L S)(A:ql (Za l) S):Calls prog 171 #[.pointer (some ⟨sb,0,none⟩)] wx (qf base wx sb B qb Zb lv sv ((zC S).bind fun p=>if zaW (Zr p.1) then some (.string p.1,L,p.2) else none)):=Qfb w0 w B l base wx T.env sb qb Zb lv sv L S T.step A
theorem SA.take(T:SA w0 w B l base ws lv0 sv0 sb qb Zb xb xv wx lv sv L S)(G:ql (Za l) S)(A:List Str)(C:Value)(D:QaI wx C A sb lv sv)(E:∀k∈A,k.size<=maxLen)(F:A.length<=4194304):Calls prog 169 #[.pointer (some ⟨sb,0,none⟩),C] wx (qf base wx sb B qb Zb lv sv ((zg (Za l) A S).map fun S'=>(.tuple #[],L,S'))):=ZeT w0 w B l base wx T.env sb qb Zb lv sv L S T.step G A C D E F
theorem SA.take1(T:SA w0 w B l base ws lv0 sv0 sb qb Zb xb xv wx lv sv L S)(D:ql (Za l) S)(k:Str)(E:k.size<=maxLen):Calls prog 169 #[.pointer (some ⟨sb,0,none⟩),.slice (some ⟨wx.heap.size,0,none⟩) 1 1] (wx.alloc (.cells #[.string k] 9)) (qf base (wx.alloc (.cells #[.string k] 9)) sb B qb Zb lv sv ((zg (Za l) [k] S).map fun S'=>(.tuple #[],L,S'))) :=
 (T.alloc (.cells #[.string k] 9)).take D [k] _ ⟨qbR wx k,fun g A=>by
  injection A with A
  subst A;exact⟨by simp,T.step.fresh Xl⟩⟩ (fun x C=>by simp at C;subst C;exact E) (by simp)
theorem SA.take2(T:SA w0 w B l base ws lv0 sv0 sb qb Zb xb xv wx lv sv L S)(D:ql (Za l) S)(k m:Str)(E:k.size<=maxLen)(F:m.size<=maxLen):Calls prog 169 #[.pointer (some ⟨sb,0,none⟩),.slice (some ⟨wx.heap.size,0,none⟩) 2 2] (wx.alloc (.cells #[.string k,.string m] 9)) (qf base (wx.alloc (.cells #[.string k,.string m] 9)) sb B qb Zb lv sv ((zg (Za l) [k,m] S).map fun S'=>(.tuple #[],L,S'))) :=
 (T.alloc (.cells #[.string k,.string m] 9)).take D [k,m] _ ⟨Zk (l:=[k,m]) (World.ownsRow_lit (base:=wx.heap.size) (e:=9) (size:=1) wx #[.string k,.string m] 2 Xl (by decide) rfl),fun g A=>by
  injection A with A
  subst A;exact⟨by simp,T.step.fresh Xl⟩⟩ (fun x C=>by
   simp at C;rcases C with rfl|rfl
   ·exact E
   ·exact F) (by simp)
theorem SA.putN(T:SA w0 w B l base ws lv0 sv0 sb qb Zb xb xv wx lv sv L S)(k:Str)(A:QP S k=none):Calls prog 166 #[.pointer (some ⟨sb,0,none⟩),.string k] wx (qf base wx sb B qb Zb lv sv none):=by
 have h:=T.put k;rw[A]at h;exact h
theorem SA.putY(T:SA w0 w B l base ws lv0 sv0 sb qb Zb xb xv wx lv sv L S)(k:Str){S':List Str}(A:QP S k=some S'):Calls prog 166 #[.pointer (some ⟨sb,0,none⟩),.string k] wx (qf base wx sb B qb Zb lv sv (some (.tuple #[],L,S'))):=by
 have h:=T.put k;rw[A]at h;exact h
theorem SA.popN(T:SA w0 w B l base ws lv0 sv0 sb qb Zb xb xv wx lv sv L S)(A:zC S=none):Calls prog 168 #[.pointer (some ⟨sb,0,none⟩)] wx (qf base wx sb B qb Zb lv sv none):=by
 have h:=T.pop;rw[A]at h;exact h
theorem SA.popY(T:SA w0 w B l base ws lv0 sv0 sb qb Zb xb xv wx lv sv L S){k:Str}{S':List Str}(A:zC S=some (k,S')):Calls prog 168 #[.pointer (some ⟨sb,0,none⟩)] wx (qf base wx sb B qb Zb lv sv (some (.string k,L,S'))):=by
 have h:=T.pop;rw[A]at h;exact h
theorem SA.takeON(T:SA w0 w B l base ws lv0 sv0 sb qb Zb xb xv wx lv sv L S)(A:ql (Za l) S)(k:Str)(C:k.size<=maxLen)(g:Nat)(D:g=wx.heap.size)(E:zg (Za l) [k] S=none):Calls prog 169 #[.pointer (some ⟨sb,0,none⟩),.slice (some ⟨g,0,none⟩) 1 1] (wx.alloc (.cells #[.string k] 9)) (qf base (wx.alloc (.cells #[.string k] 9)) sb B qb Zb lv sv none):=by
 subst D;have h:=T.take1 A k C;rw[E]at h;exact h
theorem SA.takeOY(T:SA w0 w B l base ws lv0 sv0 sb qb Zb xb xv wx lv sv L S)(A:ql (Za l) S)(k:Str)(C:k.size<=maxLen){S':List Str}(g:Nat)(D:g=wx.heap.size)(E:zg (Za l) [k] S=some S'):Calls prog 169 #[.pointer (some ⟨sb,0,none⟩),.slice (some ⟨g,0,none⟩) 1 1] (wx.alloc (.cells #[.string k] 9)) (qf base (wx.alloc (.cells #[.string k] 9)) sb B qb Zb lv sv (some (.tuple #[],L,S'))):=by
 subst D;have h:=T.take1 A k C;rw[E]at h;exact h
theorem SA.takeTN(T:SA w0 w B l base ws lv0 sv0 sb qb Zb xb xv wx lv sv L S)(A:ql (Za l) S)(k m:Str)(C:k.size<=maxLen)(D:m.size<=maxLen)(g:Nat)(E:g=wx.heap.size)(F:zg (Za l) [k,m] S=none):Calls prog 169 #[.pointer (some ⟨sb,0,none⟩),.slice (some ⟨g,0,none⟩) 2 2] (wx.alloc (.cells #[.string k,.string m] 9)) (qf base (wx.alloc (.cells #[.string k,.string m] 9)) sb B qb Zb lv sv none):=by
 subst E;have h:=T.take2 A k m C D;rw[F]at h;exact h
theorem SA.takeTY(T:SA w0 w B l base ws lv0 sv0 sb qb Zb xb xv wx lv sv L S)(A:ql (Za l) S)(k m:Str)(C:k.size<=maxLen)(D:m.size<=maxLen){S':List Str}(g:Nat)(E:g=wx.heap.size)(F:zg (Za l) [k,m] S=some S'):Calls prog 169 #[.pointer (some ⟨sb,0,none⟩),.slice (some ⟨g,0,none⟩) 2 2] (wx.alloc (.cells #[.string k,.string m] 9)) (qf base (wx.alloc (.cells #[.string k,.string m] 9)) sb B qb Zb lv sv (some (.tuple #[],L,S'))):=by
 subst E;have h:=T.take2 A k m C D;rw[F]at h;exact h
theorem SA.takeAN(T:SA w0 w B l base ws lv0 sv0 sb qb Zb xb xv wx lv sv L S)(G:ql (Za l) S)(A:List Str)(C:Value)(D:QaI wx C A sb lv sv)(E:∀k∈A,k.size<=maxLen)(F:A.length<=4194304)(H:zg (Za l) A S=none):Calls prog 169 #[.pointer (some ⟨sb,0,none⟩),C] wx (qf base wx sb B qb Zb lv sv none):=by
 have h:=T.take G A C D E F;rw[H]at h;exact h
theorem SA.takeAY(T:SA w0 w B l base ws lv0 sv0 sb qb Zb xb xv wx lv sv L S)(G:ql (Za l) S)(A:List Str)(C:Value)(D:QaI wx C A sb lv sv)(E:∀k∈A,k.size<=maxLen)(F:A.length<=4194304){S':List Str}(H:zg (Za l) A S=some S'):Calls prog 169 #[.pointer (some ⟨sb,0,none⟩),C] wx (qf base wx sb B qb Zb lv sv (some (.tuple #[],L,S'))):=by
 have h:=T.take G A C D E F;rw[H]at h;exact h
theorem SA.knowsN(T:SA w0 w B l base ws lv0 sv0 sb qb Zb xb xv wx lv sv L S)(t:Str)(A:t.size<=maxLen)(C:Zg (Za l) t≠0):Calls prog 172 #[.pointer (some ⟨sb,0,none⟩),.string t] wx (qf base wx sb B qb Zb lv sv none):=by
 have h:=T.knows t A;unfold Zb6 at h;rw[if_neg C]at h;exact h
theorem SA.knowsY(T:SA w0 w B l base ws lv0 sv0 sb qb Zb xb xv wx lv sv L S)(t:Str)(A:t.size<=maxLen)(C:Zg (Za l) t=0):Calls prog 172 #[.pointer (some ⟨sb,0,none⟩),.string t] wx (qf base wx sb B qb Zb lv sv (some (.tuple #[],L,S))):=by
 have h:=T.knows t A;unfold Zb6 at h;rw[if_pos C]at h;exact h
def QD(S:List Str):Option (Str×List Str):=(zC S).bind fun p=>if zaW (Zr p.1) then some p else none
theorem Zea(L S:List Str):((zC S).bind fun p=>if zaW (Zr p.1) then some ((.string p.1:Value),L,p.2) else none)=(QD S).map fun p=>(.string p.1,L,p.2):=by
 unfold QD;cases zC S with
 |none=>rfl
 |some p =>
  obtain⟨k,S'⟩:=p;simp only[Option.bind_some];split<;>rfl
theorem qci(L S:List Str):qdx L S=(QD S).map fun p=>(L,p.2):=by
 unfold QD qdx;cases zC S with
 |none=>rfl
 |some p =>
  obtain⟨k,S'⟩:=p;simp only[Option.bind_some];split<;>rfl
theorem SA.refN(T:SA w0 w B l base ws lv0 sv0 sb qb Zb xb xv wx lv sv L S)(A:ql (Za l) S)(C:QD S=none):Calls prog 171 #[.pointer (some ⟨sb,0,none⟩)] wx (qf base wx sb B qb Zb lv sv none):=by
 have h:=T.ref A;rw[Zea,C]at h;exact h
theorem SA.refY(T:SA w0 w B l base ws lv0 sv0 sb qb Zb xb xv wx lv sv L S)(A:ql (Za l) S){k:Str}{S':List Str}(C:QD S=some (k,S')):Calls prog 171 #[.pointer (some ⟨sb,0,none⟩)] wx (qf base wx sb B qb Zb lv sv (some (.string k,L,S'))):=by
 have h:=T.ref A;rw[Zea,C]at h;exact h
theorem SA.cells{w0 w:World}{B:Nat}{l:List qa}{base:Nat}{ws:World}{lv0 sv0:Value}{sb:Nat}{qb Zb:Str}{xb:Nat}{A C D E F G:Value}{wx:World}{lv sv:Value}{L S:List Str}(T:SA w0 w B l base ws lv0 sv0 sb qb Zb xb [A,C,D,E,F,G] wx lv sv L S):wx.cell? ⟨xb,0,none⟩=some A/\wx.cell? ⟨xb,1,none⟩=some C/\wx.cell? ⟨xb,2,none⟩=some D/\wx.cell? ⟨xb,3,none⟩=some E/\wx.cell? ⟨xb,4,none⟩=some F/\wx.cell? ⟨xb,5,none⟩=some G:=T.box.cells6
theorem Qdx:(Qc Zan).size<=maxLen:=by decide
theorem Qaj(u:UInt8):(⟨#[u]⟩:Str).size<=maxLen:=by show 1<=maxLen;decide
theorem zfc(w0 w:World)(B:Nat)(l:List qa)(base:Nat)(ws:World)(I:Env w0 w B l base ws)(sb:Nat)(qb Zb:Str)(lv sv:Value)(L S:List Str)(h:Qh base ws sb B qb Zb lv sv L S)(_hS:ql (Za l) S)(a b:Int)(A cls name:Str)(_hty:A.size<=maxLen)(_hgi:Zb.size<=maxLen):
 Calls prog 138 #[.pointer (some ⟨sb,0,none⟩),.agg #[.int .i64 2,.int .i64 a,.int .i64 b,.string A,.string cls,.string name]] ws (qf base ws sb B qb Zb lv sv (Zm (qq L S A))):=by
 have D:SA w0 w B l base ws lv sv sb qb Zb ws.heap.size [.int .i64 2,.int .i64 a,.int .i64 b,.string A,.string cls,.string name] (ws.alloc (.cells #[.int .i64 2,.int .i64 a,.int .i64 b,.string A,.string cls,.string name] 34)) lv sv L S:=SA.new I h _;obtain⟨N,O,P,R,T,U⟩:=D.cells;obtain⟨V,C⟩:∃r,Zm (qq L S A)=r:=⟨_,rfl⟩;have J:=Xh C;rw[C];clear C I h;go_enter func138,ntmps138;go_wp2_with (first
  |(go_at_call 166;rcases hq0:QP S A with _|d;(with_reducible refine(D.putN A hq0).mono ?_);(rintro e c H;obtain⟨X,rfl⟩:=H.no';exact And.intro rfl (D.stop X (J.out.symm.trans (qd (qA hq0)))));(with_reducible refine(D.putY A hq0).mono ?_);rintro e c H;obtain⟨E,rfl,Y,Z,F,G⟩:=H.ok';(have M:=D.next E F G);obtain⟨N,O,P,R,T,U⟩:=M.cells))
 go_end0;exact M.done (J.out.symm.trans (Zj (Zz hq0)))
theorem Zfc(w0 w:World)(B:Nat)(l:List qa)(base:Nat)(ws:World)(I:Env w0 w B l base ws)(sb:Nat)(qb Zb:Str)(lv sv:Value)(L S:List Str)(h:Qh base ws sb B qb Zb lv sv L S)(_hS:ql (Za l) S)(a b:Int)(A cls name:Str)(_hty:A.size<=maxLen)(_hgi:Zb.size<=maxLen):
 Calls prog 138 #[.pointer (some ⟨sb,0,none⟩),.agg #[.int .i64 3,.int .i64 a,.int .i64 b,.string A,.string cls,.string name]] ws (qf base ws sb B qb Zb lv sv (Zm (qq L S kN))):=by
 have D:SA w0 w B l base ws lv sv sb qb Zb ws.heap.size [.int .i64 3,.int .i64 a,.int .i64 b,.string A,.string cls,.string name] (ws.alloc (.cells #[.int .i64 3,.int .i64 a,.int .i64 b,.string A,.string cls,.string name] 34)) lv sv L S:=SA.new I h _;obtain⟨N,O,P,R,T,U⟩:=D.cells;obtain⟨V,C⟩:∃r,Zm (qq L S kN)=r:=⟨_,rfl⟩;have J:=Xh C;rw[C];unfold kN at *;clear C I h;go_enter func138,ntmps138;go_wp2_with (first
  |(go_at_call 166;rcases hq0:QP S ⟨#[78]⟩ with _|d;(with_reducible refine(D.putN ⟨#[78]⟩ hq0).mono ?_);(rintro e c H;obtain⟨X,rfl⟩:=H.no';exact And.intro rfl (D.stop X (J.out.symm.trans (qd (qA hq0)))));(with_reducible refine(D.putY ⟨#[78]⟩ hq0).mono ?_);rintro e c H;obtain⟨E,rfl,Y,Z,F,G⟩:=H.ok';(have M:=D.next E F G);obtain⟨N,O,P,R,T,U⟩:=M.cells))
 go_end0;exact M.done (J.out.symm.trans (Zj (Zz hq0)))
theorem qfc(w0 w:World)(B:Nat)(l:List qa)(base:Nat)(ws:World)(I:Env w0 w B l base ws)(sb:Nat)(qb Zb:Str)(lv sv:Value)(L S:List Str)(h:Qh base ws sb B qb Zb lv sv L S)(_hS:ql (Za l) S)(a b:Int)(A cls name:Str)(_hty:A.size<=maxLen)(_hgi:Zb.size<=maxLen):
 Calls prog 138 #[.pointer (some ⟨sb,0,none⟩),.agg #[.int .i64 6,.int .i64 a,.int .i64 b,.string A,.string cls,.string name]] ws (qf base ws sb B qb Zb lv sv (Zm ((zC S).map fun p=>(L,p.2)))):=by
 have D:SA w0 w B l base ws lv sv sb qb Zb ws.heap.size [.int .i64 6,.int .i64 a,.int .i64 b,.string A,.string cls,.string name] (ws.alloc (.cells #[.int .i64 6,.int .i64 a,.int .i64 b,.string A,.string cls,.string name] 34)) lv sv L S:=SA.new I h _;obtain⟨N,O,P,R,T,U⟩:=D.cells;obtain⟨V,C⟩:∃r,Zm ((zC S).map fun p=>(L,p.2))=r:=⟨_,rfl⟩;have J:=Xh C;rw[C];clear C I h;go_enter func138,ntmps138;go_wp2_with (first
  |(go_at_call 168;rcases hq0:zC S with _|⟨d,f⟩;(with_reducible refine(D.popN hq0).mono ?_);(rintro e c H;obtain⟨X,rfl⟩:=H.no';exact And.intro rfl (D.stop X (J.out.symm.trans (qd (QaZ hq0)))));(with_reducible refine(D.popY hq0).mono ?_);rintro e c H;obtain⟨E,rfl,Y,Z,F,G⟩:=H.ok';(have M:=D.next E F G);obtain⟨N,O,P,R,T,U⟩:=M.cells))
 go_end0;exact M.done (J.out.symm.trans (Zj (zaf hq0)))
theorem Qfc(w0 w:World)(B:Nat)(l:List qa)(base:Nat)(ws:World)(j:Env w0 w B l base ws)(sb:Nat)(qb Zb:Str)(lv sv:Value)(L S:List Str)(h:Qh base ws sb B qb Zb lv sv L S)(_hS:ql (Za l) S)(a b:Int)(A cls name:Str)(_hty:A.size<=maxLen)(_hgi:Zb.size<=maxLen):
 Calls prog 138 #[.pointer (some ⟨sb,0,none⟩),.agg #[.int .i64 7,.int .i64 a,.int .i64 b,.string A,.string cls,.string name]] ws (qf base ws sb B qb Zb lv sv (Zm ((zC S).bind fun p=>(QP p.2 p.1).bind fun J=>qq L J p.1))):=by
 have F:SA w0 w B l base ws lv sv sb qb Zb ws.heap.size [.int .i64 7,.int .i64 a,.int .i64 b,.string A,.string cls,.string name] (ws.alloc (.cells #[.int .i64 7,.int .i64 a,.int .i64 b,.string A,.string cls,.string name] 34)) lv sv L S:=SA.new j h _;obtain⟨N,O,P,R,T,U⟩:=F.cells;obtain⟨m,C⟩:∃r,Zm ((zC S).bind fun p=>(QP p.2 p.1).bind fun J=>qq L J p.1)=r:=⟨_,rfl⟩;have M:=Xh C;rw[C];clear C j h;go_enter func138,ntmps138;go_wp2_with (first
  |(go_at_call 168;rcases hq0:zC S with _|⟨E,J⟩;(with_reducible refine(F.popN hq0).mono ?_);(rintro e x D;obtain⟨I,rfl⟩:=D.no';exact And.intro rfl (F.stop I (M.out.symm.trans (qd (zq hq0)))));(with_reducible refine(F.popY hq0).mono ?_);rintro e x D;obtain⟨V,rfl,n,o,X,Y⟩:=D.ok';(have G:=F.next V X Y);obtain⟨N,O,P,R,T,U⟩:=G.cells)
  |(go_at_call 166;rcases hq1:QP J E with _|S2;(with_reducible refine(G.putN E hq1).mono ?_);(rintro e y D;obtain⟨I,rfl⟩:=D.no';exact And.intro rfl (G.stop I (M.out.symm.trans (qd ((Zf hq0).trans (zq hq1))))));(with_reducible refine(G.putY E hq1).mono ?_);rintro e y D;obtain⟨Z,rfl,q,s,c,d⟩:=D.ok';(have H:=G.next Z c d);obtain⟨N,O,P,R,T,U⟩:=H.cells)
  |(go_at_call 166;rcases hq2:QP S2 E with _|S3;(with_reducible refine(H.putN E hq2).mono ?_);(rintro e z D;obtain⟨I,rfl⟩:=D.no';exact And.intro rfl (H.stop I (M.out.symm.trans (qd ((Zf hq0).trans ((Zf hq1).trans (qA hq2)))))));(with_reducible refine(H.putY E hq2).mono ?_);rintro e z D;obtain⟨f,rfl,t,v,g,i⟩:=D.ok';(have k:=H.next f g i);obtain⟨N,O,P,R,T,U⟩:=k.cells))
 go_end0;exact k.done (M.out.symm.trans (Zj ((Zf hq0).trans ((Zf hq1).trans (Zz hq2)))))
theorem zfd(w0 w:World)(B:Nat)(l:List qa)(base:Nat)(ws:World)(s:Env w0 w B l base ws)(sb:Nat)(qb Zb:Str)(lv sv:Value)(L S:List Str)(h:Qh base ws sb B qb Zb lv sv L S)(_hS:ql (Za l) S)(a b:Int)(C cls name:Str)(_hty:C.size<=maxLen)(_hgi:Zb.size<=maxLen):
 Calls prog 138 #[.pointer (some ⟨sb,0,none⟩),.agg #[.int .i64 8,.int .i64 a,.int .i64 b,.string C,.string cls,.string name]] ws (qf base ws sb B qb Zb lv sv (Zm ((zC S).bind fun p=>(zC p.2).bind fun q=>(QP q.2 p.1).bind fun M=>qq L M q.1))):=by
 have F:SA w0 w B l base ws lv sv sb qb Zb ws.heap.size [.int .i64 8,.int .i64 a,.int .i64 b,.string C,.string cls,.string name] (ws.alloc (.cells #[.int .i64 8,.int .i64 a,.int .i64 b,.string C,.string cls,.string name] 34)) lv sv L S:=SA.new s h _;obtain⟨N,O,P,R,T,U⟩:=F.cells;obtain⟨v,D⟩:∃r,Zm ((zC S).bind fun p=>(zC p.2).bind fun q=>(QP q.2 p.1).bind fun M=>qq L M q.1)=r:=⟨_,rfl⟩;have G:=Xh D;rw[D];clear D s h;go_enter func138,ntmps138;go_wp2_with (first
  |(go_at_call 168;rcases hq0:zC S with _|⟨n,M⟩;(with_reducible refine(F.popN hq0).mono ?_);(rintro e w1 A;obtain⟨E,rfl⟩:=A.no';exact And.intro rfl (F.stop E (G.out.symm.trans (qd (zq hq0)))));(with_reducible refine(F.popY hq0).mono ?_);rintro e w1 A;obtain⟨V,rfl,x,y,X,Y⟩:=A.ok';(have H:=F.next V X Y);obtain⟨N,O,P,R,T,U⟩:=H.cells)
  |(go_at_call 168;rcases hq1:zC M with _|⟨o,S2⟩;(with_reducible refine(H.popN hq1).mono ?_);(rintro e w2 A;obtain⟨E,rfl⟩:=A.no';exact And.intro rfl (H.stop E (G.out.symm.trans (qd ((Zf hq0).trans (zq hq1))))));(with_reducible refine(H.popY hq1).mono ?_);rintro e w2 A;obtain⟨Z,rfl,z,aA,c,d⟩:=A.ok';(have I:=H.next Z c d);obtain⟨N,O,P,R,T,U⟩:=I.cells)
  |(go_at_call 166;rcases hq2:QP S2 n with _|S3;(with_reducible refine(I.putN n hq2).mono ?_);(rintro e w3 A;obtain⟨E,rfl⟩:=A.no';exact And.intro rfl (I.stop E (G.out.symm.trans (qd ((Zf hq0).trans ((Zf hq1).trans (zq hq2)))))));(with_reducible refine(I.putY n hq2).mono ?_);rintro e w3 A;obtain⟨f,rfl,aB,aC,g,i⟩:=A.ok';(have J:=I.next f g i);obtain⟨N,O,P,R,T,U⟩:=J.cells)
  |(go_at_call 166;rcases hq3:QP S3 o with _|S4;(with_reducible refine(J.putN o hq3).mono ?_);(rintro e w4 A;obtain⟨E,rfl⟩:=A.no';exact And.intro rfl (J.stop E (G.out.symm.trans (qd ((Zf hq0).trans ((Zf hq1).trans ((Zf hq2).trans (qA hq3))))))));(with_reducible refine(J.putY o hq3).mono ?_);rintro e w4 A;obtain⟨j,rfl,aD,aE,k,m⟩:=A.ok';(have t:=J.next j k m);obtain⟨N,O,P,R,T,U⟩:=t.cells))
 go_end0;exact t.done (G.out.symm.trans (Zj ((Zf hq0).trans ((Zf hq1).trans ((Zf hq2).trans (Zz hq3))))))
theorem qeT(w0 w:World)(B:Nat)(l:List qa)(base:Nat)(ws:World)(V:Env w0 w B l base ws)(sb:Nat)(qb Zb:Str)(lv sv:Value)(L S:List Str)(h:Qh base ws sb B qb Zb lv sv L S)(I:ql (Za l) S)(a b:Int)(A cls name:Str)(_hty:A.size<=maxLen)(_hgi:Zb.size<=maxLen):
 Calls prog 138 #[.pointer (some ⟨sb,0,none⟩),.agg #[.int .i64 11,.int .i64 a,.int .i64 b,.string A,.string cls,.string name]] ws (qf base ws sb B qb Zb lv sv (Zm ((zg (Za l) [kJ,kJ] S).bind fun G=>qq L G kI))):=by
 have H:SA w0 w B l base ws lv sv sb qb Zb ws.heap.size [.int .i64 11,.int .i64 a,.int .i64 b,.string A,.string cls,.string name] (ws.alloc (.cells #[.int .i64 11,.int .i64 a,.int .i64 b,.string A,.string cls,.string name] 34)) lv sv L S:=SA.new V h _;obtain⟨Y,Z,c,d,f,g⟩:=H.cells;obtain⟨j,C⟩:∃r,Zm ((zg (Za l) [kJ,kJ] S).bind fun G=>qq L G kI)=r:=⟨_,rfl⟩;have J:=Xh C;rw[C];unfold kJ kI at *;clear C V h;go_enter func138,ntmps138;go_wp2_with (first
  |(go_at_call 169;have E:=H.alloc (.cells #[.string ⟨#[74]⟩,.string ⟨#[74]⟩] 9);rcases hq0:zg (Za l) [⟨#[74]⟩,⟨#[74]⟩] S with _|G;(with_reducible refine(H.takeTN I ⟨#[74]⟩ ⟨#[74]⟩ (Qaj _) (Qaj _) _ (by simp) hq0).mono ?_);(rintro e p D;obtain⟨M,rfl⟩:=D.no';exact And.intro rfl (E.stop M (J.out.symm.trans (qd (zq hq0)))));(with_reducible refine(H.takeTY I ⟨#[74]⟩ ⟨#[74]⟩ (Qaj _) (Qaj _) _ (by simp) hq0).mono ?_);rintro e p D;obtain⟨N,rfl,k,m,O,P⟩:=D.ok';(have F:=E.next N O P);(have i:=zi hq0 I);obtain⟨Y,Z,c,d,f,g⟩:=F.cells)
  |(go_at_call 166;rcases hq1:QP G ⟨#[73]⟩ with _|s;(with_reducible refine(F.putN ⟨#[73]⟩ hq1).mono ?_);(rintro e q D;obtain⟨M,rfl⟩:=D.no';exact And.intro rfl (F.stop M (J.out.symm.trans (qd ((Zf hq0).trans (qA hq1))))));(with_reducible refine(F.putY ⟨#[73]⟩ hq1).mono ?_);rintro e q D;obtain⟨R,rfl,n,o,T,U⟩:=D.ok';(have X:=F.next R T U);obtain⟨Y,Z,c,d,f,g⟩:=X.cells))
 go_end0;exact X.done (J.out.symm.trans (Zj ((Zf hq0).trans (Zz hq1))))
theorem QeT(w0 w:World)(B:Nat)(l:List qa)(base:Nat)(ws:World)(N:Env w0 w B l base ws)(sb:Nat)(qb Zb:Str)(lv sv:Value)(L S:List Str)(h:Qh base ws sb B qb Zb lv sv L S)(G:ql (Za l) S)(a b:Int)(A cls name:Str)(_hty:A.size<=maxLen)(_hgi:Zb.size<=maxLen):
 Calls prog 138 #[.pointer (some ⟨sb,0,none⟩),.agg #[.int .i64 12,.int .i64 a,.int .i64 b,.string A,.string cls,.string name]] ws (qf base ws sb B qb Zb lv sv (Zm ((zg (Za l) [kI] S).map fun F=>(L,F)))):=by
 have E:SA w0 w B l base ws lv sv sb qb Zb ws.heap.size [.int .i64 12,.int .i64 a,.int .i64 b,.string A,.string cls,.string name] (ws.alloc (.cells #[.int .i64 12,.int .i64 a,.int .i64 b,.string A,.string cls,.string name] 34)) lv sv L S:=SA.new N h _;obtain⟨T,U,V,X,Y,Z⟩:=E.cells;obtain⟨c,C⟩:∃r,Zm ((zg (Za l) [kI] S).map fun F=>(L,F))=r:=⟨_,rfl⟩;have O:=Xh C;rw[C];unfold kI at *;clear C N h;go_enter func138,ntmps138;go_wp2_with (first
  |(go_at_call 169;have D:=E.alloc (.cells #[.string ⟨#[73]⟩] 9);rcases hq0:zg (Za l) [⟨#[73]⟩] S with _|F;(with_reducible refine(E.takeON G ⟨#[73]⟩ (Qaj _) _ (by simp) hq0).mono ?_);(rintro e i M;obtain⟨d,rfl⟩:=M.no';exact And.intro rfl (D.stop d (O.out.symm.trans (qd (QaZ hq0)))));(with_reducible refine(E.takeOY G ⟨#[73]⟩ (Qaj _) _ (by simp) hq0).mono ?_);rintro e i M;obtain⟨H,rfl,f,g,I,J⟩:=M.ok';(have P:=D.next H I J);(have R:=zi hq0 G);obtain⟨T,U,V,X,Y,Z⟩:=P.cells))
 go_end0;exact P.done (O.out.symm.trans (Zj (zaf hq0)))
theorem zeU(w0 w:World)(B:Nat)(l:List qa)(base:Nat)(ws:World)(I:Env w0 w B l base ws)(sb:Nat)(qb Zb:Str)(lv sv:Value)(L S:List Str)(h:Qh base ws sb B qb Zb lv sv L S)(J:ql (Za l) S)(a b:Int)(A cls name:Str)(_hty:A.size<=maxLen)(_hgi:Zb.size<=maxLen):
 Calls prog 138 #[.pointer (some ⟨sb,0,none⟩),.agg #[.int .i64 13,.int .i64 a,.int .i64 b,.string A,.string cls,.string name]] ws (qf base ws sb B qb Zb lv sv (Zm (qdx L S))):=by
 have D:SA w0 w B l base ws lv sv sb qb Zb ws.heap.size [.int .i64 13,.int .i64 a,.int .i64 b,.string A,.string cls,.string name] (ws.alloc (.cells #[.int .i64 13,.int .i64 a,.int .i64 b,.string A,.string cls,.string name] 34)) lv sv L S:=SA.new I h _;obtain⟨O,P,R,T,U,V⟩:=D.cells;obtain⟨X,C⟩:∃r,Zm (qdx L S)=r:=⟨_,rfl⟩;have M:=Xh C;rw[C];clear C I h;go_enter func138,ntmps138;go_wp2_with (first
  |(go_at_call 171;rcases hq0:QD S with _|⟨f,g⟩;(with_reducible refine(D.refN J hq0).mono ?_);(rintro e d H;obtain⟨Y,rfl⟩:=H.no';exact And.intro rfl (D.stop Y (M.out.symm.trans (qd ((qci _ _).trans (QaZ hq0))))));(with_reducible refine(D.refY J hq0).mono ?_);rintro e d H;obtain⟨E,rfl,Z,c,F,G⟩:=H.ok';(have N:=D.next E F G);obtain⟨O,P,R,T,U,V⟩:=N.cells))
 go_end0;exact N.done (M.out.symm.trans (Zj ((qci _ _).trans (zaf hq0))))
theorem ZeU(w0 w:World)(B:Nat)(l:List qa)(base:Nat)(ws:World)(X:Env w0 w B l base ws)(sb:Nat)(qb Zb:Str)(lv sv:Value)(L S:List Str)(h:Qh base ws sb B qb Zb lv sv L S)(J:ql (Za l) S)(b:Int)(A cls name:Str)(E:A.size<=maxLen)(_hgi:Zb.size<=maxLen):
 Calls prog 138 #[.pointer (some ⟨sb,0,none⟩),.agg #[.int .i64 9,.int .i64 12,.int .i64 b,.string A,.string cls,.string name]] ws (qf base ws sb B qb Zb lv sv (Zm ((zg (Za l) [A] S).bind fun I=>qq L I A))):=by
 have H:SA w0 w B l base ws lv sv sb qb Zb ws.heap.size [.int .i64 9,.int .i64 12,.int .i64 b,.string A,.string cls,.string name] (ws.alloc (.cells #[.int .i64 9,.int .i64 12,.int .i64 b,.string A,.string cls,.string name] 34)) lv sv L S:=SA.new X h _;obtain⟨Z,a,c,d,f,g⟩:=H.cells;obtain⟨j,C⟩:∃r,Zm ((zg (Za l) [A] S).bind fun I=>qq L I A)=r:=⟨_,rfl⟩;have M:=Xh C;rw[C];clear C X h;go_enter func138,ntmps138;go_wp2_with (first
  |(go_at_call 169;have F:=H.alloc (.cells #[.string A] 9);rcases hq0:zg (Za l) [A] S with _|s;(with_reducible refine(H.takeON J A E _ (by simp) hq0).mono ?_);(rintro e p D;obtain⟨N,rfl⟩:=D.no';exact And.intro rfl (F.stop N (M.out.symm.trans (qd (zq hq0)))));(with_reducible refine(H.takeOY J A E _ (by simp) hq0).mono ?_);rintro e p D;obtain⟨O,rfl,k,m,P,R⟩:=D.ok';(have G:=F.next O P R);(have i:=zi hq0 J);obtain⟨Z,a,c,d,f,g⟩:=G.cells)
  |(go_at_call 166;rcases hq1:QP s A with _|I;(with_reducible refine(G.putN A hq1).mono ?_);(rintro e q D;obtain⟨N,rfl⟩:=D.no';exact And.intro rfl (G.stop N (M.out.symm.trans (qd ((Zf hq0).trans (qA hq1))))));(with_reducible refine(G.putY A hq1).mono ?_);rintro e q D;obtain⟨T,rfl,n,o,U,V⟩:=D.ok';(have Y:=G.next T U V);obtain⟨Z,a,c,d,f,g⟩:=Y.cells))
 go_end0;exact Y.done (M.out.symm.trans (Zj ((Zf hq0).trans (Zz hq1))))
theorem Zes(w0 w:World)(B:Nat)(l:List qa)(base:Nat)(ws:World)(o:Env w0 w B l base ws)(sb:Nat)(qb Zb:Str)(lv sv:Value)(L S:List Str)(h:Qh base ws sb B qb Zb lv sv L S)(T:ql (Za l) S)(b:Int)(A cls name:Str)(F:A.size<=maxLen)(_hgi:Zb.size<=maxLen):
 Calls prog 138 #[.pointer (some ⟨sb,0,none⟩),.agg #[.int .i64 9,.int .i64 9,.int .i64 b,.string A,.string cls,.string name]] ws (qf base ws sb B qb Zb lv sv (Zm ((zg (Za l) [kI] S).bind fun M=>(zg (Za l) [A] M).bind fun N=>qq L N A))):=by
 have O:SA w0 w B l base ws lv sv sb qb Zb ws.heap.size [.int .i64 9,.int .i64 9,.int .i64 b,.string A,.string cls,.string name] (ws.alloc (.cells #[.int .i64 9,.int .i64 9,.int .i64 b,.string A,.string cls,.string name] 34)) lv sv L S:=SA.new o h _;obtain⟨U,V,X,Y,Z,a⟩:=O.cells;obtain⟨s,C⟩:∃r,Zm ((zg (Za l) [kI] S).bind fun M=>(zg (Za l) [A] M).bind fun N=>qq L N A)=r:=⟨_,rfl⟩;have P:=Xh C;rw[C];unfold kI at *;clear C o h;go_enter func138,ntmps138;go_wp2_with (first
  |(go_at_call 169;have G:=O.alloc (.cells #[.string ⟨#[73]⟩] 9);rcases hq0:zg (Za l) [⟨#[73]⟩] S with _|M;(with_reducible refine(O.takeON T ⟨#[73]⟩ (Qaj _) _ (by simp) hq0).mono ?_);(rintro e w1 D;obtain⟨J,rfl⟩:=D.no';exact And.intro rfl (G.stop J (P.out.symm.trans (qd (zq hq0)))));(with_reducible refine(O.takeOY T ⟨#[73]⟩ (Qaj _) _ (by simp) hq0).mono ?_);rintro e w1 D;obtain⟨c,rfl,t,v,d,f⟩:=D.ok';(have R:=G.next c d f);(have E:=zi hq0 T);obtain⟨U,V,X,Y,Z,a⟩:=R.cells)
  |(go_at_call 169;have H:=R.alloc (.cells #[.string A] 9);rcases hq1:zg (Za l) [A] M with _|N;(with_reducible refine(R.takeON E A F _ (by simp) hq1).mono ?_);(rintro e w2 D;obtain⟨J,rfl⟩:=D.no';exact And.intro rfl (H.stop J (P.out.symm.trans (qd ((Zf hq0).trans (zq hq1))))));(with_reducible refine(R.takeOY E A F _ (by simp) hq1).mono ?_);rintro e w2 D;obtain⟨g,rfl,x,y,i,j⟩:=D.ok';(have I:=H.next g i j);(have q:=zi hq1 E);obtain⟨U,V,X,Y,Z,a⟩:=I.cells)
  |(go_at_call 166;rcases hq2:QP N A with _|S3;(with_reducible refine(I.putN A hq2).mono ?_);(rintro e w3 D;obtain⟨J,rfl⟩:=D.no';exact And.intro rfl (I.stop J (P.out.symm.trans (qd ((Zf hq0).trans ((Zf hq1).trans (qA hq2)))))));(with_reducible refine(I.putY A hq2).mono ?_);rintro e w3 D;obtain⟨k,rfl,z,aA,m,n⟩:=D.ok';(have p:=I.next k m n);obtain⟨U,V,X,Y,Z,a⟩:=p.cells))
 go_end0;exact p.done (P.out.symm.trans (Zj ((Zf hq0).trans ((Zf hq1).trans (Zz hq2)))))
theorem ZdV(w0 w:World)(B:Nat)(l:List qa)(base:Nat)(ws:World)(o:Env w0 w B l base ws)(sb:Nat)(qb Zb:Str)(lv sv:Value)(L S:List Str)(h:Qh base ws sb B qb Zb lv sv L S)(T:ql (Za l) S)(b:Int)(A cls name:Str)(F:A.size<=maxLen)(_hgi:Zb.size<=maxLen):
 Calls prog 138 #[.pointer (some ⟨sb,0,none⟩),.agg #[.int .i64 9,.int .i64 10,.int .i64 b,.string A,.string cls,.string name]] ws (qf base ws sb B qb Zb lv sv (Zm ((zg (Za l) [kI] S).bind fun M=>(zg (Za l) [A] M).bind fun N=>qq L N A))):=by
 have O:SA w0 w B l base ws lv sv sb qb Zb ws.heap.size [.int .i64 9,.int .i64 10,.int .i64 b,.string A,.string cls,.string name] (ws.alloc (.cells #[.int .i64 9,.int .i64 10,.int .i64 b,.string A,.string cls,.string name] 34)) lv sv L S:=SA.new o h _;obtain⟨U,V,X,Y,Z,a⟩:=O.cells;obtain⟨s,C⟩:∃r,Zm ((zg (Za l) [kI] S).bind fun M=>(zg (Za l) [A] M).bind fun N=>qq L N A)=r:=⟨_,rfl⟩;have P:=Xh C;rw[C];unfold kI at *;clear C o h;go_enter func138,ntmps138;go_wp2_with (first
  |(go_at_call 169;have G:=O.alloc (.cells #[.string ⟨#[73]⟩] 9);rcases hq0:zg (Za l) [⟨#[73]⟩] S with _|M;(with_reducible refine(O.takeON T ⟨#[73]⟩ (Qaj _) _ (by simp) hq0).mono ?_);(rintro e w1 D;obtain⟨J,rfl⟩:=D.no';exact And.intro rfl (G.stop J (P.out.symm.trans (qd (zq hq0)))));(with_reducible refine(O.takeOY T ⟨#[73]⟩ (Qaj _) _ (by simp) hq0).mono ?_);rintro e w1 D;obtain⟨c,rfl,t,v,d,f⟩:=D.ok';(have R:=G.next c d f);(have E:=zi hq0 T);obtain⟨U,V,X,Y,Z,a⟩:=R.cells)
  |(go_at_call 169;have H:=R.alloc (.cells #[.string A] 9);rcases hq1:zg (Za l) [A] M with _|N;(with_reducible refine(R.takeON E A F _ (by simp) hq1).mono ?_);(rintro e w2 D;obtain⟨J,rfl⟩:=D.no';exact And.intro rfl (H.stop J (P.out.symm.trans (qd ((Zf hq0).trans (zq hq1))))));(with_reducible refine(R.takeOY E A F _ (by simp) hq1).mono ?_);rintro e w2 D;obtain⟨g,rfl,x,y,i,j⟩:=D.ok';(have I:=H.next g i j);(have q:=zi hq1 E);obtain⟨U,V,X,Y,Z,a⟩:=I.cells)
  |(go_at_call 166;rcases hq2:QP N A with _|S3;(with_reducible refine(I.putN A hq2).mono ?_);(rintro e w3 D;obtain⟨J,rfl⟩:=D.no';exact And.intro rfl (I.stop J (P.out.symm.trans (qd ((Zf hq0).trans ((Zf hq1).trans (qA hq2)))))));(with_reducible refine(I.putY A hq2).mono ?_);rintro e w3 D;obtain⟨k,rfl,z,aA,m,n⟩:=D.ok';(have p:=I.next k m n);obtain⟨U,V,X,Y,Z,a⟩:=p.cells))
 go_end0;exact p.done (P.out.symm.trans (Zj ((Zf hq0).trans ((Zf hq1).trans (Zz hq2)))))
theorem qdV(w0 w:World)(B:Nat)(l:List qa)(base:Nat)(ws:World)(o:Env w0 w B l base ws)(sb:Nat)(qb Zb:Str)(lv sv:Value)(L S:List Str)(h:Qh base ws sb B qb Zb lv sv L S)(T:ql (Za l) S)(b:Int)(A cls name:Str)(F:A.size<=maxLen)(_hgi:Zb.size<=maxLen):
 Calls prog 138 #[.pointer (some ⟨sb,0,none⟩),.agg #[.int .i64 9,.int .i64 11,.int .i64 b,.string A,.string cls,.string name]] ws (qf base ws sb B qb Zb lv sv (Zm ((zg (Za l) [kI] S).bind fun M=>(zg (Za l) [A] M).bind fun N=>qq L N A))):=by
 have O:SA w0 w B l base ws lv sv sb qb Zb ws.heap.size [.int .i64 9,.int .i64 11,.int .i64 b,.string A,.string cls,.string name] (ws.alloc (.cells #[.int .i64 9,.int .i64 11,.int .i64 b,.string A,.string cls,.string name] 34)) lv sv L S:=SA.new o h _;obtain⟨U,V,X,Y,Z,a⟩:=O.cells;obtain⟨s,C⟩:∃r,Zm ((zg (Za l) [kI] S).bind fun M=>(zg (Za l) [A] M).bind fun N=>qq L N A)=r:=⟨_,rfl⟩;have P:=Xh C;rw[C];unfold kI at *;clear C o h;go_enter func138,ntmps138;go_wp2_with (first
  |(go_at_call 169;have G:=O.alloc (.cells #[.string ⟨#[73]⟩] 9);rcases hq0:zg (Za l) [⟨#[73]⟩] S with _|M;(with_reducible refine(O.takeON T ⟨#[73]⟩ (Qaj _) _ (by simp) hq0).mono ?_);(rintro e w1 D;obtain⟨J,rfl⟩:=D.no';exact And.intro rfl (G.stop J (P.out.symm.trans (qd (zq hq0)))));(with_reducible refine(O.takeOY T ⟨#[73]⟩ (Qaj _) _ (by simp) hq0).mono ?_);rintro e w1 D;obtain⟨c,rfl,t,v,d,f⟩:=D.ok';(have R:=G.next c d f);(have E:=zi hq0 T);obtain⟨U,V,X,Y,Z,a⟩:=R.cells)
  |(go_at_call 169;have H:=R.alloc (.cells #[.string A] 9);rcases hq1:zg (Za l) [A] M with _|N;(with_reducible refine(R.takeON E A F _ (by simp) hq1).mono ?_);(rintro e w2 D;obtain⟨J,rfl⟩:=D.no';exact And.intro rfl (H.stop J (P.out.symm.trans (qd ((Zf hq0).trans (zq hq1))))));(with_reducible refine(R.takeOY E A F _ (by simp) hq1).mono ?_);rintro e w2 D;obtain⟨g,rfl,x,y,i,j⟩:=D.ok';(have I:=H.next g i j);(have q:=zi hq1 E);obtain⟨U,V,X,Y,Z,a⟩:=I.cells)
  |(go_at_call 166;rcases hq2:QP N A with _|S3;(with_reducible refine(I.putN A hq2).mono ?_);(rintro e w3 D;obtain⟨J,rfl⟩:=D.no';exact And.intro rfl (I.stop J (P.out.symm.trans (qd ((Zf hq0).trans ((Zf hq1).trans (qA hq2)))))));(with_reducible refine(I.putY A hq2).mono ?_);rintro e w3 D;obtain⟨k,rfl,z,aA,m,n⟩:=D.ok';(have p:=I.next k m n);obtain⟨U,V,X,Y,Z,a⟩:=p.cells))
 go_end0;exact p.done (P.out.symm.trans (Zj ((Zf hq0).trans ((Zf hq1).trans (Zz hq2)))))
theorem qeU(w0 w:World)(B:Nat)(l:List qa)(base:Nat)(ws:World)(p:Env w0 w B l base ws)(sb:Nat)(qb Zb:Str)(lv sv:Value)(L S:List Str)(h:Qh base ws sb B qb Zb lv sv L S)(T:ql (Za l) S)(a b:Int)(A cls name:Str)(E:A.size<=maxLen)(_hgi:Zb.size<=maxLen)(s:(a==12)=false)(h9:(a==9)=false)(t:(a==10)=false)(v:(a==11)=false):
 Calls prog 138 #[.pointer (some ⟨sb,0,none⟩),.agg #[.int .i64 9,.int .i64 a,.int .i64 b,.string A,.string cls,.string name]] ws (qf base ws sb B qb Zb lv sv (Zm ((zg (Za l) [A] S).bind fun M=>(zg (Za l) [A] M).bind fun N=>qq L N A))):=by
 have O:SA w0 w B l base ws lv sv sb qb Zb ws.heap.size [.int .i64 9,.int .i64 a,.int .i64 b,.string A,.string cls,.string name] (ws.alloc (.cells #[.int .i64 9,.int .i64 a,.int .i64 b,.string A,.string cls,.string name] 34)) lv sv L S:=SA.new p h _;obtain⟨U,V,X,Y,Z,c⟩:=O.cells;obtain⟨y,C⟩:∃r,Zm ((zg (Za l) [A] S).bind fun M=>(zg (Za l) [A] M).bind fun N=>qq L N A)=r:=⟨_,rfl⟩;have P:=Xh C;rw[C];clear C p h;go_enter func138,ntmps138;go_wp2_with (first
  |(go_at_call 169;have G:=O.alloc (.cells #[.string A] 9);rcases hq0:zg (Za l) [A] S with _|M;(with_reducible refine(O.takeON T A E _ (by simp) hq0).mono ?_);(rintro e w1 D;obtain⟨J,rfl⟩:=D.no';exact And.intro rfl (G.stop J (P.out.symm.trans (qd (zq hq0)))));(with_reducible refine(O.takeOY T A E _ (by simp) hq0).mono ?_);rintro e w1 D;obtain⟨d,rfl,z,aA,f,g⟩:=D.ok';(have R:=G.next d f g);(have F:=zi hq0 T);obtain⟨U,V,X,Y,Z,c⟩:=R.cells)
  |(go_at_call 169;have H:=R.alloc (.cells #[.string A] 9);rcases hq1:zg (Za l) [A] M with _|N;(with_reducible refine(R.takeON F A E _ (by simp) hq1).mono ?_);(rintro e w2 D;obtain⟨J,rfl⟩:=D.no';exact And.intro rfl (H.stop J (P.out.symm.trans (qd ((Zf hq0).trans (zq hq1))))));(with_reducible refine(R.takeOY F A E _ (by simp) hq1).mono ?_);rintro e w2 D;obtain⟨i,rfl,aB,aC,j,k⟩:=D.ok';(have I:=H.next i j k);(have x:=zi hq1 F);obtain⟨U,V,X,Y,Z,c⟩:=I.cells)
  |(go_at_call 166;rcases hq2:QP N A with _|S3;(with_reducible refine(I.putN A hq2).mono ?_);(rintro e w3 D;obtain⟨J,rfl⟩:=D.no';exact And.intro rfl (I.stop J (P.out.symm.trans (qd ((Zf hq0).trans ((Zf hq1).trans (qA hq2)))))));(with_reducible refine(I.putY A hq2).mono ?_);rintro e w3 D;obtain⟨m,rfl,aD,aE,n,o⟩:=D.ok';(have q:=I.next m n o);obtain⟨U,V,X,Y,Z,c⟩:=q.cells))
 go_end0;exact q.done (P.out.symm.trans (Zj ((Zf hq0).trans ((Zf hq1).trans (Zz hq2)))))
theorem qes(t:Str)(w:World):Calls prog 170 #[.string t] w fun e w'=>e=.returned (.string (Qav t))/\w=w':=by
 unfold Qav;cases A:(t.toList==[73]) with
 |true =>
  rw[if_pos rfl];go_enter func170,ntmps170;go_wp2
  go_ret;exact⟨rfl,rfl⟩
 |false =>
  rw[if_neg (by decide)];go_enter func170,ntmps170;go_wp2
  go_ret;exact⟨rfl,rfl⟩
theorem zdy(t:Str):(Qav t).size<=maxLen:=by
 unfold Qav;split<;>exact Qaj _
theorem QeU(w0 w:World)(B:Nat)(l:List qa)(base:Nat)(ws:World)(V:Env w0 w B l base ws)(sb:Nat)(qb Zb:Str)(lv sv:Value)(L S:List Str)(h:Qh base ws sb B qb Zb lv sv L S)(I:ql (Za l) S)(a b:Int)(A cls name:Str)(_hty:A.size<=maxLen)(_hgi:Zb.size<=maxLen):
 Calls prog 138 #[.pointer (some ⟨sb,0,none⟩),.agg #[.int .i64 10,.int .i64 a,.int .i64 b,.string A,.string cls,.string name]] ws (qf base ws sb B qb Zb lv sv (Zm ((zg (Za l) [Qav A] S).bind fun G=>qq L G A))):=by
 have H:SA w0 w B l base ws lv sv sb qb Zb ws.heap.size [.int .i64 10,.int .i64 a,.int .i64 b,.string A,.string cls,.string name] (ws.alloc (.cells #[.int .i64 10,.int .i64 a,.int .i64 b,.string A,.string cls,.string name] 34)) lv sv L S:=SA.new V h _;obtain⟨Y,Z,c,d,f,g⟩:=H.cells;obtain⟨k,C⟩:∃r,Zm ((zg (Za l) [Qav A] S).bind fun G=>qq L G A)=r:=⟨_,rfl⟩;have J:=Xh C;rw[C];have i:Hid (∀wx,_):=fun wx=>qes A wx
 clear C V h;go_enter func138,ntmps138;go_wp2_with (first
  |(go_at_call 169;have E:=H.alloc (.cells #[.string (Qav A)] 9);rcases hq0:zg (Za l) [(Qav A)] S with _|G;(with_reducible refine(H.takeON I (Qav A) (zdy _) _ (by simp) hq0).mono ?_);(rintro e q D;obtain⟨M,rfl⟩:=D.no';exact And.intro rfl (E.stop M (J.out.symm.trans (qd (zq hq0)))));(with_reducible refine(H.takeOY I (Qav A) (zdy _) _ (by simp) hq0).mono ?_);rintro e q D;obtain⟨N,rfl,m,n,O,P⟩:=D.ok';(have F:=E.next N O P);(have j:=zi hq0 I);obtain⟨Y,Z,c,d,f,g⟩:=F.cells)
  |(go_at_call 166;rcases hq1:QP G A with _|v;(with_reducible refine(F.putN A hq1).mono ?_);(rintro e s D;obtain⟨M,rfl⟩:=D.no';exact And.intro rfl (F.stop M (J.out.symm.trans (qd ((Zf hq0).trans (qA hq1))))));(with_reducible refine(F.putY A hq1).mono ?_);rintro e s D;obtain⟨R,rfl,o,p,T,U⟩:=D.ok';(have X:=F.next R T U);obtain⟨Y,Z,c,d,f,g⟩:=X.cells)
  |(go_fit (i.out _);rintro e t⟨rfl,rfl⟩))
 go_end0;exact X.done (J.out.symm.trans (Zj ((Zf hq0).trans (Zz hq1))))
theorem Qes(w0 w:World)(B:Nat)(l:List qa)(base:Nat)(ws:World)(E:Env w0 w B l base ws)(sb:Nat)(qb Zb:Str)(lv sv:Value)(L S:List Str)(h:Qh base ws sb B qb Zb lv sv L S)(_hS:ql (Za l) S)(a b:Int)(A cls name:Str)(_hty:A.size<=maxLen)(_hgi:Zb.size<=maxLen)(J:(Zb.toList==[86])=true):
 Calls prog 138 #[.pointer (some ⟨sb,0,none⟩),.agg #[.int .i64 26,.int .i64 a,.int .i64 b,.string A,.string cls,.string name]] ws (qf base ws sb B qb Zb lv sv (Zm (some (L,S)))):=by
 have D:SA w0 w B l base ws lv sv sb qb Zb ws.heap.size [.int .i64 26,.int .i64 a,.int .i64 b,.string A,.string cls,.string name] (ws.alloc (.cells #[.int .i64 26,.int .i64 a,.int .i64 b,.string A,.string cls,.string name] 34)) lv sv L S:=SA.new E h _;obtain⟨M,N,O,P,R,T⟩:=D.cells;obtain⟨I,C⟩:∃r,Zm (some (L,S))=r:=⟨_,rfl⟩;have G:=Xh C;rw[C];have H:Hid (∀wx,_):=fun wx=>qH wx
 have F:=D.step.blk.cell 2;replace F:(ws.alloc (.cells #[.int .i64 26,.int .i64 a,.int .i64 b,.string A,.string cls,.string name] 34)).cell? ⟨sb,2,none⟩=some (.string Zb):=F;clear C E h;go_enter func138,ntmps138;go_wp2_with (first
  |(go_fit (H.out _);rintro e U⟨rfl,rfl⟩))
 go_end0;exact D.done (G.out.symm.trans (Zj (rfl)))
theorem zet(w0 w:World)(B:Nat)(l:List qa)(base:Nat)(ws:World)(E:Env w0 w B l base ws)(sb:Nat)(qb Zb:Str)(lv sv:Value)(L S:List Str)(h:Qh base ws sb B qb Zb lv sv L S)(_hS:ql (Za l) S)(a b:Int)(A cls name:Str)(_hty:A.size<=maxLen)(_hgi:Zb.size<=maxLen)(J:(Zb.toList==[86])=false):
 Calls prog 138 #[.pointer (some ⟨sb,0,none⟩),.agg #[.int .i64 26,.int .i64 a,.int .i64 b,.string A,.string cls,.string name]] ws (qf base ws sb B qb Zb lv sv (Zm (none))):=by
 have D:SA w0 w B l base ws lv sv sb qb Zb ws.heap.size [.int .i64 26,.int .i64 a,.int .i64 b,.string A,.string cls,.string name] (ws.alloc (.cells #[.int .i64 26,.int .i64 a,.int .i64 b,.string A,.string cls,.string name] 34)) lv sv L S:=SA.new E h _;obtain⟨M,N,O,P,R,T⟩:=D.cells;obtain⟨I,C⟩:∃r,Zm (none)=r:=⟨_,rfl⟩;have G:=Xh C;rw[C];have H:Hid (∀wx,_):=fun wx=>Zx wx
 have F:=D.step.blk.cell 2;replace F:(ws.alloc (.cells #[.int .i64 26,.int .i64 a,.int .i64 b,.string A,.string cls,.string name] 34)).cell? ⟨sb,2,none⟩=some (.string Zb):=F;clear C E h;go_enter func138,ntmps138;go_wp2_with (first
  |(go_fit (H.out _);rintro e U⟨rfl,rfl⟩))
 exact And.intro rfl (D.stop Xb G.out.symm)
theorem Zet(w0 w:World)(B:Nat)(l:List qa)(base:Nat)(ws:World)(E:Env w0 w B l base ws)(sb:Nat)(qb Zb:Str)(lv sv:Value)(L S:List Str)(h:Qh base ws sb B qb Zb lv sv L S)(_hS:ql (Za l) S)(a b:Int)(A cls name:Str)(_hty:A.size<=maxLen)(_hgi:Zb.size<=maxLen)(J:(Zb.toList==[86])=true):
 Calls prog 138 #[.pointer (some ⟨sb,0,none⟩),.agg #[.int .i64 27,.int .i64 a,.int .i64 b,.string A,.string cls,.string name]] ws (qf base ws sb B qb Zb lv sv (Zm (none))):=by
 have D:SA w0 w B l base ws lv sv sb qb Zb ws.heap.size [.int .i64 27,.int .i64 a,.int .i64 b,.string A,.string cls,.string name] (ws.alloc (.cells #[.int .i64 27,.int .i64 a,.int .i64 b,.string A,.string cls,.string name] 34)) lv sv L S:=SA.new E h _;obtain⟨M,N,O,P,R,T⟩:=D.cells;obtain⟨I,C⟩:∃r,Zm (none)=r:=⟨_,rfl⟩;have G:=Xh C;rw[C];have H:Hid (∀wx,_):=fun wx=>Zx wx
 have F:=D.step.blk.cell 2;replace F:(ws.alloc (.cells #[.int .i64 27,.int .i64 a,.int .i64 b,.string A,.string cls,.string name] 34)).cell? ⟨sb,2,none⟩=some (.string Zb):=F;clear C E h;go_enter func138,ntmps138;go_wp2_with (first
  |(go_fit (H.out _);rintro e U⟨rfl,rfl⟩))
 exact And.intro rfl (D.stop Xb G.out.symm)
theorem qet(w0 w:World)(B:Nat)(l:List qa)(base:Nat)(ws:World)(O:Env w0 w B l base ws)(sb:Nat)(qb Zb:Str)(lv sv:Value)(L S:List Str)(h:Qh base ws sb B qb Zb lv sv L S)(H:ql (Za l) S)(a b:Int)(A cls name:Str)(_hty:A.size<=maxLen)(D:Zb.size<=maxLen)(n:(Zb.toList==[86])=false):
 Calls prog 138 #[.pointer (some ⟨sb,0,none⟩),.agg #[.int .i64 27,.int .i64 a,.int .i64 b,.string A,.string cls,.string name]] ws (qf base ws sb B qb Zb lv sv (Zm ((zg (Za l) [Zb] S).map fun G=>(L,G)))):=by
 have E:SA w0 w B l base ws lv sv sb qb Zb ws.heap.size [.int .i64 27,.int .i64 a,.int .i64 b,.string A,.string cls,.string name] (ws.alloc (.cells #[.int .i64 27,.int .i64 a,.int .i64 b,.string A,.string cls,.string name] 34)) lv sv L S:=SA.new O h _;obtain⟨X,Y,Z,c,d,f⟩:=E.cells;obtain⟨g,C⟩:∃r,Zm ((zg (Za l) [Zb] S).map fun G=>(L,G))=r:=⟨_,rfl⟩;have P:=Xh C;rw[C];have U:Hid (∀wx,_):=fun wx=>qH wx
 have R:=E.step.blk.cell 2;replace R:(ws.alloc (.cells #[.int .i64 27,.int .i64 a,.int .i64 b,.string A,.string cls,.string name] 34)).cell? ⟨sb,2,none⟩=some (.string Zb):=R;clear C O h;go_enter func138,ntmps138;go_wp2_with (first
  |(go_at_call 169;have F:=E.alloc (.cells #[.string Zb] 9);rcases hq0:zg (Za l) [Zb] S with _|G;(with_reducible refine(E.takeON H Zb D _ (by simp) hq0).mono ?_);(rintro e m N;obtain⟨i,rfl⟩:=N.no';exact And.intro rfl (F.stop i (P.out.symm.trans (qd (QaZ hq0)))));(with_reducible refine(E.takeOY H Zb D _ (by simp) hq0).mono ?_);rintro e m N;obtain⟨I,rfl,j,k,J,M⟩:=N.ok';(have T:=F.next I J M);(have V:=zi hq0 H);obtain⟨X,Y,Z,c,d,f⟩:=T.cells)
  |(go_fit (U.out _);rintro e o⟨rfl,rfl⟩))
 go_end0;exact T.done (P.out.symm.trans (Zj (zaf hq0)))
theorem zeV(w0 w:World)(B:Nat)(l:List qa)(base:Nat)(ws:World)(O:Env w0 w B l base ws)(sb:Nat)(qb Zb:Str)(lv sv:Value)(L S:List Str)(h:Qh base ws sb B qb Zb lv sv L S)(H:ql (Za l) S)(a b:Int)(A cls name:Str)(_hty:A.size<=maxLen)(_hgi:Zb.size<=maxLen):
 Calls prog 138 #[.pointer (some ⟨sb,0,none⟩),.agg #[.int .i64 28,.int .i64 a,.int .i64 b,.string A,.string cls,.string name]] ws (qf base ws sb B qb Zb lv sv (Zm ((zg (Za l) [Qc Zan] S).map fun G=>(L,G)))):=by
 have F:SA w0 w B l base ws lv sv sb qb Zb ws.heap.size [.int .i64 28,.int .i64 a,.int .i64 b,.string A,.string cls,.string name] (ws.alloc (.cells #[.int .i64 28,.int .i64 a,.int .i64 b,.string A,.string cls,.string name] 34)) lv sv L S:=SA.new O h _;obtain⟨U,V,X,Y,Z,c⟩:=F.cells;obtain⟨d,C⟩:∃r,Zm ((zg (Za l) [Qc Zan] S).map fun G=>(L,G))=r:=⟨_,rfl⟩;have P:=Xh C;rw[C];have D:Hid (∀wx,_):=fun wx=>ZZ Zan wx (by decide)
 unfold Zan at D;change Hid (∀wx,Calls prog 79 #[.string ⟨#[70,97,117,108,116]⟩] wx fun e w'=>e=.returned (.string (Qc Zan))/\wx=w')at D;clear C O h;go_enter func138,ntmps138;go_wp2_with (first
  |(go_at_call 169;have E:=F.alloc (.cells #[.string (Qc Zan)] 9);rcases hq0:zg (Za l) [(Qc Zan)] S with _|G;(with_reducible refine(F.takeON H (Qc Zan) Qdx _ (by simp) hq0).mono ?_);(rintro e j N;obtain⟨f,rfl⟩:=N.no';exact And.intro rfl (E.stop f (P.out.symm.trans (qd (QaZ hq0)))));(with_reducible refine(F.takeOY H (Qc Zan) Qdx _ (by simp) hq0).mono ?_);rintro e j N;obtain⟨I,rfl,g,i,J,M⟩:=N.ok';(have R:=E.next I J M);(have T:=zi hq0 H);obtain⟨U,V,X,Y,Z,c⟩:=R.cells)
  |(go_fit (D.out _);rintro e k⟨rfl,rfl⟩))
 go_end0;exact R.done (P.out.symm.trans (Zj (zaf hq0)))
theorem Zdy(w0 w:World)(B:Nat)(l:List qa)(base:Nat)(ws:World)(E:Env w0 w B l base ws)(sb:Nat)(qb Zb:Str)(lv sv:Value)(L S:List Str)(h:Qh base ws sb B qb Zb lv sv L S)(_hS:ql (Za l) S)(A a b:Int)(C cls name:Str)(_hty:C.size<=maxLen)(_hgi:Zb.size<=maxLen)(T:(A==2)=false)(U:(A==3)=false)(V:(A==4)=false)(X:(A==5)=false)(Y:(A==6)=false)(Z:(A==7)=false)(c:(A==8)=false)(d:(A==9)=false)(G:(A==10)=false)(H:(A==11)=false)(I:(A==12)=false)(J:(A==13)=false)(M:(A==26)=false)(N:(A==27)=false)(O:(A==28)=false):
 Calls prog 138 #[.pointer (some ⟨sb,0,none⟩),.agg #[.int .i64 A,.int .i64 a,.int .i64 b,.string C,.string cls,.string name]] ws (qf base ws sb B qb Zb lv sv (Zm (some (L,S)))):=by
 have F:SA w0 w B l base ws lv sv sb qb Zb ws.heap.size [.int .i64 A,.int .i64 a,.int .i64 b,.string C,.string cls,.string name] (ws.alloc (.cells #[.int .i64 A,.int .i64 a,.int .i64 b,.string C,.string cls,.string name] 34)) lv sv L S:=SA.new E h _;obtain⟨e,f,g,i,j,k⟩:=F.cells;obtain⟨R,D⟩:∃r,Zm (some (L,S))=r:=⟨_,rfl⟩;have P:=Xh D;rw[D];clear D E h;go_enter func138,ntmps138;go_wp2_with fail;go_end0;exact F.done (P.out.symm.trans (Zj (rfl)))
theorem SA.local{w0 w:World}{B:Nat}{l:List qa}{base:Nat}{ws:World}{lv0 sv0:Value}{sb:Nat}{qb Zb:Str}{xb:Nat}{xv:List Value}{wx:World}{lv sv:Value}{L S:List Str}(T:SA w0 w B l base ws lv0 sv0 sb qb Zb xb xv wx lv sv L S){i:Nat}{k:Str}(D:L[i]? = some k):
 ∃g cap,lv=.slice (some ⟨g,0,none⟩) L.length cap/\wx.cell? ⟨g,i,none⟩=some (.string k)/\wx.frozen? ⟨g,i,none⟩=false:=by
 have C:=T.step.locals;obtain⟨F,_⟩:=List.getElem?_eq_some_iff.1 D;rcases C.2 with⟨_,G⟩|⟨g,cap,E,A,H,I,J,M,N⟩
 ·omega
 ·refine⟨g,cap,A,?_,?_⟩
  ·subst A;rw[World.ownsRow.cellAt C i (by omega)];simp[D]
  ·subst A;exact World.ownsRow.frozenAt C i
theorem ZeV(w0 w:World)(B:Nat)(l:List qa)(base:Nat)(ws:World)(I:Env w0 w B l base ws)(sb:Nat)(qb Zb:Str)(lv sv:Value)(L S:List Str)(h:Qh base ws sb B qb Zb lv sv L S)(n:Nat)(b:Int)(A cls name:Str)(J:L[n]? = none):
 Calls prog 138 #[.pointer (some ⟨sb,0,none⟩),.agg #[.int .i64 4,.int .i64 n,.int .i64 b,.string A,.string cls,.string name]] ws (qf base ws sb B qb Zb lv sv (none)):=by
 have D:SA w0 w B l base ws lv sv sb qb Zb ws.heap.size [.int .i64 4,.int .i64 n,.int .i64 b,.string A,.string cls,.string name] (ws.alloc (.cells #[.int .i64 4,.int .i64 n,.int .i64 b,.string A,.string cls,.string name] 34)) lv sv L S:=SA.new I h _;obtain⟨R,N,T,U,V,X⟩:=D.cells;have M:Hid (∀wx,_):=fun wx=>Zx wx
 have E:(ws.alloc (.cells #[.int .i64 4,.int .i64 n,.int .i64 b,.string A,.string cls,.string name] 34)).cell? ⟨sb,3,none⟩=some lv:=D.step.blk.cell 3;have F:=Xh D;have G:Hid (decide (n<L.length)=false):=Xh (by
  have:=List.getElem?_eq_none_iff.1 J;simp;omega)
 obtain⟨p,c,H⟩:=Ze h.locals;subst H;clear J h I D;go_enter func138,ntmps138;go_upto_region 7 with fail;generalize ws.alloc (.cells #[.int .i64 4,.int .i64 n,.int .i64 b,.string A,.string cls,.string name] 34)=a at *;refine wp_region_held_drew (S:=fun w'=>w'.cell? ⟨ws.heap.size,1,none⟩=some (.int .i64 n)/\w'.cell? ⟨sb,3,none⟩=some (.slice p L.length c)) (by kernel_rfl) ⟨N,E⟩ (fun hHeld=>?_);change wpAnyH _ _ _ _ _ 22 _ _ _;iterate 9 ((first|(refine tkN rfl rfl hHeld ?_)|(refine tkY (v:=?_) rfl rfl hHeld ?_ ?_;rotate_left;focus (intro w C;(obtain⟨O,P⟩:=C);go_simp;all_goals with_reducible rfl)));try simp only[Act.put,Xa,Xc,Xd])
 rw[G.out];change wpAnyH _ _ _ _ _ 13 _ _ _;iterate 12 ((first|(refine tkN rfl rfl hHeld ?_)|(refine tkY (v:=?_) rfl rfl hHeld ?_ ?_;rotate_left;focus (intro w C;(obtain⟨O,P⟩:=C);go_simp;all_goals with_reducible rfl)));try simp only[Act.put,Xa,Xc,Xd])
 refine wpAnyH_ready (rs:=[21]) (fuel:=0) (by kernel_rfl) (by simp) ?_;refine AllReadyH.cons (i:=21) rfl (fun K Z=>?_) AllReadyH.nil;go_simp;refine(M.out _).mono ?_;rintro e Y⟨rfl,rfl⟩;exact And.intro rfl (F.out.stop Xb.drew rfl)
theorem qeV(w0 w:World)(B:Nat)(l:List qa)(base:Nat)(ws:World)(M:Env w0 w B l base ws)(sb:Nat)(qb Zb:Str)(lv sv:Value)(L S:List Str)(h:Qh base ws sb B qb Zb lv sv L S)(n:Nat)(b:Int)(A cls name:Str)(k:Str)(E:L[n]? = some k)(N:(k.toList==[84])=true):
 Calls prog 138 #[.pointer (some ⟨sb,0,none⟩),.agg #[.int .i64 4,.int .i64 n,.int .i64 b,.string A,.string cls,.string name]] ws (qf base ws sb B qb Zb lv sv (none)):=by
 have D:SA w0 w B l base ws lv sv sb qb Zb ws.heap.size [.int .i64 4,.int .i64 n,.int .i64 b,.string A,.string cls,.string name] (ws.alloc (.cells #[.int .i64 4,.int .i64 n,.int .i64 b,.string A,.string cls,.string name] 34)) lv sv L S:=SA.new M h _;obtain⟨U,R,V,X,Y,Z⟩:=D.cells;have O:Hid (∀wx,_):=fun wx=>Zx wx
 have F:(ws.alloc (.cells #[.int .i64 4,.int .i64 n,.int .i64 b,.string A,.string cls,.string name] 34)).cell? ⟨sb,3,none⟩=some lv:=D.step.blk.cell 3;have G:=Xh D;obtain⟨g,cap,H,C,I⟩:=D.local E;have P:n<L.length:=by
  obtain⟨T,_⟩:=List.getElem?_eq_some_iff.1 E;exact T
 subst H;clear E h M D I;go_enter func138,ntmps138;go_upto_region 7 with fail;generalize ws.alloc (.cells #[.int .i64 4,.int .i64 n,.int .i64 b,.string A,.string cls,.string name] 34)=m at *;refine wp_region_held_drew (S:=fun w'=>w'.cell? ⟨ws.heap.size,1,none⟩=some (.int .i64 n)/\w'.cell? ⟨sb,3,none⟩=some (.slice (some ⟨g,0,none⟩) L.length cap)/\w'.cell? ⟨g,n,none⟩=some (.string k)) (by kernel_rfl) ⟨R,F,C⟩ (fun hHeld=>?_);change wpAnyH _ _ _ _ _ 22 _ _ _;iterate 21 ((first|(refine tkN rfl rfl hHeld ?_)|(refine tkY (v:=?_) rfl rfl hHeld ?_ ?_;rotate_left;focus (intro w J;(obtain⟨a,c,d⟩:=J);go_simp;all_goals with_reducible rfl)));try simp only[Act.put,Xa,Xc,Xd])
 refine wpAnyH_ready (rs:=[21]) (fuel:=0) (by kernel_rfl) (by simp) ?_;refine AllReadyH.cons (i:=21) rfl (fun K j=>?_) AllReadyH.nil;go_simp;refine(O.out _).mono ?_;rintro e f⟨rfl,rfl⟩;exact And.intro rfl (G.out.stop Xb.drew rfl)
theorem QeV(w0 w:World)(B:Nat)(l:List qa)(base:Nat)(ws:World)(a:Env w0 w B l base ws)(sb:Nat)(qb Zb:Str)(lv sv:Value)(L S:List Str)(h:Qh base ws sb B qb Zb lv sv L S)(n:Nat)(b:Int)(C cls name:Str)(k:Str)(R:L[n]? = some k)(j:(k.toList==[84])=false):
 Calls prog 138 #[.pointer (some ⟨sb,0,none⟩),.agg #[.int .i64 4,.int .i64 n,.int .i64 b,.string C,.string cls,.string name]] ws (qf base ws sb B qb Zb lv sv (Zm (qq L S k))):=by
 have H:SA w0 w B l base ws lv sv sb qb Zb ws.heap.size [.int .i64 4,.int .i64 n,.int .i64 b,.string C,.string cls,.string name] (ws.alloc (.cells #[.int .i64 4,.int .i64 n,.int .i64 b,.string C,.string cls,.string name] 34)) lv sv L S:=SA.new a h _;obtain⟨i0,J,i2,i3,i4,i5⟩:=H.cells;have m:Hid (∀wx,_):=fun wx=>qH wx
 have D:(ws.alloc (.cells #[.int .i64 4,.int .i64 n,.int .i64 b,.string C,.string cls,.string name] 34)).cell? ⟨sb,3,none⟩=some lv:=H.step.blk.cell 3;have I:=Xh H;obtain⟨g,cap,U,A,V⟩:=H.local R;have o:n<L.length:=by
  obtain⟨p,_⟩:=List.getElem?_eq_some_iff.1 R;exact p
 subst U;clear h a H V;go_enter func138,ntmps138;go_upto_region 7 with fail;generalize ws.alloc (.cells #[.int .i64 4,.int .i64 n,.int .i64 b,.string C,.string cls,.string name] 34)=P at *;refine wp_region_held_drew (S:=fun w'=>w'.cell? ⟨ws.heap.size,1,none⟩=some (.int .i64 n)/\w'.cell? ⟨sb,3,none⟩=some (.slice (some ⟨g,0,none⟩) L.length cap)/\w'.cell? ⟨g,n,none⟩=some (.string k)) (by kernel_rfl) ⟨J,D,A⟩ (fun hHeld=>?_);change wpAnyH _ _ _ _ _ 22 _ _ _;iterate 21 ((first|(refine tkN rfl rfl hHeld ?_)|(refine tkY (v:=?_) rfl rfl hHeld ?_ ?_;rotate_left;focus (intro w G;(obtain⟨q,r,s⟩:=G);go_simp;all_goals with_reducible rfl)));try simp only[Act.put,Xa,Xc,Xd])
 refine wpAnyH_ready (rs:=[21]) (fuel:=0) (by kernel_rfl) (by simp) ?_;refine AllReadyH.cons (i:=21) rfl (fun K N=>?_) AllReadyH.nil;go_simp;refine(m.out _).mono ?_;rintro e wq⟨rfl,rfl⟩;refine N.out _ _ ⟨J,D,A⟩ (fun _=>?_);clear N K;try simp only[Act.put,Xa,Xc,Xd]
 refine wpAnyH_done (by kernel_rfl) ?_ _;have T:=Xh (I.out.over Xb.drew);clear I hHeld;go_upto_region 8 with fail;replace J:P.drew.cell? ⟨ws.heap.size,1,none⟩=some (.int .i64 n):=J;replace D:P.drew.cell? ⟨sb,3,none⟩=some (.slice (some ⟨g,0,none⟩) L.length cap):=D;replace A:P.drew.cell? ⟨g,n,none⟩=some (.string k):=A;generalize P.drew=wB at *;refine wp_region_held_drew (S:=fun w'=>w'.cell? ⟨ws.heap.size,1,none⟩=some (.int .i64 n)/\w'.cell? ⟨sb,3,none⟩=some (.slice (some ⟨g,0,none⟩) L.length cap)/\w'.cell? ⟨g,n,none⟩=some (.string k)) (by kernel_rfl) ⟨J,D,A⟩ (fun hHeld=>?_);change wpAnyH _ _ _ _ _ 11 _ _ _;iterate 10 ((first|(refine tkN rfl rfl hHeld ?_)|(refine tkY (v:=?_) rfl rfl hHeld ?_ ?_;rotate_left;focus (intro w G;(obtain⟨q,r,s⟩:=G);go_simp;all_goals with_reducible rfl)));try simp only[Act.put,Xa,Xc,Xd])
 refine wpAnyH_ready (rs:=[10]) (fuel:=0) (by kernel_rfl) (by simp) ?_;refine AllReadyH.cons (i:=10) rfl (fun K N=>?_) AllReadyH.nil;go_simp;have E:=T.out.over Xb.drew;cases O:QP S k with
 |none =>
  refine(E.putN k O).mono ?_;rintro e w2 Z;obtain⟨X,rfl⟩:=Z.no';exact And.intro rfl (E.stop X (qd (qA O)))
 |some S' =>
  refine(E.putY k O).mono ?_;rintro e w2 Z;obtain⟨X,rfl,t,x,Y,M⟩:=Z.ok';have F:=Xh (E.next X Y M);refine N.out _ _ ?_ (fun _=>?_)
  ·obtain⟨g',d,f,y,_⟩:=F.out.local R;obtain⟨_,z,_⟩:=F.out.cells;have c:=F.out.step.blk.cell 3;rw[M.1]at f c;cases f;exact⟨z,c,y⟩
  clear N K;try simp only[Act.put,Xa,Xc,Xd]
  refine wpAnyH_done (by kernel_rfl) ?_ _;clear hHeld;go_wp2_with fail;go_end0;exact F.out.done (Zj (Zz O))
theorem Qh.stored{base:Nat}{w:World}{sb B:Nat}{qb Zb:Str}{g cap:Nat}{sv:Value}{L S:List Str}(h:Qh base w sb B qb Zb (.slice (some ⟨g,0,none⟩) L.length cap) sv L S)(n:Nat)(k:Str):Qh base (w.setCell ⟨g,n,none⟩ (.string k)) sb B qb Zb (.slice (some ⟨g,0,none⟩) L.length cap) sv (L.set n k) S:=by
 have A:=(World.ownsRow.stored h.locals n (.string k)).1;have C:g≠sb:=fun e=>h.lfar (by rw[e];rfl)
 refine⟨(Xk w ⟨g,n,none⟩ sb _ (fun e=>C e.symm)).trans h.blk,?_,Z1 h.stack (h.apart g rfl) n _,h.apart,h.lfar,h.sfar,h.low⟩;rw[List.length_set,List.map_set];exact A
theorem Kp.stored{sb g n A cap:Nat}{sv:Value}(w:World)(u:Value):Kp sb (.slice (some ⟨g,0,none⟩) A cap) sv w (.slice (some ⟨g,0,none⟩) A cap) sv (w.setCell ⟨g,n,none⟩ u) :=
 ⟨rfl,fun x _ B=>⟨Xk w ⟨g,n,none⟩ x _ (fun e=>B.2.1 (by rw[e];rfl)),B⟩⟩
theorem zeW(w0 w:World)(B:Nat)(l:List qa)(base:Nat)(ws:World)(F:Env w0 w B l base ws)(sb:Nat)(qb Zb:Str)(lv sv:Value)(L S:List Str)(h:Qh base ws sb B qb Zb lv sv L S)(n:Nat)(b:Int)(A cls name:Str)(G:zC S=none):
 Calls prog 138 #[.pointer (some ⟨sb,0,none⟩),.agg #[.int .i64 5,.int .i64 n,.int .i64 b,.string A,.string cls,.string name]] ws (qf base ws sb B qb Zb lv sv (none)):=by
 have C:SA w0 w B l base ws lv sv sb qb Zb ws.heap.size [.int .i64 5,.int .i64 n,.int .i64 b,.string A,.string cls,.string name] (ws.alloc (.cells #[.int .i64 5,.int .i64 n,.int .i64 b,.string A,.string cls,.string name] 34)) lv sv L S:=SA.new F h _;obtain⟨I,J,M,N,O,P⟩:=C.cells;have _hg3:(ws.alloc (.cells #[.int .i64 5,.int .i64 n,.int .i64 b,.string A,.string cls,.string name] 34)).cell? ⟨sb,3,none⟩=some lv:=C.step.blk.cell 3;have D:=Xh C;clear h F;go_enter func138,ntmps138;go_wp2_with (first
  |(go_fit (C.popN G);rintro e R H;obtain⟨E,rfl⟩:=H.no'))
 exact And.intro rfl (D.out.stop E rfl)
theorem ZeW(w0 w:World)(B:Nat)(l:List qa)(base:Nat)(ws:World)(P:Env w0 w B l base ws)(sb:Nat)(qb Zb:Str)(lv sv:Value)(L S:List Str)(h:Qh base ws sb B qb Zb lv sv L S)(n:Nat)(b:Int)(A cls name:Str)(k:Str)(V:List Str)(X:zC S=some (k,V))(R:L[n]? = none):
 Calls prog 138 #[.pointer (some ⟨sb,0,none⟩),.agg #[.int .i64 5,.int .i64 n,.int .i64 b,.string A,.string cls,.string name]] ws (qf base ws sb B qb Zb lv sv (none)):=by
 have D:SA w0 w B l base ws lv sv sb qb Zb ws.heap.size [.int .i64 5,.int .i64 n,.int .i64 b,.string A,.string cls,.string name] (ws.alloc (.cells #[.int .i64 5,.int .i64 n,.int .i64 b,.string A,.string cls,.string name] 34)) lv sv L S:=SA.new P h _;obtain⟨a,T,d,f,g,j⟩:=D.cells;have Y:Hid (∀wx,_):=fun wx=>Zx wx
 have H:(ws.alloc (.cells #[.int .i64 5,.int .i64 n,.int .i64 b,.string A,.string cls,.string name] 34)).cell? ⟨sb,3,none⟩=some lv:=D.step.blk.cell 3;have I:=Xh D;have J:Hid (decide (n<L.length)=false):=Xh (by
  have:=List.getElem?_eq_none_iff.1 R;simp;omega)
 obtain⟨p,c,N⟩:=Ze h.locals;clear R h P;go_enter func138,ntmps138;go_upto_region 11 with(first
  |(go_fit (D.popY X);rintro e q U;obtain⟨E,rfl,m,o,F,C⟩:=U.ok'))
 obtain rfl:=C.1;have G:=D.next E F C;obtain⟨a,T,d,f,g,j⟩:=G.cells;subst N;have Z:q.cell? ⟨sb,3,none⟩=some (.slice p L.length c):=G.step.blk.cell 3;have M:=Xh G;clear D G H E F C U I;refine wp_region_held_drew (S:=fun w'=>w'.cell? ⟨ws.heap.size,1,none⟩=some (.int .i64 n)/\w'.cell? ⟨sb,3,none⟩=some (.slice p L.length c)) (by kernel_rfl) ⟨T,Z⟩ (fun hHeld=>?_);change wpAnyH _ _ _ _ _ 10 _ _ _;iterate 9 ((first|(refine tkN rfl rfl hHeld ?_)|(refine tkY (v:=?_) rfl rfl hHeld ?_ ?_;rotate_left;focus (intro w O;(obtain⟨r,s⟩:=O);go_simp;all_goals with_reducible rfl)));try simp only[Act.put,Xa,Xc,Xd])
 rw[J.out];refine wpAnyH_ready (rs:=[9]) (fuel:=0) (by kernel_rfl) (by simp) ?_;refine AllReadyH.cons (i:=9) rfl (fun K x=>?_) AllReadyH.nil;go_simp;refine(Y.out _).mono ?_;rintro e t⟨rfl,rfl⟩;exact And.intro rfl (M.out.stop Xb.drew rfl)
theorem qeW(w0 w:World)(B:Nat)(l:List qa)(base:Nat)(ws:World)(a:Env w0 w B l base ws)(sb:Nat)(qb Zb:Str)(lv sv:Value)(L S:List Str)(h:Qh base ws sb B qb Zb lv sv L S)(n:Nat)(b:Int)(A cls name:Str)(k:Str)(c:List Str)(j:zC S=some (k,c))(d:Str)(V:L[n]? = some d):
 Calls prog 138 #[.pointer (some ⟨sb,0,none⟩),.agg #[.int .i64 5,.int .i64 n,.int .i64 b,.string A,.string cls,.string name]] ws (qf base ws sb B qb Zb lv sv (Zm (some (L.set n k,c)))):=by
 have J:SA w0 w B l base ws lv sv sb qb Zb ws.heap.size [.int .i64 5,.int .i64 n,.int .i64 b,.string A,.string cls,.string name] (ws.alloc (.cells #[.int .i64 5,.int .i64 n,.int .i64 b,.string A,.string cls,.string name] 34)) lv sv L S:=SA.new a h _;obtain⟨s,M,t,x,y,z⟩:=J.cells;have m:Hid (∀wx,_):=fun wx=>qH wx
 have X:(ws.alloc (.cells #[.int .i64 5,.int .i64 n,.int .i64 b,.string A,.string cls,.string name] 34)).cell? ⟨sb,3,none⟩=some lv:=J.step.blk.cell 3;have Y:=Xh J;have o:n<L.length:=by
  obtain⟨h1,_⟩:=List.getElem?_eq_some_iff.1 V;exact h1
 clear h a;go_enter func138,ntmps138;go_upto_region 11 with(first
  |(go_fit (J.popY j);rintro e N f;obtain⟨R,rfl,lv1,sv1,T,F⟩:=f.ok'))
 obtain rfl:=F.1;have C:=J.next R T F;obtain⟨s,M,t,x,y,z⟩:=C.cells;obtain⟨g,cap,G,H,Z⟩:=C.local V;have q:g≠ws.heap.size:=fun e=>C.apart.2.1 (by rw[G,e];rfl)
 have r:g≠sb:=fun e=>C.step.lfar (by rw[G,e];rfl)
 subst G;have O:N.cell? ⟨sb,3,none⟩=some (.slice (some ⟨g,0,none⟩) L.length cap):=C.step.blk.cell 3;have P:=Xh C;clear J C X R T F f Y V;refine wp_region_held_drew (S:=fun w'=>w'.cell? ⟨ws.heap.size,1,none⟩=some (.int .i64 n)/\w'.cell? ⟨sb,3,none⟩=some (.slice (some ⟨g,0,none⟩) L.length cap)) (by kernel_rfl) ⟨M,O⟩ (fun hHeld=>?_);change wpAnyH _ _ _ _ _ 10 _ _ _;iterate 9 ((first|(refine tkN rfl rfl hHeld ?_)|(refine tkY (v:=?_) rfl rfl hHeld ?_ ?_;rotate_left;focus (intro w I;(obtain⟨s0,s1⟩:=I);go_simp;all_goals with_reducible rfl)));try simp only[Act.put,Xa,Xc,Xd])
 refine wpAnyH_ready (rs:=[9]) (fuel:=0) (by kernel_rfl) (by simp) ?_;refine AllReadyH.cons (i:=9) rfl (fun K U=>?_) AllReadyH.nil;go_simp;refine(m.out _).mono ?_;rintro e wq⟨rfl,rfl⟩;refine U.out _ _ ⟨M,O⟩ (fun _=>?_);clear U K;try simp only[Act.put,Xa,Xc,Xd]
 refine wpAnyH_done (by kernel_rfl) ?_ _;have D:=Xh ((P.out.over Xb.drew).over Xb.drew);clear P hHeld;go_upto_region 12 with fail;replace M:N.drew.cell? ⟨ws.heap.size,1,none⟩=some (.int .i64 n):=M;replace O:N.drew.cell? ⟨sb,3,none⟩=some (.slice (some ⟨g,0,none⟩) L.length cap):=O;have c2:N.drew.drew.cell? ⟨g,n,none⟩=some (.string d):=H;have f2:N.drew.drew.frozen? ⟨g,n,none⟩=false:=Z;generalize N.drew=wB at *;refine wp_region_held_drew (S:=fun w'=>w'.cell? ⟨ws.heap.size,1,none⟩=some (.int .i64 n)/\w'.cell? ⟨sb,3,none⟩=some (.slice (some ⟨g,0,none⟩) L.length cap)) (by kernel_rfl) ⟨M,O⟩ (fun hHeld=>?_);change wpAnyH _ _ _ _ _ 10 _ _ _;iterate 9 ((first|(refine tkN rfl rfl hHeld ?_)|(refine tkY (v:=?_) rfl rfl hHeld ?_ ?_;rotate_left;focus (intro w I;(obtain⟨s0,s1⟩:=I);go_simp;all_goals with_reducible rfl)));try simp only[Act.put,Xa,Xc,Xd])
 refine wpAnyH_ready (rs:=[9]) (fuel:=0) (by kernel_rfl) (by simp) ?_;refine AllReadyH.cons (i:=9) rfl (fun K U=>?_) AllReadyH.nil;go_simp;have E:=Xh (D.out.next ((Below.refl base _).setCell (p:=⟨g,n,none⟩) (D.out.step.locals.lt g rfl).1 (.string k)) (D.out.step.stored n k) (Kp.stored (n:=n) _ _));refine U.out _ _ ?_ (fun _=>?_)
 ·obtain⟨_,x1,_⟩:=E.out.cells;exact⟨x1,E.out.step.blk.cell 3⟩
 clear U K;try simp only[Act.put,Xa,Xc,Xd]
 refine wpAnyH_done (by kernel_rfl) ?_ _;clear hHeld;go_wp2_with fail;go_end0;exact E.out.done rfl
theorem Zb3(cs:List qa)(Zb:Str)(a b:Int)(A cls name:Str)(L S:List Str):
 zE cs Zb ⟨2,a,b,A,cls,name⟩ L S=qq L S A/\zE cs Zb ⟨3,a,b,A,cls,name⟩ L S=qq L S kN/\zE cs Zb ⟨4,a,b,A,cls,name⟩ L S=zbE L S a/\zE cs Zb ⟨5,a,b,A,cls,name⟩ L S=za4 L S a
 /\zE cs Zb ⟨6,a,b,A,cls,name⟩ L S=((zC S).map fun p=>(L,p.2))/\zE cs Zb ⟨7,a,b,A,cls,name⟩ L S=((zC S).bind fun p=>(QP p.2 p.1).bind fun B=>qq L B p.1)
 /\zE cs Zb ⟨8,a,b,A,cls,name⟩ L S=((zC S).bind fun p=>(zC p.2).bind fun q=>(QP q.2 p.1).bind fun B=>qq L B q.1)
 /\zE cs Zb ⟨9,a,b,A,cls,name⟩ L S=((zg cs (Qap a A) S).bind fun B=>(zg cs [A] B).bind fun C=>qq L C A)
 /\zE cs Zb ⟨10,a,b,A,cls,name⟩ L S=((zg cs [Qav A] S).bind fun B=>qq L B A)
 /\zE cs Zb ⟨11,a,b,A,cls,name⟩ L S=((zg cs [kJ,kJ] S).bind fun B=>qq L B kI)
 /\zE cs Zb ⟨12,a,b,A,cls,name⟩ L S=((zg cs [kI] S).map fun B=>(L,B))
 /\zE cs Zb ⟨13,a,b,A,cls,name⟩ L S=qdx L S
 /\zE cs Zb ⟨26,a,b,A,cls,name⟩ L S=(if (Zb.toList==[86])=true then some (L,S) else none)
 /\zE cs Zb ⟨27,a,b,A,cls,name⟩ L S=(if (Zb.toList==[86])=true then none else (zg cs [Zb] S).map fun B=>(L,B))
 /\zE cs Zb ⟨28,a,b,A,cls,name⟩ L S=((zg cs [Qc Zan] S).map fun B=>(L,B)) :=
 ⟨rfl,rfl,rfl,rfl,rfl,rfl,rfl,rfl,rfl,rfl,rfl,rfl,rfl,rfl,rfl⟩
theorem QaQ{cs:List qa}{Zb:Str}{x:Ins}{L S:List Str}(h:x.op≠2/\x.op≠3/\x.op≠4/\x.op≠5/\x.op≠6/\x.op≠7/\x.op≠8/\x.op≠9/\x.op≠10/\x.op≠11/\x.op≠12/\x.op≠13/\x.op≠26/\x.op≠27/\x.op≠28):zE cs Zb x L S=some (L,S):=by
 obtain⟨G,H,I,J,M,N,O,P,R,A,B,C,D,E,F⟩:=h;unfold zE;rw[if_neg G,if_neg H,if_neg I,if_neg J,if_neg M,if_neg N,if_neg O,if_neg P,if_neg R,if_neg A,if_neg B,if_neg C,if_neg D,if_neg E,if_neg F]
theorem Qet(cs:List qa)(S:List Str):zg cs [] S=some S:=rfl
theorem zeu(w0 w:World)(B:Nat)(l:List qa)(base:Nat)(ws:World)(E:Env w0 w B l base ws)(sb:Nat)(qb Zb:Str)(lv sv:Value)(L S:List Str)(h:Qh base ws sb B qb Zb lv sv L S)(F:ql (Za l) S)(x:Ins)(C:x.type.size<=maxLen)(D:Zb.size<=maxLen)(X:x.op=4\/x.op=5->0<=x.a):
 Calls prog 138 #[.pointer (some ⟨sb,0,none⟩),zaq x] ws (qf base ws sb B qb Zb lv sv (Zm (zE (Za l) Zb x L S))):=by
 obtain⟨G,a,b,A,cls,name⟩:=x;replace C:A.size<=maxLen:=C;unfold zaq;dsimp only at X ⊢;obtain⟨z,e3,e4,e5,e6,e7,e8,e9,m,o,q,r,s,t,v⟩:=Zb3 (Za l) Zb a b A cls name L S;by_cases Y:G=2
 ·subst Y;rw[z];exact zfc w0 w B l base ws E sb qb Zb lv sv L S h F a b A cls name C D
 by_cases Z:G=3
 ·subst Z;rw[e3];exact Zfc w0 w B l base ws E sb qb Zb lv sv L S h F a b A cls name C D
 by_cases c:G=4
 ·subst c;rw[e4];obtain⟨n,rfl⟩:=Int.eq_ofNat_of_zero_le (X (Or.inl rfl));unfold zbE;rw[show(n:Int).toNat=n from rfl];cases H:L[n]? with
  |none=>exact ZeV w0 w B l base ws E sb qb Zb lv sv L S h n b A cls name H
  |some k =>
   dsimp only;cases U:(k.toList==[84]) with
   |true=>rw[if_pos rfl];exact qeV w0 w B l base ws E sb qb Zb lv sv L S h n b A cls name k H U
   |false=>rw[if_neg (by decide)];exact QeV w0 w B l base ws E sb qb Zb lv sv L S h n b A cls name k H U
 by_cases d:G=5
 ·subst d;rw[e5];obtain⟨n,rfl⟩:=Int.eq_ofNat_of_zero_le (X (Or.inr rfl));unfold za4;rw[show(n:Int).toNat=n from rfl];cases j:zC S with
  |none=>exact zeW w0 w B l base ws E sb qb Zb lv sv L S h n b A cls name j
  |some p =>
   obtain⟨k,y⟩:=p;rw[Option.bind_some];dsimp only;cases H:L[n]? with
   |none =>
    rw[if_neg (by have:=List.getElem?_eq_none_iff.1 H;omega)];exact ZeW w0 w B l base ws E sb qb Zb lv sv L S h n b A cls name k y j H
   |some k0 =>
    rw[if_pos (by obtain⟨h1,_⟩:=List.getElem?_eq_some_iff.1 H;exact h1)];exact qeW w0 w B l base ws E sb qb Zb lv sv L S h n b A cls name k y j k0 H
 by_cases e:G=6
 ·subst e;rw[e6];exact qfc w0 w B l base ws E sb qb Zb lv sv L S h F a b A cls name C D
 by_cases f:G=7
 ·subst f;rw[e7];exact Qfc w0 w B l base ws E sb qb Zb lv sv L S h F a b A cls name C D
 by_cases g:G=8
 ·subst g;rw[e8];exact zfd w0 w B l base ws E sb qb Zb lv sv L S h F a b A cls name C D
 by_cases i:G=9
 ·subst i;rw[e9];unfold Qap;by_cases I:a=12
  ·subst I;rw[if_pos rfl,Qet,Option.bind_some];exact ZeU w0 w B l base ws E sb qb Zb lv sv L S h F b A cls name C D
  ·rw[if_neg I];by_cases cs:a=9\/a=10\/a=11
   ·rw[if_pos cs];rcases cs with rfl|rfl|rfl
    ·exact Zes w0 w B l base ws E sb qb Zb lv sv L S h F b A cls name C D
    ·exact ZdV w0 w B l base ws E sb qb Zb lv sv L S h F b A cls name C D
    ·exact qdV w0 w B l base ws E sb qb Zb lv sv L S h F b A cls name C D
   ·rw[if_neg cs];exact qeU w0 w B l base ws E sb qb Zb lv sv L S h F a b A cls name C D (by simpa using I) (by simp;omega) (by simp;omega) (by simp;omega)
 by_cases J:G=10
 ·subst J;rw[m];exact QeU w0 w B l base ws E sb qb Zb lv sv L S h F a b A cls name C D
 by_cases M:G=11
 ·subst M;rw[o];exact qeT w0 w B l base ws E sb qb Zb lv sv L S h F a b A cls name C D
 by_cases N:G=12
 ·subst N;rw[q];exact QeT w0 w B l base ws E sb qb Zb lv sv L S h F a b A cls name C D
 by_cases O:G=13
 ·subst O;rw[r];exact zeU w0 w B l base ws E sb qb Zb lv sv L S h F a b A cls name C D
 by_cases P:G=26
 ·subst P;rw[s];cases V:(Zb.toList==[86]) with
  |true=>rw[if_pos rfl];exact Qes w0 w B l base ws E sb qb Zb lv sv L S h F a b A cls name C D V
  |false=>rw[if_neg (by decide)];exact zet w0 w B l base ws E sb qb Zb lv sv L S h F a b A cls name C D V
 by_cases R:G=27
 ·subst R;rw[t];cases V:(Zb.toList==[86]) with
  |true=>rw[if_pos rfl];exact Zet w0 w B l base ws E sb qb Zb lv sv L S h F a b A cls name C D V
  |false=>rw[if_neg (by decide)];exact qet w0 w B l base ws E sb qb Zb lv sv L S h F a b A cls name C D V
 by_cases T:G=28
 ·subst T;rw[v];exact zeV w0 w B l base ws E sb qb Zb lv sv L S h F a b A cls name C D
 rw[QaQ ⟨Y,Z,c,d,e,f,g,i,J,M,N,O,P,R,T⟩];exact Zdy w0 w B l base ws E sb qb Zb lv sv L S h F G a b A cls name C D (by simpa using Y) (by simpa using Z) (by simpa using c) (by simpa using d) (by simpa using e) (by simpa using f) (by simpa using g) (by simpa using i) (by simpa using J) (by simpa using M) (by simpa using N) (by simpa using O) (by simpa using P) (by simpa using R) (by simpa using T)
