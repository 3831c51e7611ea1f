/- Lemmas; conditions: as each states. -/
import Derived.Test.YtmclocdhcblbiaaGreatDoorStepper
set_option maxHeartbeats 4000000
namespace Go.Proofs.YtmclocdhcblbiaaGreatDoor
open Go.RowKit Go.Shelf Go.Lib
def ql(cs:List qa)(S:List Str):Prop:=∀k∈S,Qg cs k=0
theorem qad{cs:List qa}{k:Str}(h:Qg cs k=0):k.size<=25:=by
 have C:k.size=(lst k).length:=qB k |>.symm
 unfold Qg at h;split at h
 ·rename_i A;rcases A with A|A<;>rw[C,A]<;>decide
 ·split at h
  ·cases h
  ·rename_i _ D;obtain⟨y,B⟩:=qX (t:=k) (by simpa using D);have E:=zc9 y B.name;have F:=B.deep;rw[C,<-B.text];omega
structure Env (w0 w:World) (B:Nat) (l:List qa) (base:Nat) (wx:World):Prop where
 map0:Zi w0 w B l
 le:w.heap.size<=base
 below:Below w.heap.size w wx
theorem Env.map{w0 w wx:World}{B base:Nat}{l:List qa}(h:Env w0 w B l base wx):Zi w0 wx B l:=h.map0.step h.below
theorem Env.step{w0 w wx A:World}{B base:Nat}{l:List qa}(h:Env w0 w B l base wx)(C:Below base wx A):Env w0 w B l base A:=⟨h.map0,h.le,h.below.trans (C.mono h.le)⟩
theorem qh.over{base:Nat}{w w':World}{sb B:Nat}{qb Zb:Str}{lv sv:Value}{L S:List Str}(h:qh base w sb B qb Zb lv sv L S)(A:Below w.heap.size w w'):Below base w w':=A.mono h.size
def Za2(sb:Nat)(lv sv:Value)(g:Nat):Prop:=g≠sb/\lv.ownBlock≠some g/\sv.ownBlock≠some g
def Kp(sb:Nat)(lv sv:Value)(w:World)(lv' sv':Value)(w':World):Prop:=lv'=lv/\∀g,g<w.heap.size->Za2 sb lv sv g->w'.heap[g]? = w.heap[g]?/\Za2 sb lv' sv' g
theorem Kp.below{sb:Nat}{lv sv:Value}{w w':World}(A:Below w.heap.size w w'):Kp sb lv sv w lv sv w':=⟨rfl,fun g B C=>⟨A.block g B,C⟩⟩
theorem Kp.trans{sb:Nat}{lv sv A B C D:Value}{w E F:World}(h:Kp sb lv sv w A B E)(k:Kp sb A B E C D F)(N:w.heap.size<=E.heap.size):Kp sb lv sv w C D F:=⟨k.1.trans h.1,fun g L M=>by
 obtain⟨G,H⟩:=h.2 g L M;obtain⟨I,J⟩:=k.2 g (by omega) H;exact⟨I.trans G,J⟩⟩
theorem Kp.blk{sb:Nat}{lv sv B C:Value}{w w':World}(h:Kp sb lv sv w B C w'){b:Nat}{t:TypeId}{A:List Value}(D:Blk w b t A)(E:Za2 sb lv sv b):Blk w' b t A:=(h.2 b D.lt E).1.trans D
def Zf(base:Nat)(w:World)(sb B:Nat)(qb Zb:Str)(lv sv:Value)(r:Option (Value×List Str×List Str))(e:Ending)(w':World):Prop :=
 Below base w w'/\match r with
  |none=>e=.panicked [qaI]
  |some (v,L,S)=>e=.returned v/\∃lv' sv',qh base w' sb B qb Zb lv' sv' L S/\Kp sb lv sv w lv' sv' w'
theorem Zf.ok{base:Nat}{w w':World}{sb B:Nat}{qb Zb:Str}{v:Value}{lv sv A C:Value}{L S:List Str}(D:Below base w w')(h:qh base w' sb B qb Zb A C L S)(E:Kp sb lv sv w A C w'):Zf base w sb B qb Zb lv sv (some (v,L,S)) (.returned v) w':=⟨D,rfl,A,C,h,E⟩
theorem Zf.no{base:Nat}{w w':World}{sb B:Nat}{qb Zb:Str}{lv sv:Value}(A:Below base w w'):Zf base w sb B qb Zb lv sv none (.panicked [qaI]) w':=⟨A,rfl⟩
theorem Zf.no'{base:Nat}{w w':World}{sb B:Nat}{qb Zb:Str}{lv sv:Value}{e:Ending}(h:Zf base w sb B qb Zb lv sv none e w'):Below base w w'/\e=.panicked [qaI]:=h
theorem Zf.ok'{base:Nat}{w w':World}{sb B:Nat}{qb Zb:Str}{v:Value}{lv sv:Value}{L S:List Str}{e:Ending}(h:Zf base w sb B qb Zb lv sv (some (v,L,S)) e w'):Below base w w'/\e=.returned v/\∃A C,qh base w' sb B qb Zb A C L S/\Kp sb lv sv w A C w':=h
theorem Zf.post{base:Nat}{w w':World}{sb B:Nat}{qb Zb:Str}{lv sv:Value}{r:Option (Value×List Str×List Str)}{e:Ending}(h:Zf base w sb B qb Zb lv sv r e w'):zal base w sb B qb Zb r e w':=by
 cases r with
 |none=>exact h
 |some p=>exact⟨h.1,h.2.1,h.2.2.elim fun A h=>h.elim fun C h=>⟨A,C,h.1⟩⟩
theorem qh.fresh{base:Nat}{w:World}{sb B:Nat}{qb Zb:Str}{lv sv:Value}{L S:List Str}(h:qh base w sb B qb Zb lv sv L S){g:Nat}(A:w.heap.size<=g):Za2 sb lv sv g :=
 ⟨fun e=>by have:=h.blk.lt;omega,fun e=>by have:=(h.locals.lt g e).2;omega,fun e=>by have:=(h.stack.lt g e).2;omega⟩
set_option maxRecDepth 100000
theorem zeO(base:Nat)(w:World)(sb B:Nat)(qb Zb:Str)(lv sv:Value)(L S:List Str)(h:qh base w sb B qb Zb lv sv L S)(k:Str):
 Calls Tryz.prog 166 #[.pointer (some ⟨sb,0,none⟩),.string k] w (Zf base w sb B qb Zb lv sv ((QN S k).map fun Y=>(.tuple #[],L,Y))):=by
 obtain⟨p,c,rfl⟩:=Qd h.stack;have C:=Xh h;have Z:w.cell? ⟨sb,4,none⟩=some (.slice p S.length c):=h.blk.cell 4;have T:Hid (∀wx,_):=fun wx=>qG wx
 have U:Hid (∀wx,_):=fun wx=>zx wx
 unfold QN;clear h;by_cases O:S.length<8
 ·rw[if_pos O,Option.map_some];have V:decide ((S.length:Int)<8)=true:=by simp;omega
  have F:=(Below.refl w.heap.size w).alloc Xl (.cells #[.string k] 9);have A:=Xh (C.out.step F);have G:=A.out.size;go_enter Tryz.func166,Tryz.ntmps166;go_wp2_with (first
   |(go_fit (T.out _);rintro e X⟨rfl,rfl⟩)
   |(at_builtin;refine QO rfl _ _ rfl base (.slice p S.length c) S.length _ rfl A.out.stack _ [k] rfl (QbP _ _) (by unfold maxLen;simp;omega) (by simp;omega) G ?_;intro d P H D I;obtain⟨M,c',rfl⟩:=Qd H;(have E:=A.out.blk.grown D C.out.sfar);(have a:P.cell? ⟨sb,4,none⟩=some (.slice p S.length c):=E.cell 4);(have b:=E.frozen 4)))
  go_end0;have N:Below base w P:=((Below.refl base w).alloc C.out.size _).grown D G (fun g e=>(A.out.stack.lt g e).1);refine Zf.ok (N.setCell (p:=⟨sb,4,none⟩) C.out.low _) (C.out.stacked E (A.out.locals.kept D ?_) (by simpa using H) ?_) ⟨rfl,fun g R J=>⟨?_,J.1,J.2.1,?_⟩⟩
  ·cases h:lv.ownBlock with
   |none=>exact Or.inl rfl
   |some g=>exact Or.inr (fun e=>C.out.apart g h e.symm)
  ·rcases I with h|h
   ·exact Or.inl h
   ·refine Or.inr fun g e=>?_
    rw[show(Value.slice M (S.length+1) c').ownBlock=(Value.slice M (S.length+[k].length) c').ownBlock from rfl,h]at e;injection e with e
    have:=F.size;omega
  ·rw[Xk _ _ _ _ J.1,D.block g (Nat.lt_of_lt_of_le R F.size) (fun e=>J.2.2 e.symm)];exact F.block g R
  ·intro e;rcases I with h|h
   ·exact J.2.2 (h▸e)
   ·rw[show(Value.slice M (S.length+1) c').ownBlock=(Value.slice M (S.length+[k].length) c').ownBlock from rfl,h]at e;injection e with e
    have:=F.size;omega
 ·rw[if_neg O,Option.map_none];have V:decide ((S.length:Int)<8)=false:=by simp;omega
  go_enter Tryz.func166,Tryz.ntmps166;go_wp2_with (first
   |(go_fit (U.out _);rintro e X⟨rfl,rfl⟩))
  exact⟨rfl,Zf.no Xb⟩
set_option maxRecDepth 512
def Zb5(cs:List qa)(t:Str)(L S:List Str):Option (Value×List Str×List Str):=if Qg cs t=0 then some (.tuple #[],L,S) else none
set_option maxRecDepth 100000
theorem qcU(w0 w:World)(B:Nat)(l:List qa)(base:Nat)(wx:World)(G:Env w0 w B l base wx)(sb:Nat)(qb Zb:Str)(lv sv:Value)(L S:List Str)(h:qh base wx sb B qb Zb lv sv L S)(t:Str)(H:t.size<=maxLen):
 Calls Tryz.prog 172 #[.pointer (some ⟨sb,0,none⟩),.string t] wx (Zf base wx sb B qb Zb lv sv (Zb5 (Za l) t L S)):=by
 have F:=Xh (zcm w0 wx B (Za l) G.map.map G.map.right.nodup t H);have C:=Xh h;have O:wx.cell? ⟨sb,0,none⟩=some (.map (some B)):=h.blk.cell 0;have I:Hid (∀wx,_):=fun wx=>qG wx
 have J:Hid (∀wx,_):=fun wx=>zx wx
 clear h G;unfold Zb5;rcases zS (Qg (Za l) t) with⟨D,E⟩|⟨D,E⟩
 ·rw[D]at F;rw[if_pos E];clear D E;go_enter Tryz.func172,Tryz.ntmps172;go_wp2_with (first
   |(go_fit F.out;rintro e M⟨rfl,A⟩)
   |(go_fit (I.out _);rintro e N⟨rfl,rfl⟩))
  go_end0;exact Zf.ok (C.out.over A) (C.out.step A) (Kp.below A)
 ·rw[D]at F;rw[if_neg E];clear D E;generalize Qg (Za l) t=n at *;go_enter Tryz.func172,Tryz.ntmps172;go_wp2_with (first
   |(go_fit F.out;rintro e M⟨rfl,A⟩)
   |(go_fit (J.out _);rintro e N⟨rfl,rfl⟩))
  exact⟨rfl,Zf.no (C.out.over A)⟩
set_option maxRecDepth 512
def zB(S:List Str):Option (Str×List Str):=S.getLast?.map fun k=>(k,S.dropLast)
theorem ZeO:zB []=none:=rfl
theorem Qa5(S:List Str)(k:Str):zB (S++[k])=some (k,S):=by unfold zB;simp
def Qch(L S:List Str):Option (Value×List Str×List Str):=(zB S).map fun p=>(.string p.1,L,p.2)
set_option maxRecDepth 100000
theorem Zdb(base:Nat)(w:World)(sb B:Nat)(qb Zb:Str)(lv sv:Value)(L S:List Str)(h:qh base w sb B qb Zb lv sv L S):
 Calls Tryz.prog 168 #[.pointer (some ⟨sb,0,none⟩)] w (Zf base w sb B qb Zb lv sv (Qch L S)):=by
 have I:Hid (∀wx,_):=fun wx=>qG wx
 have J:Hid (∀wx,_):=fun wx=>zx wx
 have C:=Xh h;unfold Qch;rcases List.eq_nil_or_concat S with rfl|⟨r,k,rfl⟩
 ·obtain⟨p,c,rfl⟩:=Qd h.stack;have M:w.cell? ⟨sb,4,none⟩=some (.slice p 0 c):=h.blk.cell 4;rw[ZeO,Option.map_none];clear h;go_enter Tryz.func168,Tryz.ntmps168;go_wp2_with (first
   |(go_fit (J.out _);rintro e O⟨rfl,rfl⟩))
  exact⟨rfl,Zf.no Xb⟩
 ·rw[List.concat_eq_append]at *;rw[Qa5,Option.map_some];have A:=h.stack;have D:(r++[k]).length=r.length+1:=by simp
  rw[D,List.map_append]at A;obtain⟨g,cap,rfl,N,G,F⟩:∃g cap,sv=.slice (some ⟨g,0,none⟩) (r.length+1) cap/\base<=g/\r.length+1<=cap/\cap<=maxLen:=by
   rcases A.2 with⟨_,b⟩|⟨g,cap,P,R,T,_,U,V,_⟩
   ·omega
   ·exact⟨g,cap,R,T,U,V⟩
  have M:w.cell? ⟨sb,4,none⟩=some (.slice (some ⟨g,0,none⟩) (r.length+1) cap):=h.blk.cell 4;have X:=h.blk.frozen 4;have Y:w.cell? ⟨g,r.length,none⟩=some (.string k):=by
   rw[World.ownsRow.cellAt A r.length (by omega)];simp
  have Z:decide ((0:Int)<=(r.length:Int))=true:=by simp
  have a:wrap64 (r.length:Int)=(r.length:Int):=by
   unfold maxLen at F;unfold wrap64;omega
  have E:=Xh (ownsRow_pop (by simp) A);clear h A;go_enter Tryz.func168,Tryz.ntmps168;go_wp2_with (first
   |(go_fit (I.out _);rintro e O⟨rfl,rfl⟩))
  go_ret;exact Zf.ok ((Below.refl base w).setCell (p:=⟨sb,4,none⟩) C.out.low _) (C.out.stacked C.out.blk C.out.locals E.out (Or.inl rfl)) ⟨rfl,fun g _ H=>⟨Xk _ _ _ _ H.1,H⟩⟩
set_option maxRecDepth 512
def Qf(cs:List qa):List Str->List Str->Option (List Str)
 |[],S=>some S
 |k::r,S=>if Qg cs k≠0 then none else match zB S with
  |none=>none
  |some (t,S')=>if zQ cs (qr t) (qr k) then Qf cs r S' else none
theorem Qak{cs:List qa}{S B:List Str}{k:Str}(h:zB S=some (k,B))(C:ql cs S):Qg cs k=0/\ql cs B:=by
 rcases List.eq_nil_or_concat S with rfl|⟨r,t,rfl⟩
 ·cases h
 ·rw[List.concat_eq_append]at *;rw[Qa5]at h;injection h with h
  injection h with D E
  subst D E;exact⟨C _ (by simp),fun k A=>C k (by simp[A])⟩
def ZaS(x:Kd):Bool:=decide (x=.n)||zz x
def QaE(w:World)(kv:Value)(ks:List Str)(sb:Nat)(lv sv:Value):Prop:=Zo w kv ks/\∀g,kv.ownBlock=some g->g<w.heap.size/\Za2 sb lv sv g
theorem QaE.keep{w w':World}{C:Value}{D:List Str}{sb:Nat}{lv sv A B:Value}(h:QaE w C D sb lv sv)(F:Kp sb lv sv w A B w'):Zo w' C D:=by
 rcases h with⟨N|⟨a,cap,rfl,O,P,R⟩,S⟩
 ·exact Or.inl N
 ·refine Or.inr ⟨a,cap,rfl,O,P,fun i x M=>?_⟩;obtain⟨vs,E,G,H,I⟩:=R i x M;obtain⟨J,L⟩:=S a.block rfl;unfold Qs at E;subst E;exact⟨_,rfl,G,H,(World.cell?_of_block (a:=⟨a.block,a.off+i*1,none⟩) (F.2 a.block J L).1).trans I.1,trivial⟩
theorem ZaD(w0 w:World)(B:Nat)(l:List qa)(F:Zi w0 w B l)(a b:Str)(A:Qg (Za l) a=0)(C:Qg (Za l) b=0):
 Calls Tryz.prog 52 #[.map (some B),.string a,.string b] w fun e w'=>e=.returned (.bool (zQ (Za l) (qr a) (qr b)))/\Below w.heap.size w w':=by
 obtain⟨X,D⟩:=zR A;obtain⟨Y,E⟩:=zR C;rw[zK D.1,zK E.1];exact zcp w0 w B l F a b X Y D E (Xf (qad A) (by decide)) (Xf (qad C) (by decide))
set_option maxRecDepth 100000
theorem Qe5(w0 w:World)(B:Nat)(l:List qa)(base:Nat)(wx:World)(_hE:Env w0 w B l base wx)(sb:Nat)(qb Zb:Str)(lv sv:Value)(L S:List Str)(h:qh base wx sb B qb Zb lv sv L S)(Z:ql (Za l) S):
 Calls Tryz.prog 171 #[.pointer (some ⟨sb,0,none⟩)] wx (Zf base wx sb B qb Zb lv sv ((zB S).bind fun p=>if ZaS (qr p.1) then some (.string p.1,L,p.2) else none)):=by
 have F:=Xh (Zdb base wx sb B qb Zb lv sv L S h);have a:Hid (∀wx,_):=fun wx=>qG wx
 have c:Hid (∀wx,_):=fun wx=>zx wx
 clear h;unfold Qch at F;cases J:zB S with
 |none =>
  rw[J,Option.map_none]at F;rw[Option.bind_none];clear J;go_enter Tryz.func171,Tryz.ntmps171;go_wp2_with (first
   |(go_fit F.out;rintro e Y G;obtain⟨A,rfl⟩:=G.no'))
  exact⟨rfl,Zf.no A⟩
 |some p =>
  obtain⟨k,d⟩:=p;rw[J,Option.map_some]at F;rw[Option.bind_some];obtain⟨b,V⟩:=Qak J Z;obtain⟨X,R,_⟩:=zR b;have O:Hid (∀wx,_):=fun wx=>qK k X wx R
  have H:=zK R;have U:=qaq R .n;rw[show zp Kd.n=[78] from rfl]at U;dsimp only;rw[H];clear J b R H Z V;by_cases C:X=.n
  ·subst C;rw[Xj rfl]at U;rw[show ZaS Kd.n=true from rfl,if_pos rfl];go_enter Tryz.func171,Tryz.ntmps171;go_wp2_with (first
    |(go_fit F.out;rintro e Y G;obtain⟨A,rfl,M,N,D,E⟩:=G.ok')
    |(go_fit (a.out _);rintro e T⟨rfl,rfl⟩))
   go_ret;exact Zf.ok A D E
  ·rw[Xi C]at U;have I:ZaS X=zz X:=(by unfold ZaS;rw[Xi C];rfl);rw[I];clear I;cases P:zz X with
   |true =>
    rw[P]at O;rw[if_pos rfl];clear P C;go_enter Tryz.func171,Tryz.ntmps171;go_wp2_with (first
     |(go_fit F.out;rintro e Y G;obtain⟨A,rfl,M,N,D,E⟩:=G.ok')
     |(go_fit (O.out _);rintro e T⟨rfl,rfl⟩)
     |(go_fit (a.out _);rintro e T⟨rfl,rfl⟩))
    go_ret;exact Zf.ok A D E
   |false =>
    rw[P]at O;rw[if_neg (by decide)];clear P C;go_enter Tryz.func171,Tryz.ntmps171;go_wp2_with (first
     |(go_fit F.out;rintro e Y G;obtain⟨A,rfl,M,N,D,E⟩:=G.ok')
     |(go_fit (O.out _);rintro e T⟨rfl,rfl⟩)
     |(go_fit (c.out _);rintro e T⟨rfl,rfl⟩))
    exact⟨rfl,Zf.no A⟩
set_option maxRecDepth 512
theorem Zep{cs:List qa}{k:Str}{r S:List Str}(h:Qg cs k≠0):Qf cs (k::r) S=none:=by unfold Qf;rw[if_pos h]
theorem qdt{cs:List qa}{k:Str}{r S:List Str}(h:Qg cs k=0)(A:zB S=none):Qf cs (k::r) S=none:=by unfold Qf;rw[if_neg (by rw[h];decide),A]
theorem qep{cs:List qa}{k t:Str}{r S A:List Str}(h:Qg cs k=0)(B:zB S=some (t,A)):Qf cs (k::r) S=if zQ cs (qr t) (qr k) then Qf cs r A else none:=by
 conv=>lhs;unfold Qf
 rw[if_neg (by rw[h];decide),B]
set_option maxRecDepth 100000
theorem qeO(w0 w:World)(B:Nat)(l:List qa)(base:Nat)(wx:World)(hE:Env w0 w B l base wx)(sb:Nat)(qb Zb:Str)(lv sv:Value)(L S:List Str)(h:qh base wx sb B qb Zb lv sv L S)(hS:ql (Za l) S)(H:List Str)(kv:Value)(aA:QaE wx kv H sb lv sv)(hsz:∀k∈H,k.size<=maxLen)(hln:H.length<=4194304):
 Calls Tryz.prog 169 #[.pointer (some ⟨sb,0,none⟩),kv] wx (Zf base wx sb B qb Zb lv sv ((Qf (Za l) H S).map fun d=>(.tuple #[],L,d))):=by
 have HE:=Xh hE;have HSt0:=Xh h;have HS0:=Xh hS;have HSz:=Xh hsz;have HKs:=Xh aA;have HT:Hid (∀wx,_):=fun wx=>qG wx
 have HF:Hid (∀wx,_):=fun wx=>zx wx
 obtain⟨p,c,rfl,_⟩:=aA.1.open;obtain⟨n,hn⟩:∃n,H.length=n:=⟨_,rfl⟩;have HN:=Xh hn;rw[hn]at hln ⊢;clear hE h hS aA hsz hn;obtain⟨res,O⟩:∃r,Qf (Za l) H S=r:=⟨_,rfl⟩;have HR:=Xh O;rw[O];clear O;go_enter Tryz.func169,Tryz.ntmps169;go_wp2_with fail;go_loopw [8] (fun x wr=>∃(k:Nat) (Z a:Value) (d:List Str),k<=n/\Hid (qh base wr sb B qb Zb Z a L d)/\Hid (Qf (Za l) (H.drop k) d=res)/\Hid (Below base wx wr)/\Hid (Kp sb lv sv wx Z a wr)/\Hid (ql (Za l) d)/\x=.int .i64 k) (fun x _=>n-(intOf x).toNat)
 case atStart=>exact⟨0,lv,sv,S,by omega,HSt0,HR,Xb,⟨rfl,fun g _ ha=>⟨rfl,ha⟩⟩,HS0,rfl⟩
 case round =>
  obtain⟨k,Z,a,d,hk,f,j,hB,P,aE,rfl⟩:=hrel;by_cases hkl:k<n
  ·obtain⟨x,hx⟩:∃x,H[k]? = some x:=⟨H[k]'(by rw[HN.out];exact hkl),by simp⟩;obtain⟨p',c',hpc,_,_,aF⟩:=(HKs.out.keep P.out).open;cases hpc;obtain⟨b,o,vs,rfl,hRr,_,zd⟩:=aF k x hx;unfold Qs at hRr;subst hRr;have c0:=zd.1;rw[Nat.mul_one]at c0;have aB:H.drop k=x::H.drop (k+1):=by
    obtain⟨h1,h2⟩:=List.getElem?_eq_some_iff.1 hx;rw[List.drop_eq_getElem_cons h1,h2]
   have A:=j.out;rw[aB]at A;have U:=HE.out.step hB.out;have I:=Xh (qcU w0 w B l base wr U sb qb Zb Z a L d f.out x (HSz.out x (Xe hx)));unfold Zb5 at I;by_cases F:Qg (Za l) x=0
   ·rw[if_pos F]at I;have HKn:=Xh aE.out;have HEr:=Xh U;have J:=Xh hB.out;have HKr:=Xh P.out;have aC:=Xh F;have D:=Xh A;clear zd aF aB U F hx f j P aE hB A;go_upto_region 4 with(first
     |(go_fit I.out;rintro e s y;obtain⟨R,rfl,lv2,sv2,m,hk2⟩:=y.ok'))
    have HE2:=Xh (HEr.out.step R);have V:=Xh (J.out.trans R);have HK2:=Xh (HKr.out.trans hk2 J.out.size);have hP2:∀wy,Below s.heap.size s wy->_:=fun wy hb=>Zdb base wy sb B qb Zb lv2 sv2 L d (m.step hb)
    have q0:s.cell? ⟨sb,0,none⟩=some (.map (some B)):=m.blk.cell 0;have G:=Xh hP2;have HS2:=Xh m;have X:=(Below.refl s.heap.size s).drew;have M:=(Below.refl base s).drew;clear R hk2 m hP2 c0;unfold Qch at G;have q0d:s.drew.cell? ⟨sb,0,none⟩=some (.map (some B)):=q0;refine wp_region_held_drew (S:=fun w'=>w'.cell? ⟨sb,0,none⟩=some (.map (some B))) (by kernel_rfl) q0d (fun hHeld=>?_);change wpAnyH _ _ _ _ _ 9 _ _ _;iterate 5 ((first|(refine tkN rfl rfl hHeld ?_)|(refine tkY (v:=?_) rfl rfl hHeld ?_ ?_;rotate_left;focus (intro w aG;((try dsimp only at aG));go_simp;all_goals with_reducible rfl)));try simp only[Act.put,Xa,Xc,Xd])
    refine tkI (i:=6) (fuel:=3) (v:=?_) rfl (by kernel_rfl) (by kernel_rfl) (by kernel_rfl) (fun _ _ _ h=>h) (by rfl) hHeld ?_ ?_;rotate_left;focus (intro w aG;((try dsimp only at aG));go_simp;all_goals with_reducible rfl);(try simp only[Act.put]);(try simp only[Xa]);(try simp only[Xd]);(try simp only[Xc])
    refine wpAnyH_ready (rs:=[5]) (fuel:=2) (by kernel_rfl) (by simp) ?_;refine AllReadyH.cons (i:=5) rfl (fun K z=>?_) AllReadyH.nil;go_simp;cases hp:zB d with
    |none =>
     rw[qdt aC.out hp]at D;have aD:=D.out;subst aD;rw[hp,Option.map_none]at G;refine(G.out _ X).mono ?_;rintro e w4 y;obtain⟨T,rfl⟩:=y.no';exact And.intro rfl (Zf.no (V.out.trans (M.trans T)))
    |some p =>
     obtain⟨t,S2⟩:=p;rw[qep aC.out hp]at D;rw[hp,Option.map_some]at G;obtain⟨hkt,q⟩:=Qak hp HKn.out;refine(G.out _ X).mono ?_;rintro e w4 y;obtain⟨T,rfl,lv4,sv4,C,hk4⟩:=y.ok';have hE4:=HE2.out.step (M.trans T);have Y:=Xh (V.out.trans (M.trans T));have HK4:=Xh (HK2.out.trans ((Kp.below X).trans hk4 X.size) V.out.size);have HD:=Xh (ZaD w0 w4 B l hE4.map t x hkt aC.out);have HS4:=Xh C;have HN2:=Xh q;clear G y hp hkt q T hk4 hE4;refine z.out _ _ (C.blk.cell 0) (fun _=>?_);clear z K;refine wpAnyH_ready (rs:=[7]) (fuel:=1) (by kernel_rfl) (by simp) ?_;refine AllReadyH.cons (i:=7) rfl (fun K z=>?_) AllReadyH.nil;go_simp;refine HD.out.mono ?_;rintro e w5⟨rfl,E⟩;refine z.out _ _ ((C.step E).blk.cell 0) (fun _=>?_);clear z K;try simp only[Act.put,Xa,Xc,Xd]
     refine wpAnyH_ready (rs:=[8]) (fuel:=0) (by kernel_rfl) (by simp) ?_;refine AllReadyH.cons (i:=8) rfl (fun K z=>?_) AllReadyH.nil;go_simp;cases N:zQ (Za l) (qr t) (qr x) with
     |false =>
      rw[N,if_neg (by decide)]at D;have aD:=D.out;subst aD;refine(HF.out _).mono ?_;rintro e w6⟨rfl,rfl⟩;exact And.intro rfl (Zf.no (Y.out.trans (C.over E)))
     |true =>
      rw[N,if_pos rfl]at D;refine(HT.out _).mono ?_;rintro e w6⟨rfl,rfl⟩;refine z.out _ _ ((C.step E).blk.cell 0) (fun _=>?_);clear z K;try simp only[Act.put,Xa,Xc,Xd]
      refine wpAnyH_done (by kernel_rfl) ?_ _;have HS5:=Xh (C.step E);have HB5:=Xh (Y.out.trans (C.over E));have HK5:=Xh (HK4.out.trans (Kp.below E) Y.out.size);clear C E HK4 Y HK2 V HKr J N;go_wp2_with fail;go_roundw;case rel=>exact⟨k+1,lv4,sv4,S2,by omega,HS5,D,HB5,HK5,HN2,by simp⟩
      case measure=>simp[intOf];omega
   ·rw[if_neg F]at I;rw[Zep F]at A;subst A;have J:=Xh hB.out;clear zd aF aB U F hx f j P aE hB;go_wp2_with (first
     |(go_fit I.out;rintro e s y;obtain⟨R,rfl⟩:=y.no'))
    exact⟨rfl,Zf.no (J.out.trans R)⟩
  ·obtain rfl:n=k:=(by omega);have A:=j.out;rw[Xg (by rw[HN.out];exact Xl)]at A;subst A;go_wp2_with fail;go_end0;exact Zf.ok hB.out f.out P.out
set_option maxRecDepth 512
def kI:Str:=⟨#[73]⟩
def kJ:Str:=⟨#[74]⟩
def kN:Str:=⟨#[78]⟩
def Zal:Str:=⟨#[70,97,117,108,116]⟩
def zr(L S:List Str)(k:Str):Option (List Str×List Str):=(QN S k).map fun S'=>(L,S')
def QbB(L S:List Str)(a:Int):Option (List Str×List Str):=match L[a.toNat]? with
 |some k=>if (k.toList==[84])=true then none else zr L S k
 |none=>none
def qa0(L S:List Str)(a:Int):Option (List Str×List Str):=(zB S).bind fun p=>if a.toNat<L.length then some (L.set a.toNat p.1,p.2) else none
def Qan(a:Int)(t:Str):List Str:=if a=12 then [] else if a=9\/a=10\/a=11 then [kI] else [t]
def Zat(t:Str):Str:=if (t.toList==[73])=true then kJ else kI
def Qdt(L S:List Str):Option (List Str×List Str):=(zB S).bind fun p=>if ZaS (qr p.1) then some (L,p.2) else none
def qD(cs:List qa)(Zb:Str)(x:Ins)(L S:List Str):Option (List Str×List Str) :=
 if x.op=2 then zr L S x.type
 else if x.op=3 then zr L S kN
 else if x.op=4 then QbB L S x.a
 else if x.op=5 then qa0 L S x.a
 else if x.op=6 then (zB S).map fun p=>(L,p.2)
 else if x.op=7 then (zB S).bind fun p=>(QN p.2 p.1).bind fun S1=>zr L S1 p.1
 else if x.op=8 then (zB S).bind fun p=>(zB p.2).bind fun q=>(QN q.2 p.1).bind fun S1=>zr L S1 q.1
 else if x.op=9 then (Qf cs (Qan x.a x.type) S).bind fun S1=>(Qf cs [x.type] S1).bind fun S2=>zr L S2 x.type
 else if x.op=10 then (Qf cs [Zat x.type] S).bind fun S1=>zr L S1 x.type
 else if x.op=11 then (Qf cs [kJ,kJ] S).bind fun S1=>zr L S1 kI
 else if x.op=12 then (Qf cs [kI] S).map fun S1=>(L,S1)
 else if x.op=13 then Qdt L S
 else if x.op=26 then if (Zb.toList==[86])=true then some (L,S) else none
 else if x.op=27 then if (Zb.toList==[86])=true then none else (Qf cs [Zb] S).map fun S1=>(L,S1)
 else if x.op=28 then (Qf cs [Qc Zal] S).map fun S1=>(L,S1)
 else some (L,S)
theorem Zq{α β:Type}{o:Option α}{f:α->Option β}(h:o=none):o.bind f=none:=by rw[h];rfl
theorem Qe{α β:Type}{o:Option α}{f:α->Option β}{x:α}(h:o=some x):o.bind f=f x:=by rw[h];rfl
theorem zaV{α β:Type}{o:Option α}{f:α->β}(h:o=none):o.map f=none:=by rw[h];rfl
theorem zad{α β:Type}{o:Option α}{f:α->β}{x:α}(h:o=some x):o.map f=some (f x):=by rw[h];rfl
theorem Zd{o:Option (List Str×List Str)}(h:o=none):Zm o=none:=by rw[h];rfl
theorem qj{o:Option (List Str×List Str)}{L S:List Str}(h:o=some (L,S)):Zm o=some (.tuple #[],L,S):=by rw[h];rfl
theorem Qz{L S:List Str}{k:Str}(h:QN S k=none):zr L S k=none:=zaV h
theorem Zy{L S A:List Str}{k:Str}(h:QN S k=some A):zr L S k=some (L,A):=zad h
theorem Qh{cs:List qa}:∀{D S A:List Str},Qf cs D S=some A->ql cs S->ql cs A
 |[],S,A,h,C=>by injection h with h;subst h;exact C
 |k::r,S,A,h,C=>by
  unfold Qf at h;split at h
  ·cases h
  ·cases B:zB S with
   |none=>rw[B]at h;cases h
   |some p =>
    obtain⟨t,E⟩:=p;rw[B]at h;dsimp only at h;split at h
    ·exact Qh h (Qak B C).2
    ·cases h
structure SA (w0 w:World) (B:Nat) (l:List qa) (base:Nat) (ws:World) (lv0 sv0:Value) (sb:Nat) (qb Zb:Str) (xb:Nat) (xv:List Value) (wx:World) (lv sv:Value) (L S:List Str):Prop where
 env:Env w0 w B l base wx
 step:qh base wx sb B qb Zb lv sv L S
 box:Blk wx xb 34 xv
 apart:Za2 sb lv sv xb
 below:Below base ws wx
 kp:Kp sb lv0 sv0 ws lv sv wx
variable {w0 w:World} {B:Nat} {l:List qa} {base:Nat} {ws:World} {lv0 sv0:Value} {sb:Nat} {qb Zb:Str} {xb:Nat} {xv:List Value} {wx:World} {lv sv:Value} {L S:List Str}
theorem SA.new(C:Env w0 w B l base ws)(h:qh base ws sb B qb Zb lv0 sv0 L S)(xv:List Value):SA w0 w B l base ws lv0 sv0 sb qb Zb ws.heap.size xv (ws.alloc (.cells xv.toArray 34)) lv0 sv0 L S :=
 have A:=(Below.refl ws.heap.size ws).alloc Xl (.cells xv.toArray 34);⟨C.step (A.mono h.size),h.step A,Blk.new ws 34 xv,h.fresh Xl,A.mono h.size,Kp.below A⟩
theorem SA.next(T:SA w0 w B l base ws lv0 sv0 sb qb Zb xb xv wx lv sv L S){w':World}{A C:Value}{E F:List Str}(G:Below base wx w')(h:qh base w' sb B qb Zb A C E F)(D:Kp sb lv sv wx A C w'):SA w0 w B l base ws lv0 sv0 sb qb Zb xb xv w' A C E F :=
 ⟨T.env.step G,h,D.blk T.box T.apart,(D.2 xb T.box.lt T.apart).2,T.below.trans G,T.kp.trans D T.below.size⟩
theorem SA.over(T:SA w0 w B l base ws lv0 sv0 sb qb Zb xb xv wx lv sv L S){w':World}(A:Below wx.heap.size wx w'):SA w0 w B l base ws lv0 sv0 sb qb Zb xb xv w' lv sv L S :=
 T.next (T.step.over A) (T.step.step A) (Kp.below A)
theorem SA.alloc(T:SA w0 w B l base ws lv0 sv0 sb qb Zb xb xv wx lv sv L S)(o:Obj):SA w0 w B l base ws lv0 sv0 sb qb Zb xb xv (wx.alloc o) lv sv L S:=T.over (Xb.alloc Xl o)
theorem SA.stop(T:SA w0 w B l base ws lv0 sv0 sb qb Zb xb xv wx lv sv L S){w':World}(A:Below base wx w'){r:Option (Value×List Str×List Str)}(C:r=none):Zf base ws sb B qb Zb lv0 sv0 r (.panicked [qaI]) w':=by subst C;exact Zf.no (T.below.trans A)
theorem SA.done(T:SA w0 w B l base ws lv0 sv0 sb qb Zb xb xv wx lv sv L S){v:Value}{r:Option (Value×List Str×List Str)}(A:r=some (v,L,S)):Zf base ws sb B qb Zb lv0 sv0 r (.returned v) wx:=by subst A;exact Zf.ok T.below T.step T.kp
theorem SA.put(T:SA w0 w B l base ws lv0 sv0 sb qb Zb xb xv wx lv sv L S)(k:Str):Calls Tryz.prog 166 #[.pointer (some ⟨sb,0,none⟩),.string k] wx (Zf base wx sb B qb Zb lv sv ((QN S k).map fun A=>(.tuple #[],L,A))):=zeO base wx sb B qb Zb lv sv L S T.step k
theorem SA.pop(T:SA w0 w B l base ws lv0 sv0 sb qb Zb xb xv wx lv sv L S):Calls Tryz.prog 168 #[.pointer (some ⟨sb,0,none⟩)] wx (Zf base wx sb B qb Zb lv sv ((zB S).map fun p=>(.string p.1,L,p.2))):=Zdb base wx sb B qb Zb lv sv L S T.step
theorem SA.knows(T:SA w0 w B l base ws lv0 sv0 sb qb Zb xb xv wx lv sv L S)(t:Str)(A:t.size<=maxLen):Calls Tryz.prog 172 #[.pointer (some ⟨sb,0,none⟩),.string t] wx (Zf base wx sb B qb Zb lv sv (Zb5 (Za l) t L S)):=qcU w0 w B l base wx T.env sb qb Zb lv sv L S T.step t A
theorem SA.ref(T:SA w0 w B l base ws lv0 sv0 sb qb Zb xb xv wx lv sv L S)(A:ql (Za l) S):Calls Tryz.prog 171 #[.pointer (some ⟨sb,0,none⟩)] wx (Zf base wx sb B qb Zb lv sv ((zB S).bind fun p=>if ZaS (qr p.1) then some (.string p.1,L,p.2) else none)):=Qe5 w0 w B l base wx T.env sb qb Zb lv sv L S T.step A
theorem SA.take(T:SA w0 w B l base ws lv0 sv0 sb qb Zb xb xv wx lv sv L S)(G:ql (Za l) S)(A:List Str)(C:Value)(D:QaE wx C A sb lv sv)(E:∀k∈A,k.size<=maxLen)(F:A.length<=4194304):Calls Tryz.prog 169 #[.pointer (some ⟨sb,0,none⟩),C] wx (Zf base wx sb B qb Zb lv sv ((Qf (Za l) A S).map fun H=>(.tuple #[],L,H))):=qeO w0 w B l base wx T.env sb qb Zb lv sv L S T.step G A C D E F
theorem SA.take1(T:SA w0 w B l base ws lv0 sv0 sb qb Zb xb xv wx lv sv L S)(D:ql (Za l) S)(k:Str)(E:k.size<=maxLen):Calls Tryz.prog 169 #[.pointer (some ⟨sb,0,none⟩),.slice (some ⟨wx.heap.size,0,none⟩) 1 1] (wx.alloc (.cells #[.string k] 9)) (Zf base (wx.alloc (.cells #[.string k] 9)) sb B qb Zb lv sv ((Qf (Za l) [k] S).map fun F=>(.tuple #[],L,F))) :=
 (T.alloc (.cells #[.string k] 9)).take D [k] _ ⟨QbP wx k,fun g A=>by
  injection A with A
  subst A;exact⟨by simp,T.step.fresh Xl⟩⟩ (fun x C=>by simp at C;subst C;exact E) (by simp)
theorem SA.take2(T:SA w0 w B l base ws lv0 sv0 sb qb Zb xb xv wx lv sv L S)(D:ql (Za l) S)(k m:Str)(E:k.size<=maxLen)(F:m.size<=maxLen):Calls Tryz.prog 169 #[.pointer (some ⟨sb,0,none⟩),.slice (some ⟨wx.heap.size,0,none⟩) 2 2] (wx.alloc (.cells #[.string k,.string m] 9)) (Zf base (wx.alloc (.cells #[.string k,.string m] 9)) sb B qb Zb lv sv ((Qf (Za l) [k,m] S).map fun G=>(.tuple #[],L,G))) :=
 (T.alloc (.cells #[.string k,.string m] 9)).take D [k,m] _ ⟨Qi (l:=[k,m]) (World.ownsRow_lit (base:=wx.heap.size) (e:=9) (size:=1) wx #[.string k,.string m] 2 Xl (by decide) rfl),fun g A=>by
  injection A with A
  subst A;exact⟨by simp,T.step.fresh Xl⟩⟩ (fun x C=>by
   simp at C;rcases C with rfl|rfl
   ·exact E
   ·exact F) (by simp)
theorem SA.putN(T:SA w0 w B l base ws lv0 sv0 sb qb Zb xb xv wx lv sv L S)(k:Str)(A:QN S k=none):Calls Tryz.prog 166 #[.pointer (some ⟨sb,0,none⟩),.string k] wx (Zf base wx sb B qb Zb lv sv none):=by
 have h:=T.put k;rw[A]at h;exact h
theorem SA.putY(T:SA w0 w B l base ws lv0 sv0 sb qb Zb xb xv wx lv sv L S)(k:Str){A:List Str}(C:QN S k=some A):Calls Tryz.prog 166 #[.pointer (some ⟨sb,0,none⟩),.string k] wx (Zf base wx sb B qb Zb lv sv (some (.tuple #[],L,A))):=by
 have h:=T.put k;rw[C]at h;exact h
theorem SA.popN(T:SA w0 w B l base ws lv0 sv0 sb qb Zb xb xv wx lv sv L S)(A:zB S=none):Calls Tryz.prog 168 #[.pointer (some ⟨sb,0,none⟩)] wx (Zf base wx sb B qb Zb lv sv none):=by
 have h:=T.pop;rw[A]at h;exact h
theorem SA.popY(T:SA w0 w B l base ws lv0 sv0 sb qb Zb xb xv wx lv sv L S){k:Str}{A:List Str}(C:zB S=some (k,A)):Calls Tryz.prog 168 #[.pointer (some ⟨sb,0,none⟩)] wx (Zf base wx sb B qb Zb lv sv (some (.string k,L,A))):=by
 have h:=T.pop;rw[C]at h;exact h
theorem SA.takeON(T:SA w0 w B l base ws lv0 sv0 sb qb Zb xb xv wx lv sv L S)(A:ql (Za l) S)(k:Str)(C:k.size<=maxLen)(g:Nat)(D:g=wx.heap.size)(E:Qf (Za l) [k] S=none):Calls Tryz.prog 169 #[.pointer (some ⟨sb,0,none⟩),.slice (some ⟨g,0,none⟩) 1 1] (wx.alloc (.cells #[.string k] 9)) (Zf base (wx.alloc (.cells #[.string k] 9)) sb B qb Zb lv sv none):=by
 subst D;have h:=T.take1 A k C;rw[E]at h;exact h
theorem SA.takeOY(T:SA w0 w B l base ws lv0 sv0 sb qb Zb xb xv wx lv sv L S)(C:ql (Za l) S)(k:Str)(D:k.size<=maxLen){A:List Str}(g:Nat)(E:g=wx.heap.size)(F:Qf (Za l) [k] S=some A):Calls Tryz.prog 169 #[.pointer (some ⟨sb,0,none⟩),.slice (some ⟨g,0,none⟩) 1 1] (wx.alloc (.cells #[.string k] 9)) (Zf base (wx.alloc (.cells #[.string k] 9)) sb B qb Zb lv sv (some (.tuple #[],L,A))):=by
 subst E;have h:=T.take1 C k D;rw[F]at h;exact h
theorem SA.takeTN(T:SA w0 w B l base ws lv0 sv0 sb qb Zb xb xv wx lv sv L S)(A:ql (Za l) S)(k m:Str)(C:k.size<=maxLen)(D:m.size<=maxLen)(g:Nat)(E:g=wx.heap.size)(F:Qf (Za l) [k,m] S=none):Calls Tryz.prog 169 #[.pointer (some ⟨sb,0,none⟩),.slice (some ⟨g,0,none⟩) 2 2] (wx.alloc (.cells #[.string k,.string m] 9)) (Zf base (wx.alloc (.cells #[.string k,.string m] 9)) sb B qb Zb lv sv none):=by
 subst E;have h:=T.take2 A k m C D;rw[F]at h;exact h
theorem SA.takeTY(T:SA w0 w B l base ws lv0 sv0 sb qb Zb xb xv wx lv sv L S)(C:ql (Za l) S)(k m:Str)(D:k.size<=maxLen)(E:m.size<=maxLen){A:List Str}(g:Nat)(F:g=wx.heap.size)(G:Qf (Za l) [k,m] S=some A):Calls Tryz.prog 169 #[.pointer (some ⟨sb,0,none⟩),.slice (some ⟨g,0,none⟩) 2 2] (wx.alloc (.cells #[.string k,.string m] 9)) (Zf base (wx.alloc (.cells #[.string k,.string m] 9)) sb B qb Zb lv sv (some (.tuple #[],L,A))):=by
 subst F;have h:=T.take2 C k m D E;rw[G]at h;exact h
theorem SA.takeAN(T:SA w0 w B l base ws lv0 sv0 sb qb Zb xb xv wx lv sv L S)(G:ql (Za l) S)(A:List Str)(C:Value)(D:QaE wx C A sb lv sv)(E:∀k∈A,k.size<=maxLen)(F:A.length<=4194304)(H:Qf (Za l) A S=none):Calls Tryz.prog 169 #[.pointer (some ⟨sb,0,none⟩),C] wx (Zf base wx sb B qb Zb lv sv none):=by
 have h:=T.take G A C D E F;rw[H]at h;exact h
theorem SA.takeAY(T:SA w0 w B l base ws lv0 sv0 sb qb Zb xb xv wx lv sv L S)(H:ql (Za l) S)(A:List Str)(C:Value)(D:QaE wx C A sb lv sv)(E:∀k∈A,k.size<=maxLen)(F:A.length<=4194304){G:List Str}(I:Qf (Za l) A S=some G):Calls Tryz.prog 169 #[.pointer (some ⟨sb,0,none⟩),C] wx (Zf base wx sb B qb Zb lv sv (some (.tuple #[],L,G))):=by
 have h:=T.take H A C D E F;rw[I]at h;exact h
theorem SA.knowsN(T:SA w0 w B l base ws lv0 sv0 sb qb Zb xb xv wx lv sv L S)(t:Str)(A:t.size<=maxLen)(C:Qg (Za l) t≠0):Calls Tryz.prog 172 #[.pointer (some ⟨sb,0,none⟩),.string t] wx (Zf base wx sb B qb Zb lv sv none):=by
 have h:=T.knows t A;unfold Zb5 at h;rw[if_neg C]at h;exact h
theorem SA.knowsY(T:SA w0 w B l base ws lv0 sv0 sb qb Zb xb xv wx lv sv L S)(t:Str)(A:t.size<=maxLen)(C:Qg (Za l) t=0):Calls Tryz.prog 172 #[.pointer (some ⟨sb,0,none⟩),.string t] wx (Zf base wx sb B qb Zb lv sv (some (.tuple #[],L,S))):=by
 have h:=T.knows t A;unfold Zb5 at h;rw[if_pos C]at h;exact h
def ZM(S:List Str):Option (Str×List Str):=(zB S).bind fun p=>if ZaS (qr p.1) then some p else none
theorem Qd8(L S:List Str):((zB S).bind fun p=>if ZaS (qr p.1) then some ((.string p.1:Value),L,p.2) else none)=(ZM S).map fun p=>(.string p.1,L,p.2):=by
 unfold ZM;cases zB S with
 |none=>rfl
 |some p =>
  obtain⟨k,A⟩:=p;simp only[Option.bind_some];split<;>rfl
theorem qch(L S:List Str):Qdt L S=(ZM S).map fun p=>(L,p.2):=by
 unfold ZM Qdt;cases zB S with
 |none=>rfl
 |some p =>
  obtain⟨k,A⟩:=p;simp only[Option.bind_some];split<;>rfl
theorem SA.refN(T:SA w0 w B l base ws lv0 sv0 sb qb Zb xb xv wx lv sv L S)(A:ql (Za l) S)(C:ZM S=none):Calls Tryz.prog 171 #[.pointer (some ⟨sb,0,none⟩)] wx (Zf base wx sb B qb Zb lv sv none):=by
 have h:=T.ref A;rw[Qd8,C]at h;exact h
theorem SA.refY(T:SA w0 w B l base ws lv0 sv0 sb qb Zb xb xv wx lv sv L S)(C:ql (Za l) S){k:Str}{A:List Str}(D:ZM S=some (k,A)):Calls Tryz.prog 171 #[.pointer (some ⟨sb,0,none⟩)] wx (Zf base wx sb B qb Zb lv sv (some (.string k,L,A))):=by
 have h:=T.ref C;rw[Qd8,D]at h;exact h
theorem SA.cells{w0 w:World}{B:Nat}{l:List qa}{base:Nat}{ws:World}{lv0 sv0:Value}{sb:Nat}{qb Zb:Str}{xb:Nat}{A C D E F G:Value}{wx:World}{lv sv:Value}{L S:List Str}(T:SA w0 w B l base ws lv0 sv0 sb qb Zb xb [A,C,D,E,F,G] wx lv sv L S):wx.cell? ⟨xb,0,none⟩=some A/\wx.cell? ⟨xb,1,none⟩=some C/\wx.cell? ⟨xb,2,none⟩=some D/\wx.cell? ⟨xb,3,none⟩=some E/\wx.cell? ⟨xb,4,none⟩=some F/\wx.cell? ⟨xb,5,none⟩=some G:=T.box.cells6
theorem zdu:(Qc Zal).size<=maxLen:=by decide
theorem Zai(u:UInt8):(⟨#[u]⟩:Str).size<=maxLen:=by show 1<=maxLen;decide
set_option maxRecDepth 100000
theorem ze6(w0 w:World)(B:Nat)(l:List qa)(base:Nat)(ws:World)(J:Env w0 w B l base ws)(sb:Nat)(qb Zb:Str)(lv sv:Value)(L S:List Str)(h:qh base ws sb B qb Zb lv sv L S)(_hS:ql (Za l) S)(a b:Int)(A cls C:Str)(_hty:A.size<=maxLen)(_hgi:Zb.size<=maxLen):
 Calls Tryz.prog 138 #[.pointer (some ⟨sb,0,none⟩),.agg #[.int .i64 2,.int .i64 a,.int .i64 b,.string A,.string cls,.string C]] ws (Zf base ws sb B qb Zb lv sv (Zm (zr L S A))):=by
 have E:SA w0 w B l base ws lv sv sb qb Zb ws.heap.size [.int .i64 2,.int .i64 a,.int .i64 b,.string A,.string cls,.string C] (ws.alloc (.cells #[.int .i64 2,.int .i64 a,.int .i64 b,.string A,.string cls,.string C] 34)) lv sv L S:=SA.new J h _;obtain⟨O,P,R,T,U,V⟩:=E.cells;obtain⟨X,D⟩:∃r,Zm (zr L S A)=r:=⟨_,rfl⟩;have M:=Xh D;rw[D];clear D J h;go_enter Tryz.func138,Tryz.ntmps138;go_wp2_with (first
  |(go_at_call 166;rcases hq0:QN S A with _|f;(with_reducible refine(E.putN A hq0).mono ?_);(rintro e d I;obtain⟨Y,rfl⟩:=I.no';exact And.intro rfl (E.stop Y (M.out.symm.trans (Zd (Qz hq0)))));(with_reducible refine(E.putY A hq0).mono ?_);rintro e d I;obtain⟨F,rfl,Z,c,G,H⟩:=I.ok';(have N:=E.next F G H);obtain⟨O,P,R,T,U,V⟩:=N.cells))
 go_end0;exact N.done (M.out.symm.trans (qj (Zy hq0)))
theorem Ze6(w0 w:World)(B:Nat)(l:List qa)(base:Nat)(ws:World)(J:Env w0 w B l base ws)(sb:Nat)(qb Zb:Str)(lv sv:Value)(L S:List Str)(h:qh base ws sb B qb Zb lv sv L S)(_hS:ql (Za l) S)(a b:Int)(A cls C:Str)(_hty:A.size<=maxLen)(_hgi:Zb.size<=maxLen):
 Calls Tryz.prog 138 #[.pointer (some ⟨sb,0,none⟩),.agg #[.int .i64 3,.int .i64 a,.int .i64 b,.string A,.string cls,.string C]] ws (Zf base ws sb B qb Zb lv sv (Zm (zr L S kN))):=by
 have E:SA w0 w B l base ws lv sv sb qb Zb ws.heap.size [.int .i64 3,.int .i64 a,.int .i64 b,.string A,.string cls,.string C] (ws.alloc (.cells #[.int .i64 3,.int .i64 a,.int .i64 b,.string A,.string cls,.string C] 34)) lv sv L S:=SA.new J h _;obtain⟨O,P,R,T,U,V⟩:=E.cells;obtain⟨X,D⟩:∃r,Zm (zr L S kN)=r:=⟨_,rfl⟩;have M:=Xh D;rw[D];unfold kN at *;clear D J h;go_enter Tryz.func138,Tryz.ntmps138;go_wp2_with (first
  |(go_at_call 166;rcases hq0:QN S ⟨#[78]⟩ with _|f;(with_reducible refine(E.putN ⟨#[78]⟩ hq0).mono ?_);(rintro e d I;obtain⟨Y,rfl⟩:=I.no';exact And.intro rfl (E.stop Y (M.out.symm.trans (Zd (Qz hq0)))));(with_reducible refine(E.putY ⟨#[78]⟩ hq0).mono ?_);rintro e d I;obtain⟨F,rfl,Z,c,G,H⟩:=I.ok';(have N:=E.next F G H);obtain⟨O,P,R,T,U,V⟩:=N.cells))
 go_end0;exact N.done (M.out.symm.trans (qj (Zy hq0)))
theorem qe6(w0 w:World)(B:Nat)(l:List qa)(base:Nat)(ws:World)(J:Env w0 w B l base ws)(sb:Nat)(qb Zb:Str)(lv sv:Value)(L S:List Str)(h:qh base ws sb B qb Zb lv sv L S)(_hS:ql (Za l) S)(a b:Int)(A cls C:Str)(_hty:A.size<=maxLen)(_hgi:Zb.size<=maxLen):
 Calls Tryz.prog 138 #[.pointer (some ⟨sb,0,none⟩),.agg #[.int .i64 6,.int .i64 a,.int .i64 b,.string A,.string cls,.string C]] ws (Zf base ws sb B qb Zb lv sv (Zm ((zB S).map fun p=>(L,p.2)))):=by
 have E:SA w0 w B l base ws lv sv sb qb Zb ws.heap.size [.int .i64 6,.int .i64 a,.int .i64 b,.string A,.string cls,.string C] (ws.alloc (.cells #[.int .i64 6,.int .i64 a,.int .i64 b,.string A,.string cls,.string C] 34)) lv sv L S:=SA.new J h _;obtain⟨O,P,R,T,U,V⟩:=E.cells;obtain⟨X,D⟩:∃r,Zm ((zB S).map fun p=>(L,p.2))=r:=⟨_,rfl⟩;have M:=Xh D;rw[D];clear D J h;go_enter Tryz.func138,Tryz.ntmps138;go_wp2_with (first
  |(go_at_call 168;rcases hq0:zB S with _|⟨f,g⟩;(with_reducible refine(E.popN hq0).mono ?_);(rintro e d I;obtain⟨Y,rfl⟩:=I.no';exact And.intro rfl (E.stop Y (M.out.symm.trans (Zd (zaV hq0)))));(with_reducible refine(E.popY hq0).mono ?_);rintro e d I;obtain⟨F,rfl,Z,c,G,H⟩:=I.ok';(have N:=E.next F G H);obtain⟨O,P,R,T,U,V⟩:=N.cells))
 go_end0;exact N.done (M.out.symm.trans (qj (zad hq0)))
theorem Qe6(w0 w:World)(B:Nat)(l:List qa)(base:Nat)(ws:World)(k:Env w0 w B l base ws)(sb:Nat)(qb Zb:Str)(lv sv:Value)(L S:List Str)(h:qh base ws sb B qb Zb lv sv L S)(_hS:ql (Za l) S)(a b:Int)(A cls C:Str)(_hty:A.size<=maxLen)(_hgi:Zb.size<=maxLen):
 Calls Tryz.prog 138 #[.pointer (some ⟨sb,0,none⟩),.agg #[.int .i64 7,.int .i64 a,.int .i64 b,.string A,.string cls,.string C]] ws (Zf base ws sb B qb Zb lv sv (Zm ((zB S).bind fun p=>(QN p.2 p.1).bind fun M=>zr L M p.1))):=by
 have G:SA w0 w B l base ws lv sv sb qb Zb ws.heap.size [.int .i64 7,.int .i64 a,.int .i64 b,.string A,.string cls,.string C] (ws.alloc (.cells #[.int .i64 7,.int .i64 a,.int .i64 b,.string A,.string cls,.string C] 34)) lv sv L S:=SA.new k h _;obtain⟨O,P,R,T,U,V⟩:=G.cells;obtain⟨n,D⟩:∃r,Zm ((zB S).bind fun p=>(QN p.2 p.1).bind fun M=>zr L M p.1)=r:=⟨_,rfl⟩;have N:=Xh D;rw[D];clear D k h;go_enter Tryz.func138,Tryz.ntmps138;go_wp2_with (first
  |(go_at_call 168;rcases hq0:zB S with _|⟨F,M⟩;(with_reducible refine(G.popN hq0).mono ?_);(rintro e y E;obtain⟨J,rfl⟩:=E.no';exact And.intro rfl (G.stop J (N.out.symm.trans (Zd (Zq hq0)))));(with_reducible refine(G.popY hq0).mono ?_);rintro e y E;obtain⟨X,rfl,o,q,Y,Z⟩:=E.ok';(have H:=G.next X Y Z);obtain⟨O,P,R,T,U,V⟩:=H.cells)
  |(go_at_call 166;rcases hq1:QN M F with _|S2;(with_reducible refine(H.putN F hq1).mono ?_);(rintro e z E;obtain⟨J,rfl⟩:=E.no';exact And.intro rfl (H.stop J (N.out.symm.trans (Zd ((Qe hq0).trans (Zq hq1))))));(with_reducible refine(H.putY F hq1).mono ?_);rintro e z E;obtain⟨c,rfl,s,t,d,f⟩:=E.ok';(have I:=H.next c d f);obtain⟨O,P,R,T,U,V⟩:=I.cells)
  |(go_at_call 166;rcases hq2:QN S2 F with _|S3;(with_reducible refine(I.putN F hq2).mono ?_);(rintro e w3 E;obtain⟨J,rfl⟩:=E.no';exact And.intro rfl (I.stop J (N.out.symm.trans (Zd ((Qe hq0).trans ((Qe hq1).trans (Qz hq2)))))));(with_reducible refine(I.putY F hq2).mono ?_);rintro e w3 E;obtain⟨g,rfl,v,x,i,j⟩:=E.ok';(have m:=I.next g i j);obtain⟨O,P,R,T,U,V⟩:=m.cells))
 go_end0;exact m.done (N.out.symm.trans (qj ((Qe hq0).trans ((Qe hq1).trans (Zy hq2)))))
theorem ze7(w0 w:World)(B:Nat)(l:List qa)(base:Nat)(ws:World)(t:Env w0 w B l base ws)(sb:Nat)(qb Zb:Str)(lv sv:Value)(L S:List Str)(h:qh base ws sb B qb Zb lv sv L S)(_hS:ql (Za l) S)(a b:Int)(C cls D:Str)(_hty:C.size<=maxLen)(_hgi:Zb.size<=maxLen):
 Calls Tryz.prog 138 #[.pointer (some ⟨sb,0,none⟩),.agg #[.int .i64 8,.int .i64 a,.int .i64 b,.string C,.string cls,.string D]] ws (Zf base ws sb B qb Zb lv sv (Zm ((zB S).bind fun p=>(zB p.2).bind fun q=>(QN q.2 p.1).bind fun N=>zr L N q.1))):=by
 have G:SA w0 w B l base ws lv sv sb qb Zb ws.heap.size [.int .i64 8,.int .i64 a,.int .i64 b,.string C,.string cls,.string D] (ws.alloc (.cells #[.int .i64 8,.int .i64 a,.int .i64 b,.string C,.string cls,.string D] 34)) lv sv L S:=SA.new t h _;obtain⟨O,P,R,T,U,V⟩:=G.cells;obtain⟨x,E⟩:∃r,Zm ((zB S).bind fun p=>(zB p.2).bind fun q=>(QN q.2 p.1).bind fun N=>zr L N q.1)=r:=⟨_,rfl⟩;have H:=Xh E;rw[E];clear E t h;go_enter Tryz.func138,Tryz.ntmps138;go_wp2_with (first
  |(go_at_call 168;rcases hq0:zB S with _|⟨o,N⟩;(with_reducible refine(G.popN hq0).mono ?_);(rintro e w1 A;obtain⟨F,rfl⟩:=A.no';exact And.intro rfl (G.stop F (H.out.symm.trans (Zd (Zq hq0)))));(with_reducible refine(G.popY hq0).mono ?_);rintro e w1 A;obtain⟨X,rfl,y,z,Y,Z⟩:=A.ok';(have I:=G.next X Y Z);obtain⟨O,P,R,T,U,V⟩:=I.cells)
  |(go_at_call 168;rcases hq1:zB N with _|⟨s,S2⟩;(with_reducible refine(I.popN hq1).mono ?_);(rintro e w2 A;obtain⟨F,rfl⟩:=A.no';exact And.intro rfl (I.stop F (H.out.symm.trans (Zd ((Qe hq0).trans (Zq hq1))))));(with_reducible refine(I.popY hq1).mono ?_);rintro e w2 A;obtain⟨c,rfl,aA,aB,d,f⟩:=A.ok';(have J:=I.next c d f);obtain⟨O,P,R,T,U,V⟩:=J.cells)
  |(go_at_call 166;rcases hq2:QN S2 o with _|S3;(with_reducible refine(J.putN o hq2).mono ?_);(rintro e w3 A;obtain⟨F,rfl⟩:=A.no';exact And.intro rfl (J.stop F (H.out.symm.trans (Zd ((Qe hq0).trans ((Qe hq1).trans (Zq hq2)))))));(with_reducible refine(J.putY o hq2).mono ?_);rintro e w3 A;obtain⟨g,rfl,aC,aD,i,j⟩:=A.ok';(have M:=J.next g i j);obtain⟨O,P,R,T,U,V⟩:=M.cells)
  |(go_at_call 166;rcases hq3:QN S3 s with _|S4;(with_reducible refine(M.putN s hq3).mono ?_);(rintro e w4 A;obtain⟨F,rfl⟩:=A.no';exact And.intro rfl (M.stop F (H.out.symm.trans (Zd ((Qe hq0).trans ((Qe hq1).trans ((Qe hq2).trans (Qz hq3))))))));(with_reducible refine(M.putY s hq3).mono ?_);rintro e w4 A;obtain⟨k,rfl,aE,aF,m,n⟩:=A.ok';(have v:=M.next k m n);obtain⟨O,P,R,T,U,V⟩:=v.cells))
 go_end0;exact v.done (H.out.symm.trans (qj ((Qe hq0).trans ((Qe hq1).trans ((Qe hq2).trans (Zy hq3))))))
theorem QeO(w0 w:World)(B:Nat)(l:List qa)(base:Nat)(ws:World)(X:Env w0 w B l base ws)(sb:Nat)(qb Zb:Str)(lv sv:Value)(L S:List Str)(h:qh base ws sb B qb Zb lv sv L S)(J:ql (Za l) S)(a b:Int)(A cls C:Str)(_hty:A.size<=maxLen)(_hgi:Zb.size<=maxLen):
 Calls Tryz.prog 138 #[.pointer (some ⟨sb,0,none⟩),.agg #[.int .i64 11,.int .i64 a,.int .i64 b,.string A,.string cls,.string C]] ws (Zf base ws sb B qb Zb lv sv (Zm ((Qf (Za l) [kJ,kJ] S).bind fun H=>zr L H kI))):=by
 have I:SA w0 w B l base ws lv sv sb qb Zb ws.heap.size [.int .i64 11,.int .i64 a,.int .i64 b,.string A,.string cls,.string C] (ws.alloc (.cells #[.int .i64 11,.int .i64 a,.int .i64 b,.string A,.string cls,.string C] 34)) lv sv L S:=SA.new X h _;obtain⟨Z,c,d,f,g,i⟩:=I.cells;obtain⟨k,D⟩:∃r,Zm ((Qf (Za l) [kJ,kJ] S).bind fun H=>zr L H kI)=r:=⟨_,rfl⟩;have M:=Xh D;rw[D];unfold kJ kI at *;clear D X h;go_enter Tryz.func138,Tryz.ntmps138;go_wp2_with (first
  |(go_at_call 169;have F:=I.alloc (.cells #[.string ⟨#[74]⟩,.string ⟨#[74]⟩] 9);rcases hq0:Qf (Za l) [⟨#[74]⟩,⟨#[74]⟩] S with _|H;(with_reducible refine(I.takeTN J ⟨#[74]⟩ ⟨#[74]⟩ (Zai _) (Zai _) _ (by simp) hq0).mono ?_);(rintro e q E;obtain⟨N,rfl⟩:=E.no';exact And.intro rfl (F.stop N (M.out.symm.trans (Zd (Zq hq0)))));(with_reducible refine(I.takeTY J ⟨#[74]⟩ ⟨#[74]⟩ (Zai _) (Zai _) _ (by simp) hq0).mono ?_);rintro e q E;obtain⟨O,rfl,m,n,P,R⟩:=E.ok';(have G:=F.next O P R);(have j:=Qh hq0 J);obtain⟨Z,c,d,f,g,i⟩:=G.cells)
  |(go_at_call 166;rcases hq1:QN H ⟨#[73]⟩ with _|t;(with_reducible refine(G.putN ⟨#[73]⟩ hq1).mono ?_);(rintro e s E;obtain⟨N,rfl⟩:=E.no';exact And.intro rfl (G.stop N (M.out.symm.trans (Zd ((Qe hq0).trans (Qz hq1))))));(with_reducible refine(G.putY ⟨#[73]⟩ hq1).mono ?_);rintro e s E;obtain⟨T,rfl,o,p,U,V⟩:=E.ok';(have Y:=G.next T U V);obtain⟨Z,c,d,f,g,i⟩:=Y.cells))
 go_end0;exact Y.done (M.out.symm.trans (qj ((Qe hq0).trans (Zy hq1))))
theorem zeP(w0 w:World)(B:Nat)(l:List qa)(base:Nat)(ws:World)(O:Env w0 w B l base ws)(sb:Nat)(qb Zb:Str)(lv sv:Value)(L S:List Str)(h:qh base ws sb B qb Zb lv sv L S)(H:ql (Za l) S)(a b:Int)(A cls C:Str)(_hty:A.size<=maxLen)(_hgi:Zb.size<=maxLen):
 Calls Tryz.prog 138 #[.pointer (some ⟨sb,0,none⟩),.agg #[.int .i64 12,.int .i64 a,.int .i64 b,.string A,.string cls,.string C]] ws (Zf base ws sb B qb Zb lv sv (Zm ((Qf (Za l) [kI] S).map fun G=>(L,G)))):=by
 have F:SA w0 w B l base ws lv sv sb qb Zb ws.heap.size [.int .i64 12,.int .i64 a,.int .i64 b,.string A,.string cls,.string C] (ws.alloc (.cells #[.int .i64 12,.int .i64 a,.int .i64 b,.string A,.string cls,.string C] 34)) lv sv L S:=SA.new O h _;obtain⟨U,V,X,Y,Z,c⟩:=F.cells;obtain⟨d,D⟩:∃r,Zm ((Qf (Za l) [kI] S).map fun G=>(L,G))=r:=⟨_,rfl⟩;have P:=Xh D;rw[D];unfold kI at *;clear D O h;go_enter Tryz.func138,Tryz.ntmps138;go_wp2_with (first
  |(go_at_call 169;have E:=F.alloc (.cells #[.string ⟨#[73]⟩] 9);rcases hq0:Qf (Za l) [⟨#[73]⟩] S with _|G;(with_reducible refine(F.takeON H ⟨#[73]⟩ (Zai _) _ (by simp) hq0).mono ?_);(rintro e j N;obtain⟨f,rfl⟩:=N.no';exact And.intro rfl (E.stop f (P.out.symm.trans (Zd (zaV hq0)))));(with_reducible refine(F.takeOY H ⟨#[73]⟩ (Zai _) _ (by simp) hq0).mono ?_);rintro e j N;obtain⟨I,rfl,g,i,J,M⟩:=N.ok';(have R:=E.next I J M);(have T:=Qh hq0 H);obtain⟨U,V,X,Y,Z,c⟩:=R.cells))
 go_end0;exact R.done (P.out.symm.trans (qj (zad hq0)))
theorem ZeP(w0 w:World)(B:Nat)(l:List qa)(base:Nat)(ws:World)(J:Env w0 w B l base ws)(sb:Nat)(qb Zb:Str)(lv sv:Value)(L S:List Str)(h:qh base ws sb B qb Zb lv sv L S)(M:ql (Za l) S)(a b:Int)(A cls C:Str)(_hty:A.size<=maxLen)(_hgi:Zb.size<=maxLen):
 Calls Tryz.prog 138 #[.pointer (some ⟨sb,0,none⟩),.agg #[.int .i64 13,.int .i64 a,.int .i64 b,.string A,.string cls,.string C]] ws (Zf base ws sb B qb Zb lv sv (Zm (Qdt L S))):=by
 have E:SA w0 w B l base ws lv sv sb qb Zb ws.heap.size [.int .i64 13,.int .i64 a,.int .i64 b,.string A,.string cls,.string C] (ws.alloc (.cells #[.int .i64 13,.int .i64 a,.int .i64 b,.string A,.string cls,.string C] 34)) lv sv L S:=SA.new J h _;obtain⟨P,R,T,U,V,X⟩:=E.cells;obtain⟨Y,D⟩:∃r,Zm (Qdt L S)=r:=⟨_,rfl⟩;have N:=Xh D;rw[D];clear D J h;go_enter Tryz.func138,Tryz.ntmps138;go_wp2_with (first
  |(go_at_call 171;rcases hq0:ZM S with _|⟨g,i⟩;(with_reducible refine(E.refN M hq0).mono ?_);(rintro e f I;obtain⟨Z,rfl⟩:=I.no';exact And.intro rfl (E.stop Z (N.out.symm.trans (Zd ((qch _ _).trans (zaV hq0))))));(with_reducible refine(E.refY M hq0).mono ?_);rintro e f I;obtain⟨F,rfl,c,d,G,H⟩:=I.ok';(have O:=E.next F G H);obtain⟨P,R,T,U,V,X⟩:=O.cells))
 go_end0;exact O.done (N.out.symm.trans (qj ((qch _ _).trans (zad hq0))))
theorem qeP(w0 w:World)(B:Nat)(l:List qa)(base:Nat)(ws:World)(Y:Env w0 w B l base ws)(sb:Nat)(qb Zb:Str)(lv sv:Value)(L S:List Str)(h:qh base ws sb B qb Zb lv sv L S)(M:ql (Za l) S)(b:Int)(A cls C:Str)(F:A.size<=maxLen)(_hgi:Zb.size<=maxLen):
 Calls Tryz.prog 138 #[.pointer (some ⟨sb,0,none⟩),.agg #[.int .i64 9,.int .i64 12,.int .i64 b,.string A,.string cls,.string C]] ws (Zf base ws sb B qb Zb lv sv (Zm ((Qf (Za l) [A] S).bind fun J=>zr L J A))):=by
 have I:SA w0 w B l base ws lv sv sb qb Zb ws.heap.size [.int .i64 9,.int .i64 12,.int .i64 b,.string A,.string cls,.string C] (ws.alloc (.cells #[.int .i64 9,.int .i64 12,.int .i64 b,.string A,.string cls,.string C] 34)) lv sv L S:=SA.new Y h _;obtain⟨a,c,d,f,g,i⟩:=I.cells;obtain⟨k,D⟩:∃r,Zm ((Qf (Za l) [A] S).bind fun J=>zr L J A)=r:=⟨_,rfl⟩;have N:=Xh D;rw[D];clear D Y h;go_enter Tryz.func138,Tryz.ntmps138;go_wp2_with (first
  |(go_at_call 169;have G:=I.alloc (.cells #[.string A] 9);rcases hq0:Qf (Za l) [A] S with _|t;(with_reducible refine(I.takeON M A F _ (by simp) hq0).mono ?_);(rintro e q E;obtain⟨O,rfl⟩:=E.no';exact And.intro rfl (G.stop O (N.out.symm.trans (Zd (Zq hq0)))));(with_reducible refine(I.takeOY M A F _ (by simp) hq0).mono ?_);rintro e q E;obtain⟨P,rfl,m,n,R,T⟩:=E.ok';(have H:=G.next P R T);(have j:=Qh hq0 M);obtain⟨a,c,d,f,g,i⟩:=H.cells)
  |(go_at_call 166;rcases hq1:QN t A with _|J;(with_reducible refine(H.putN A hq1).mono ?_);(rintro e s E;obtain⟨O,rfl⟩:=E.no';exact And.intro rfl (H.stop O (N.out.symm.trans (Zd ((Qe hq0).trans (Qz hq1))))));(with_reducible refine(H.putY A hq1).mono ?_);rintro e s E;obtain⟨U,rfl,o,p,V,X⟩:=E.ok';(have Z:=H.next U V X);obtain⟨a,c,d,f,g,i⟩:=Z.cells))
 go_end0;exact Z.done (N.out.symm.trans (qj ((Qe hq0).trans (Zy hq1))))
theorem Qep(w0 w:World)(B:Nat)(l:List qa)(base:Nat)(ws:World)(p:Env w0 w B l base ws)(sb:Nat)(qb Zb:Str)(lv sv:Value)(L S:List Str)(h:qh base ws sb B qb Zb lv sv L S)(U:ql (Za l) S)(b:Int)(A cls C:Str)(G:A.size<=maxLen)(_hgi:Zb.size<=maxLen):
 Calls Tryz.prog 138 #[.pointer (some ⟨sb,0,none⟩),.agg #[.int .i64 9,.int .i64 9,.int .i64 b,.string A,.string cls,.string C]] ws (Zf base ws sb B qb Zb lv sv (Zm ((Qf (Za l) [kI] S).bind fun N=>(Qf (Za l) [A] N).bind fun O=>zr L O A))):=by
 have P:SA w0 w B l base ws lv sv sb qb Zb ws.heap.size [.int .i64 9,.int .i64 9,.int .i64 b,.string A,.string cls,.string C] (ws.alloc (.cells #[.int .i64 9,.int .i64 9,.int .i64 b,.string A,.string cls,.string C] 34)) lv sv L S:=SA.new p h _;obtain⟨V,X,Y,Z,a,c⟩:=P.cells;obtain⟨t,D⟩:∃r,Zm ((Qf (Za l) [kI] S).bind fun N=>(Qf (Za l) [A] N).bind fun O=>zr L O A)=r:=⟨_,rfl⟩;have R:=Xh D;rw[D];unfold kI at *;clear D p h;go_enter Tryz.func138,Tryz.ntmps138;go_wp2_with (first
  |(go_at_call 169;have H:=P.alloc (.cells #[.string ⟨#[73]⟩] 9);rcases hq0:Qf (Za l) [⟨#[73]⟩] S with _|N;(with_reducible refine(P.takeON U ⟨#[73]⟩ (Zai _) _ (by simp) hq0).mono ?_);(rintro e w1 E;obtain⟨M,rfl⟩:=E.no';exact And.intro rfl (H.stop M (R.out.symm.trans (Zd (Zq hq0)))));(with_reducible refine(P.takeOY U ⟨#[73]⟩ (Zai _) _ (by simp) hq0).mono ?_);rintro e w1 E;obtain⟨d,rfl,v,x,f,g⟩:=E.ok';(have T:=H.next d f g);(have F:=Qh hq0 U);obtain⟨V,X,Y,Z,a,c⟩:=T.cells)
  |(go_at_call 169;have I:=T.alloc (.cells #[.string A] 9);rcases hq1:Qf (Za l) [A] N with _|O;(with_reducible refine(T.takeON F A G _ (by simp) hq1).mono ?_);(rintro e w2 E;obtain⟨M,rfl⟩:=E.no';exact And.intro rfl (I.stop M (R.out.symm.trans (Zd ((Qe hq0).trans (Zq hq1))))));(with_reducible refine(T.takeOY F A G _ (by simp) hq1).mono ?_);rintro e w2 E;obtain⟨i,rfl,y,z,j,k⟩:=E.ok';(have J:=I.next i j k);(have s:=Qh hq1 F);obtain⟨V,X,Y,Z,a,c⟩:=J.cells)
  |(go_at_call 166;rcases hq2:QN O A with _|S3;(with_reducible refine(J.putN A hq2).mono ?_);(rintro e w3 E;obtain⟨M,rfl⟩:=E.no';exact And.intro rfl (J.stop M (R.out.symm.trans (Zd ((Qe hq0).trans ((Qe hq1).trans (Qz hq2)))))));(with_reducible refine(J.putY A hq2).mono ?_);rintro e w3 E;obtain⟨m,rfl,aA,aB,n,o⟩:=E.ok';(have q:=J.next m n o);obtain⟨V,X,Y,Z,a,c⟩:=q.cells))
 go_end0;exact q.done (R.out.symm.trans (qj ((Qe hq0).trans ((Qe hq1).trans (Zy hq2)))))
theorem zdR(w0 w:World)(B:Nat)(l:List qa)(base:Nat)(ws:World)(p:Env w0 w B l base ws)(sb:Nat)(qb Zb:Str)(lv sv:Value)(L S:List Str)(h:qh base ws sb B qb Zb lv sv L S)(U:ql (Za l) S)(b:Int)(A cls C:Str)(G:A.size<=maxLen)(_hgi:Zb.size<=maxLen):
 Calls Tryz.prog 138 #[.pointer (some ⟨sb,0,none⟩),.agg #[.int .i64 9,.int .i64 10,.int .i64 b,.string A,.string cls,.string C]] ws (Zf base ws sb B qb Zb lv sv (Zm ((Qf (Za l) [kI] S).bind fun N=>(Qf (Za l) [A] N).bind fun O=>zr L O A))):=by
 have P:SA w0 w B l base ws lv sv sb qb Zb ws.heap.size [.int .i64 9,.int .i64 10,.int .i64 b,.string A,.string cls,.string C] (ws.alloc (.cells #[.int .i64 9,.int .i64 10,.int .i64 b,.string A,.string cls,.string C] 34)) lv sv L S:=SA.new p h _;obtain⟨V,X,Y,Z,a,c⟩:=P.cells;obtain⟨t,D⟩:∃r,Zm ((Qf (Za l) [kI] S).bind fun N=>(Qf (Za l) [A] N).bind fun O=>zr L O A)=r:=⟨_,rfl⟩;have R:=Xh D;rw[D];unfold kI at *;clear D p h;go_enter Tryz.func138,Tryz.ntmps138;go_wp2_with (first
  |(go_at_call 169;have H:=P.alloc (.cells #[.string ⟨#[73]⟩] 9);rcases hq0:Qf (Za l) [⟨#[73]⟩] S with _|N;(with_reducible refine(P.takeON U ⟨#[73]⟩ (Zai _) _ (by simp) hq0).mono ?_);(rintro e w1 E;obtain⟨M,rfl⟩:=E.no';exact And.intro rfl (H.stop M (R.out.symm.trans (Zd (Zq hq0)))));(with_reducible refine(P.takeOY U ⟨#[73]⟩ (Zai _) _ (by simp) hq0).mono ?_);rintro e w1 E;obtain⟨d,rfl,v,x,f,g⟩:=E.ok';(have T:=H.next d f g);(have F:=Qh hq0 U);obtain⟨V,X,Y,Z,a,c⟩:=T.cells)
  |(go_at_call 169;have I:=T.alloc (.cells #[.string A] 9);rcases hq1:Qf (Za l) [A] N with _|O;(with_reducible refine(T.takeON F A G _ (by simp) hq1).mono ?_);(rintro e w2 E;obtain⟨M,rfl⟩:=E.no';exact And.intro rfl (I.stop M (R.out.symm.trans (Zd ((Qe hq0).trans (Zq hq1))))));(with_reducible refine(T.takeOY F A G _ (by simp) hq1).mono ?_);rintro e w2 E;obtain⟨i,rfl,y,z,j,k⟩:=E.ok';(have J:=I.next i j k);(have s:=Qh hq1 F);obtain⟨V,X,Y,Z,a,c⟩:=J.cells)
  |(go_at_call 166;rcases hq2:QN O A with _|S3;(with_reducible refine(J.putN A hq2).mono ?_);(rintro e w3 E;obtain⟨M,rfl⟩:=E.no';exact And.intro rfl (J.stop M (R.out.symm.trans (Zd ((Qe hq0).trans ((Qe hq1).trans (Qz hq2)))))));(with_reducible refine(J.putY A hq2).mono ?_);rintro e w3 E;obtain⟨m,rfl,aA,aB,n,o⟩:=E.ok';(have q:=J.next m n o);obtain⟨V,X,Y,Z,a,c⟩:=q.cells))
 go_end0;exact q.done (R.out.symm.trans (qj ((Qe hq0).trans ((Qe hq1).trans (Zy hq2)))))
theorem ZdR(w0 w:World)(B:Nat)(l:List qa)(base:Nat)(ws:World)(p:Env w0 w B l base ws)(sb:Nat)(qb Zb:Str)(lv sv:Value)(L S:List Str)(h:qh base ws sb B qb Zb lv sv L S)(U:ql (Za l) S)(b:Int)(A cls C:Str)(G:A.size<=maxLen)(_hgi:Zb.size<=maxLen):
 Calls Tryz.prog 138 #[.pointer (some ⟨sb,0,none⟩),.agg #[.int .i64 9,.int .i64 11,.int .i64 b,.string A,.string cls,.string C]] ws (Zf base ws sb B qb Zb lv sv (Zm ((Qf (Za l) [kI] S).bind fun N=>(Qf (Za l) [A] N).bind fun O=>zr L O A))):=by
 have P:SA w0 w B l base ws lv sv sb qb Zb ws.heap.size [.int .i64 9,.int .i64 11,.int .i64 b,.string A,.string cls,.string C] (ws.alloc (.cells #[.int .i64 9,.int .i64 11,.int .i64 b,.string A,.string cls,.string C] 34)) lv sv L S:=SA.new p h _;obtain⟨V,X,Y,Z,a,c⟩:=P.cells;obtain⟨t,D⟩:∃r,Zm ((Qf (Za l) [kI] S).bind fun N=>(Qf (Za l) [A] N).bind fun O=>zr L O A)=r:=⟨_,rfl⟩;have R:=Xh D;rw[D];unfold kI at *;clear D p h;go_enter Tryz.func138,Tryz.ntmps138;go_wp2_with (first
  |(go_at_call 169;have H:=P.alloc (.cells #[.string ⟨#[73]⟩] 9);rcases hq0:Qf (Za l) [⟨#[73]⟩] S with _|N;(with_reducible refine(P.takeON U ⟨#[73]⟩ (Zai _) _ (by simp) hq0).mono ?_);(rintro e w1 E;obtain⟨M,rfl⟩:=E.no';exact And.intro rfl (H.stop M (R.out.symm.trans (Zd (Zq hq0)))));(with_reducible refine(P.takeOY U ⟨#[73]⟩ (Zai _) _ (by simp) hq0).mono ?_);rintro e w1 E;obtain⟨d,rfl,v,x,f,g⟩:=E.ok';(have T:=H.next d f g);(have F:=Qh hq0 U);obtain⟨V,X,Y,Z,a,c⟩:=T.cells)
  |(go_at_call 169;have I:=T.alloc (.cells #[.string A] 9);rcases hq1:Qf (Za l) [A] N with _|O;(with_reducible refine(T.takeON F A G _ (by simp) hq1).mono ?_);(rintro e w2 E;obtain⟨M,rfl⟩:=E.no';exact And.intro rfl (I.stop M (R.out.symm.trans (Zd ((Qe hq0).trans (Zq hq1))))));(with_reducible refine(T.takeOY F A G _ (by simp) hq1).mono ?_);rintro e w2 E;obtain⟨i,rfl,y,z,j,k⟩:=E.ok';(have J:=I.next i j k);(have s:=Qh hq1 F);obtain⟨V,X,Y,Z,a,c⟩:=J.cells)
  |(go_at_call 166;rcases hq2:QN O A with _|S3;(with_reducible refine(J.putN A hq2).mono ?_);(rintro e w3 E;obtain⟨M,rfl⟩:=E.no';exact And.intro rfl (J.stop M (R.out.symm.trans (Zd ((Qe hq0).trans ((Qe hq1).trans (Qz hq2)))))));(with_reducible refine(J.putY A hq2).mono ?_);rintro e w3 E;obtain⟨m,rfl,aA,aB,n,o⟩:=E.ok';(have q:=J.next m n o);obtain⟨V,X,Y,Z,a,c⟩:=q.cells))
 go_end0;exact q.done (R.out.symm.trans (qj ((Qe hq0).trans ((Qe hq1).trans (Zy hq2)))))
theorem QeP(w0 w:World)(B:Nat)(l:List qa)(base:Nat)(ws:World)(q:Env w0 w B l base ws)(sb:Nat)(qb Zb:Str)(lv sv:Value)(L S:List Str)(h:qh base ws sb B qb Zb lv sv L S)(U:ql (Za l) S)(a b:Int)(A cls C:Str)(F:A.size<=maxLen)(_hgi:Zb.size<=maxLen)(t:(a==12)=false)(h9:(a==9)=false)(v:(a==10)=false)(x:(a==11)=false):
 Calls Tryz.prog 138 #[.pointer (some ⟨sb,0,none⟩),.agg #[.int .i64 9,.int .i64 a,.int .i64 b,.string A,.string cls,.string C]] ws (Zf base ws sb B qb Zb lv sv (Zm ((Qf (Za l) [A] S).bind fun N=>(Qf (Za l) [A] N).bind fun O=>zr L O A))):=by
 have P:SA w0 w B l base ws lv sv sb qb Zb ws.heap.size [.int .i64 9,.int .i64 a,.int .i64 b,.string A,.string cls,.string C] (ws.alloc (.cells #[.int .i64 9,.int .i64 a,.int .i64 b,.string A,.string cls,.string C] 34)) lv sv L S:=SA.new q h _;obtain⟨V,X,Y,Z,c,d⟩:=P.cells;obtain⟨z,D⟩:∃r,Zm ((Qf (Za l) [A] S).bind fun N=>(Qf (Za l) [A] N).bind fun O=>zr L O A)=r:=⟨_,rfl⟩;have R:=Xh D;rw[D];clear D q h;go_enter Tryz.func138,Tryz.ntmps138;go_wp2_with (first
  |(go_at_call 169;have H:=P.alloc (.cells #[.string A] 9);rcases hq0:Qf (Za l) [A] S with _|N;(with_reducible refine(P.takeON U A F _ (by simp) hq0).mono ?_);(rintro e w1 E;obtain⟨M,rfl⟩:=E.no';exact And.intro rfl (H.stop M (R.out.symm.trans (Zd (Zq hq0)))));(with_reducible refine(P.takeOY U A F _ (by simp) hq0).mono ?_);rintro e w1 E;obtain⟨f,rfl,aA,aB,g,i⟩:=E.ok';(have T:=H.next f g i);(have G:=Qh hq0 U);obtain⟨V,X,Y,Z,c,d⟩:=T.cells)
  |(go_at_call 169;have I:=T.alloc (.cells #[.string A] 9);rcases hq1:Qf (Za l) [A] N with _|O;(with_reducible refine(T.takeON G A F _ (by simp) hq1).mono ?_);(rintro e w2 E;obtain⟨M,rfl⟩:=E.no';exact And.intro rfl (I.stop M (R.out.symm.trans (Zd ((Qe hq0).trans (Zq hq1))))));(with_reducible refine(T.takeOY G A F _ (by simp) hq1).mono ?_);rintro e w2 E;obtain⟨j,rfl,aC,aD,k,m⟩:=E.ok';(have J:=I.next j k m);(have y:=Qh hq1 G);obtain⟨V,X,Y,Z,c,d⟩:=J.cells)
  |(go_at_call 166;rcases hq2:QN O A with _|S3;(with_reducible refine(J.putN A hq2).mono ?_);(rintro e w3 E;obtain⟨M,rfl⟩:=E.no';exact And.intro rfl (J.stop M (R.out.symm.trans (Zd ((Qe hq0).trans ((Qe hq1).trans (Qz hq2)))))));(with_reducible refine(J.putY A hq2).mono ?_);rintro e w3 E;obtain⟨n,rfl,aE,aF,o,p⟩:=E.ok';(have s:=J.next n o p);obtain⟨V,X,Y,Z,c,d⟩:=s.cells))
 go_end0;exact s.done (R.out.symm.trans (qj ((Qe hq0).trans ((Qe hq1).trans (Zy hq2)))))
set_option maxRecDepth 512
theorem zeq(t:Str)(w:World):Calls Tryz.prog 170 #[.string t] w fun e w'=>e=.returned (.string (Zat t))/\w=w':=by
 unfold Zat;cases A:(t.toList==[73]) with
 |true =>
  rw[if_pos rfl];go_enter Tryz.func170,Tryz.ntmps170;go_wp2
  go_ret;exact⟨rfl,rfl⟩
 |false =>
  rw[if_neg (by decide)];go_enter Tryz.func170,Tryz.ntmps170;go_wp2
  go_ret;exact⟨rfl,rfl⟩
theorem Zdu(t:Str):(Zat t).size<=maxLen:=by
 unfold Zat;split<;>exact Zai _
set_option maxRecDepth 100000
theorem zeQ(w0 w:World)(B:Nat)(l:List qa)(base:Nat)(ws:World)(X:Env w0 w B l base ws)(sb:Nat)(qb Zb:Str)(lv sv:Value)(L S:List Str)(h:qh base ws sb B qb Zb lv sv L S)(J:ql (Za l) S)(a b:Int)(A cls C:Str)(_hty:A.size<=maxLen)(_hgi:Zb.size<=maxLen):
 Calls Tryz.prog 138 #[.pointer (some ⟨sb,0,none⟩),.agg #[.int .i64 10,.int .i64 a,.int .i64 b,.string A,.string cls,.string C]] ws (Zf base ws sb B qb Zb lv sv (Zm ((Qf (Za l) [Zat A] S).bind fun H=>zr L H A))):=by
 have I:SA w0 w B l base ws lv sv sb qb Zb ws.heap.size [.int .i64 10,.int .i64 a,.int .i64 b,.string A,.string cls,.string C] (ws.alloc (.cells #[.int .i64 10,.int .i64 a,.int .i64 b,.string A,.string cls,.string C] 34)) lv sv L S:=SA.new X h _;obtain⟨Z,c,d,f,g,i⟩:=I.cells;obtain⟨m,D⟩:∃r,Zm ((Qf (Za l) [Zat A] S).bind fun H=>zr L H A)=r:=⟨_,rfl⟩;have M:=Xh D;rw[D];have j:Hid (∀wx,_):=fun wx=>zeq A wx
 clear D X h;go_enter Tryz.func138,Tryz.ntmps138;go_wp2_with (first
  |(go_at_call 169;have F:=I.alloc (.cells #[.string (Zat A)] 9);rcases hq0:Qf (Za l) [(Zat A)] S with _|H;(with_reducible refine(I.takeON J (Zat A) (Zdu _) _ (by simp) hq0).mono ?_);(rintro e s E;obtain⟨N,rfl⟩:=E.no';exact And.intro rfl (F.stop N (M.out.symm.trans (Zd (Zq hq0)))));(with_reducible refine(I.takeOY J (Zat A) (Zdu _) _ (by simp) hq0).mono ?_);rintro e s E;obtain⟨O,rfl,n,o,P,R⟩:=E.ok';(have G:=F.next O P R);(have k:=Qh hq0 J);obtain⟨Z,c,d,f,g,i⟩:=G.cells)
  |(go_at_call 166;rcases hq1:QN H A with _|x;(with_reducible refine(G.putN A hq1).mono ?_);(rintro e t E;obtain⟨N,rfl⟩:=E.no';exact And.intro rfl (G.stop N (M.out.symm.trans (Zd ((Qe hq0).trans (Qz hq1))))));(with_reducible refine(G.putY A hq1).mono ?_);rintro e t E;obtain⟨T,rfl,p,q,U,V⟩:=E.ok';(have Y:=G.next T U V);obtain⟨Z,c,d,f,g,i⟩:=Y.cells)
  |(go_fit (j.out _);rintro e v⟨rfl,rfl⟩))
 go_end0;exact Y.done (M.out.symm.trans (qj ((Qe hq0).trans (Zy hq1))))
theorem Zeq(w0 w:World)(B:Nat)(l:List qa)(base:Nat)(ws:World)(F:Env w0 w B l base ws)(sb:Nat)(qb Zb:Str)(lv sv:Value)(L S:List Str)(h:qh base ws sb B qb Zb lv sv L S)(_hS:ql (Za l) S)(a b:Int)(A cls C:Str)(_hty:A.size<=maxLen)(_hgi:Zb.size<=maxLen)(M:(Zb.toList==[86])=true):
 Calls Tryz.prog 138 #[.pointer (some ⟨sb,0,none⟩),.agg #[.int .i64 26,.int .i64 a,.int .i64 b,.string A,.string cls,.string C]] ws (Zf base ws sb B qb Zb lv sv (Zm (some (L,S)))):=by
 have E:SA w0 w B l base ws lv sv sb qb Zb ws.heap.size [.int .i64 26,.int .i64 a,.int .i64 b,.string A,.string cls,.string C] (ws.alloc (.cells #[.int .i64 26,.int .i64 a,.int .i64 b,.string A,.string cls,.string C] 34)) lv sv L S:=SA.new F h _;obtain⟨N,O,P,R,T,U⟩:=E.cells;obtain⟨J,D⟩:∃r,Zm (some (L,S))=r:=⟨_,rfl⟩;have H:=Xh D;rw[D];have I:Hid (∀wx,_):=fun wx=>qG wx
 have G:=E.step.blk.cell 2;replace G:(ws.alloc (.cells #[.int .i64 26,.int .i64 a,.int .i64 b,.string A,.string cls,.string C] 34)).cell? ⟨sb,2,none⟩=some (.string Zb):=G;clear D F h;go_enter Tryz.func138,Tryz.ntmps138;go_wp2_with (first
  |(go_fit (I.out _);rintro e V⟨rfl,rfl⟩))
 go_end0;exact E.done (H.out.symm.trans (qj (rfl)))
theorem qeq(w0 w:World)(B:Nat)(l:List qa)(base:Nat)(ws:World)(F:Env w0 w B l base ws)(sb:Nat)(qb Zb:Str)(lv sv:Value)(L S:List Str)(h:qh base ws sb B qb Zb lv sv L S)(_hS:ql (Za l) S)(a b:Int)(A cls C:Str)(_hty:A.size<=maxLen)(_hgi:Zb.size<=maxLen)(M:(Zb.toList==[86])=false):
 Calls Tryz.prog 138 #[.pointer (some ⟨sb,0,none⟩),.agg #[.int .i64 26,.int .i64 a,.int .i64 b,.string A,.string cls,.string C]] ws (Zf base ws sb B qb Zb lv sv (Zm (none))):=by
 have E:SA w0 w B l base ws lv sv sb qb Zb ws.heap.size [.int .i64 26,.int .i64 a,.int .i64 b,.string A,.string cls,.string C] (ws.alloc (.cells #[.int .i64 26,.int .i64 a,.int .i64 b,.string A,.string cls,.string C] 34)) lv sv L S:=SA.new F h _;obtain⟨N,O,P,R,T,U⟩:=E.cells;obtain⟨J,D⟩:∃r,Zm (none)=r:=⟨_,rfl⟩;have H:=Xh D;rw[D];have I:Hid (∀wx,_):=fun wx=>zx wx
 have G:=E.step.blk.cell 2;replace G:(ws.alloc (.cells #[.int .i64 26,.int .i64 a,.int .i64 b,.string A,.string cls,.string C] 34)).cell? ⟨sb,2,none⟩=some (.string Zb):=G;clear D F h;go_enter Tryz.func138,Tryz.ntmps138;go_wp2_with (first
  |(go_fit (I.out _);rintro e V⟨rfl,rfl⟩))
 exact And.intro rfl (E.stop Xb H.out.symm)
theorem Qeq(w0 w:World)(B:Nat)(l:List qa)(base:Nat)(ws:World)(F:Env w0 w B l base ws)(sb:Nat)(qb Zb:Str)(lv sv:Value)(L S:List Str)(h:qh base ws sb B qb Zb lv sv L S)(_hS:ql (Za l) S)(a b:Int)(A cls C:Str)(_hty:A.size<=maxLen)(_hgi:Zb.size<=maxLen)(M:(Zb.toList==[86])=true):
 Calls Tryz.prog 138 #[.pointer (some ⟨sb,0,none⟩),.agg #[.int .i64 27,.int .i64 a,.int .i64 b,.string A,.string cls,.string C]] ws (Zf base ws sb B qb Zb lv sv (Zm (none))):=by
 have E:SA w0 w B l base ws lv sv sb qb Zb ws.heap.size [.int .i64 27,.int .i64 a,.int .i64 b,.string A,.string cls,.string C] (ws.alloc (.cells #[.int .i64 27,.int .i64 a,.int .i64 b,.string A,.string cls,.string C] 34)) lv sv L S:=SA.new F h _;obtain⟨N,O,P,R,T,U⟩:=E.cells;obtain⟨J,D⟩:∃r,Zm (none)=r:=⟨_,rfl⟩;have H:=Xh D;rw[D];have I:Hid (∀wx,_):=fun wx=>zx wx
 have G:=E.step.blk.cell 2;replace G:(ws.alloc (.cells #[.int .i64 27,.int .i64 a,.int .i64 b,.string A,.string cls,.string C] 34)).cell? ⟨sb,2,none⟩=some (.string Zb):=G;clear D F h;go_enter Tryz.func138,Tryz.ntmps138;go_wp2_with (first
  |(go_fit (I.out _);rintro e V⟨rfl,rfl⟩))
 exact And.intro rfl (E.stop Xb H.out.symm)
theorem zer(w0 w:World)(B:Nat)(l:List qa)(base:Nat)(ws:World)(P:Env w0 w B l base ws)(sb:Nat)(qb Zb:Str)(lv sv:Value)(L S:List Str)(h:qh base ws sb B qb Zb lv sv L S)(I:ql (Za l) S)(a b:Int)(A cls C:Str)(_hty:A.size<=maxLen)(E:Zb.size<=maxLen)(o:(Zb.toList==[86])=false):
 Calls Tryz.prog 138 #[.pointer (some ⟨sb,0,none⟩),.agg #[.int .i64 27,.int .i64 a,.int .i64 b,.string A,.string cls,.string C]] ws (Zf base ws sb B qb Zb lv sv (Zm ((Qf (Za l) [Zb] S).map fun H=>(L,H)))):=by
 have F:SA w0 w B l base ws lv sv sb qb Zb ws.heap.size [.int .i64 27,.int .i64 a,.int .i64 b,.string A,.string cls,.string C] (ws.alloc (.cells #[.int .i64 27,.int .i64 a,.int .i64 b,.string A,.string cls,.string C] 34)) lv sv L S:=SA.new P h _;obtain⟨Y,Z,c,d,f,g⟩:=F.cells;obtain⟨i,D⟩:∃r,Zm ((Qf (Za l) [Zb] S).map fun H=>(L,H))=r:=⟨_,rfl⟩;have R:=Xh D;rw[D];have V:Hid (∀wx,_):=fun wx=>qG wx
 have T:=F.step.blk.cell 2;replace T:(ws.alloc (.cells #[.int .i64 27,.int .i64 a,.int .i64 b,.string A,.string cls,.string C] 34)).cell? ⟨sb,2,none⟩=some (.string Zb):=T;clear D P h;go_enter Tryz.func138,Tryz.ntmps138;go_wp2_with (first
  |(go_at_call 169;have G:=F.alloc (.cells #[.string Zb] 9);rcases hq0:Qf (Za l) [Zb] S with _|H;(with_reducible refine(F.takeON I Zb E _ (by simp) hq0).mono ?_);(rintro e n O;obtain⟨j,rfl⟩:=O.no';exact And.intro rfl (G.stop j (R.out.symm.trans (Zd (zaV hq0)))));(with_reducible refine(F.takeOY I Zb E _ (by simp) hq0).mono ?_);rintro e n O;obtain⟨J,rfl,k,m,M,N⟩:=O.ok';(have U:=G.next J M N);(have X:=Qh hq0 I);obtain⟨Y,Z,c,d,f,g⟩:=U.cells)
  |(go_fit (V.out _);rintro e p⟨rfl,rfl⟩))
 go_end0;exact U.done (R.out.symm.trans (qj (zad hq0)))
theorem ZeQ(w0 w:World)(B:Nat)(l:List qa)(base:Nat)(ws:World)(P:Env w0 w B l base ws)(sb:Nat)(qb Zb:Str)(lv sv:Value)(L S:List Str)(h:qh base ws sb B qb Zb lv sv L S)(I:ql (Za l) S)(a b:Int)(A cls C:Str)(_hty:A.size<=maxLen)(_hgi:Zb.size<=maxLen):
 Calls Tryz.prog 138 #[.pointer (some ⟨sb,0,none⟩),.agg #[.int .i64 28,.int .i64 a,.int .i64 b,.string A,.string cls,.string C]] ws (Zf base ws sb B qb Zb lv sv (Zm ((Qf (Za l) [Qc Zal] S).map fun H=>(L,H)))):=by
 have G:SA w0 w B l base ws lv sv sb qb Zb ws.heap.size [.int .i64 28,.int .i64 a,.int .i64 b,.string A,.string cls,.string C] (ws.alloc (.cells #[.int .i64 28,.int .i64 a,.int .i64 b,.string A,.string cls,.string C] 34)) lv sv L S:=SA.new P h _;obtain⟨V,X,Y,Z,c,d⟩:=G.cells;obtain⟨f,D⟩:∃r,Zm ((Qf (Za l) [Qc Zal] S).map fun H=>(L,H))=r:=⟨_,rfl⟩;have R:=Xh D;rw[D];have E:Hid (∀wx,_):=fun wx=>zW Zal wx (by decide)
 unfold Zal at E;change Hid (∀wx,Calls Tryz.prog 79 #[.string ⟨#[70,97,117,108,116]⟩] wx fun e w'=>e=.returned (.string (Qc Zal))/\wx=w')at E;clear D P h;go_enter Tryz.func138,Tryz.ntmps138;go_wp2_with (first
  |(go_at_call 169;have F:=G.alloc (.cells #[.string (Qc Zal)] 9);rcases hq0:Qf (Za l) [(Qc Zal)] S with _|H;(with_reducible refine(G.takeON I (Qc Zal) zdu _ (by simp) hq0).mono ?_);(rintro e k O;obtain⟨g,rfl⟩:=O.no';exact And.intro rfl (F.stop g (R.out.symm.trans (Zd (zaV hq0)))));(with_reducible refine(G.takeOY I (Qc Zal) zdu _ (by simp) hq0).mono ?_);rintro e k O;obtain⟨J,rfl,i,j,M,N⟩:=O.ok';(have T:=F.next J M N);(have U:=Qh hq0 I);obtain⟨V,X,Y,Z,c,d⟩:=T.cells)
  |(go_fit (E.out _);rintro e m⟨rfl,rfl⟩))
 go_end0;exact T.done (R.out.symm.trans (qj (zad hq0)))
theorem qdu(w0 w:World)(B:Nat)(l:List qa)(base:Nat)(ws:World)(F:Env w0 w B l base ws)(sb:Nat)(qb Zb:Str)(lv sv:Value)(L S:List Str)(h:qh base ws sb B qb Zb lv sv L S)(_hS:ql (Za l) S)(A a b:Int)(C cls D:Str)(_hty:C.size<=maxLen)(_hgi:Zb.size<=maxLen)(U:(A==2)=false)(V:(A==3)=false)(X:(A==4)=false)(Y:(A==5)=false)(Z:(A==6)=false)(c:(A==7)=false)(d:(A==8)=false)(e:(A==9)=false)(H:(A==10)=false)(I:(A==11)=false)(J:(A==12)=false)(M:(A==13)=false)(N:(A==26)=false)(O:(A==27)=false)(P:(A==28)=false):
 Calls Tryz.prog 138 #[.pointer (some ⟨sb,0,none⟩),.agg #[.int .i64 A,.int .i64 a,.int .i64 b,.string C,.string cls,.string D]] ws (Zf base ws sb B qb Zb lv sv (Zm (some (L,S)))):=by
 have G:SA w0 w B l base ws lv sv sb qb Zb ws.heap.size [.int .i64 A,.int .i64 a,.int .i64 b,.string C,.string cls,.string D] (ws.alloc (.cells #[.int .i64 A,.int .i64 a,.int .i64 b,.string C,.string cls,.string D] 34)) lv sv L S:=SA.new F h _;obtain⟨f,g,i,j,k,m⟩:=G.cells;obtain⟨T,E⟩:∃r,Zm (some (L,S))=r:=⟨_,rfl⟩;have R:=Xh E;rw[E];clear E F h;go_enter Tryz.func138,Tryz.ntmps138;go_wp2_with fail;go_end0;exact G.done (R.out.symm.trans (qj (rfl)))
set_option maxRecDepth 512
theorem SA.local{w0 w:World}{B:Nat}{l:List qa}{base:Nat}{ws:World}{lv0 sv0:Value}{sb:Nat}{qb Zb:Str}{xb:Nat}{xv:List Value}{wx:World}{lv sv:Value}{L S:List Str}(T:SA w0 w B l base ws lv0 sv0 sb qb Zb xb xv wx lv sv L S){i:Nat}{k:Str}(D:L[i]? = some k):
 ∃g cap,lv=.slice (some ⟨g,0,none⟩) L.length cap/\wx.cell? ⟨g,i,none⟩=some (.string k)/\wx.frozen? ⟨g,i,none⟩=false:=by
 have C:=T.step.locals;obtain⟨F,_⟩:=List.getElem?_eq_some_iff.1 D;rcases C.2 with⟨_,G⟩|⟨g,cap,E,A,H,I,J,M,N⟩
 ·omega
 ·refine⟨g,cap,A,?_,?_⟩
  ·subst A;rw[World.ownsRow.cellAt C i (by omega)];simp[D]
  ·subst A;exact World.ownsRow.frozenAt C i
set_option maxRecDepth 100000
theorem qeQ(w0 w:World)(B:Nat)(l:List qa)(base:Nat)(ws:World)(J:Env w0 w B l base ws)(sb:Nat)(qb Zb:Str)(lv sv:Value)(L S:List Str)(h:qh base ws sb B qb Zb lv sv L S)(n:Nat)(b:Int)(A cls C:Str)(M:L[n]? = none):
 Calls Tryz.prog 138 #[.pointer (some ⟨sb,0,none⟩),.agg #[.int .i64 4,.int .i64 n,.int .i64 b,.string A,.string cls,.string C]] ws (Zf base ws sb B qb Zb lv sv (none)):=by
 have E:SA w0 w B l base ws lv sv sb qb Zb ws.heap.size [.int .i64 4,.int .i64 n,.int .i64 b,.string A,.string cls,.string C] (ws.alloc (.cells #[.int .i64 4,.int .i64 n,.int .i64 b,.string A,.string cls,.string C] 34)) lv sv L S:=SA.new J h _;obtain⟨T,O,U,V,X,Y⟩:=E.cells;have N:Hid (∀wx,_):=fun wx=>zx wx
 have F:(ws.alloc (.cells #[.int .i64 4,.int .i64 n,.int .i64 b,.string A,.string cls,.string C] 34)).cell? ⟨sb,3,none⟩=some lv:=E.step.blk.cell 3;have G:=Xh E;have H:Hid (decide (n<L.length)=false):=Xh (by
  have:=List.getElem?_eq_none_iff.1 M;simp;omega)
 obtain⟨p,c,I⟩:=Qd h.locals;subst I;clear M h J E;go_enter Tryz.func138,Tryz.ntmps138;go_upto_region 7 with fail;generalize ws.alloc (.cells #[.int .i64 4,.int .i64 n,.int .i64 b,.string A,.string cls,.string C] 34)=d at *;refine wp_region_held_drew (S:=fun w'=>w'.cell? ⟨ws.heap.size,1,none⟩=some (.int .i64 n)/\w'.cell? ⟨sb,3,none⟩=some (.slice p L.length c)) (by kernel_rfl) ⟨O,F⟩ (fun hHeld=>?_);change wpAnyH _ _ _ _ _ 22 _ _ _;iterate 9 ((first|(refine tkN rfl rfl hHeld ?_)|(refine tkY (v:=?_) rfl rfl hHeld ?_ ?_;rotate_left;focus (intro w D;(obtain⟨P,R⟩:=D);go_simp;all_goals with_reducible rfl)));try simp only[Act.put,Xa,Xc,Xd])
 rw[H.out];change wpAnyH _ _ _ _ _ 13 _ _ _;iterate 12 ((first|(refine tkN rfl rfl hHeld ?_)|(refine tkY (v:=?_) rfl rfl hHeld ?_ ?_;rotate_left;focus (intro w D;(obtain⟨P,R⟩:=D);go_simp;all_goals with_reducible rfl)));try simp only[Act.put,Xa,Xc,Xd])
 refine wpAnyH_ready (rs:=[21]) (fuel:=0) (by kernel_rfl) (by simp) ?_;refine AllReadyH.cons (i:=21) rfl (fun K a=>?_) AllReadyH.nil;go_simp;refine(N.out _).mono ?_;rintro e Z⟨rfl,rfl⟩;exact And.intro rfl (G.out.stop Xb.drew rfl)
theorem QeQ(w0 w:World)(B:Nat)(l:List qa)(base:Nat)(ws:World)(N:Env w0 w B l base ws)(sb:Nat)(qb Zb:Str)(lv sv:Value)(L S:List Str)(h:qh base ws sb B qb Zb lv sv L S)(n:Nat)(b:Int)(A cls C:Str)(k:Str)(F:L[n]? = some k)(O:(k.toList==[84])=true):
 Calls Tryz.prog 138 #[.pointer (some ⟨sb,0,none⟩),.agg #[.int .i64 4,.int .i64 n,.int .i64 b,.string A,.string cls,.string C]] ws (Zf base ws sb B qb Zb lv sv (none)):=by
 have E:SA w0 w B l base ws lv sv sb qb Zb ws.heap.size [.int .i64 4,.int .i64 n,.int .i64 b,.string A,.string cls,.string C] (ws.alloc (.cells #[.int .i64 4,.int .i64 n,.int .i64 b,.string A,.string cls,.string C] 34)) lv sv L S:=SA.new N h _;obtain⟨V,T,X,Y,Z,a⟩:=E.cells;have P:Hid (∀wx,_):=fun wx=>zx wx
 have G:(ws.alloc (.cells #[.int .i64 4,.int .i64 n,.int .i64 b,.string A,.string cls,.string C] 34)).cell? ⟨sb,3,none⟩=some lv:=E.step.blk.cell 3;have H:=Xh E;obtain⟨g,cap,I,D,J⟩:=E.local F;have R:n<L.length:=by
  obtain⟨U,_⟩:=List.getElem?_eq_some_iff.1 F;exact U
 subst I;clear F h N E J;go_enter Tryz.func138,Tryz.ntmps138;go_upto_region 7 with fail;generalize ws.alloc (.cells #[.int .i64 4,.int .i64 n,.int .i64 b,.string A,.string cls,.string C] 34)=o at *;refine wp_region_held_drew (S:=fun w'=>w'.cell? ⟨ws.heap.size,1,none⟩=some (.int .i64 n)/\w'.cell? ⟨sb,3,none⟩=some (.slice (some ⟨g,0,none⟩) L.length cap)/\w'.cell? ⟨g,n,none⟩=some (.string k)) (by kernel_rfl) ⟨T,G,D⟩ (fun hHeld=>?_);change wpAnyH _ _ _ _ _ 22 _ _ _;iterate 21 ((first|(refine tkN rfl rfl hHeld ?_)|(refine tkY (v:=?_) rfl rfl hHeld ?_ ?_;rotate_left;focus (intro w M;(obtain⟨c,d,f⟩:=M);go_simp;all_goals with_reducible rfl)));try simp only[Act.put,Xa,Xc,Xd])
 refine wpAnyH_ready (rs:=[21]) (fuel:=0) (by kernel_rfl) (by simp) ?_;refine AllReadyH.cons (i:=21) rfl (fun K m=>?_) AllReadyH.nil;go_simp;refine(P.out _).mono ?_;rintro e j⟨rfl,rfl⟩;exact And.intro rfl (H.out.stop Xb.drew rfl)
theorem zeR(w0 w:World)(B:Nat)(l:List qa)(base:Nat)(ws:World)(c:Env w0 w B l base ws)(sb:Nat)(qb Zb:Str)(lv sv:Value)(L S:List Str)(h:qh base ws sb B qb Zb lv sv L S)(n:Nat)(b:Int)(C cls D:Str)(k:Str)(T:L[n]? = some k)(m:(k.toList==[84])=false):
 Calls Tryz.prog 138 #[.pointer (some ⟨sb,0,none⟩),.agg #[.int .i64 4,.int .i64 n,.int .i64 b,.string C,.string cls,.string D]] ws (Zf base ws sb B qb Zb lv sv (Zm (zr L S k))):=by
 have I:SA w0 w B l base ws lv sv sb qb Zb ws.heap.size [.int .i64 4,.int .i64 n,.int .i64 b,.string C,.string cls,.string D] (ws.alloc (.cells #[.int .i64 4,.int .i64 n,.int .i64 b,.string C,.string cls,.string D] 34)) lv sv L S:=SA.new c h _;obtain⟨i0,M,i2,i3,i4,i5⟩:=I.cells;have o:Hid (∀wx,_):=fun wx=>qG wx
 have E:(ws.alloc (.cells #[.int .i64 4,.int .i64 n,.int .i64 b,.string C,.string cls,.string D] 34)).cell? ⟨sb,3,none⟩=some lv:=I.step.blk.cell 3;have J:=Xh I;obtain⟨g,cap,V,A,X⟩:=I.local T;have p:n<L.length:=by
  obtain⟨q,_⟩:=List.getElem?_eq_some_iff.1 T;exact q
 subst V;clear h c I X;go_enter Tryz.func138,Tryz.ntmps138;go_upto_region 7 with fail;generalize ws.alloc (.cells #[.int .i64 4,.int .i64 n,.int .i64 b,.string C,.string cls,.string D] 34)=R at *;refine wp_region_held_drew (S:=fun w'=>w'.cell? ⟨ws.heap.size,1,none⟩=some (.int .i64 n)/\w'.cell? ⟨sb,3,none⟩=some (.slice (some ⟨g,0,none⟩) L.length cap)/\w'.cell? ⟨g,n,none⟩=some (.string k)) (by kernel_rfl) ⟨M,E,A⟩ (fun hHeld=>?_);change wpAnyH _ _ _ _ _ 22 _ _ _;iterate 21 ((first|(refine tkN rfl rfl hHeld ?_)|(refine tkY (v:=?_) rfl rfl hHeld ?_ ?_;rotate_left;focus (intro w H;(obtain⟨r,s,t⟩:=H);go_simp;all_goals with_reducible rfl)));try simp only[Act.put,Xa,Xc,Xd])
 refine wpAnyH_ready (rs:=[21]) (fuel:=0) (by kernel_rfl) (by simp) ?_;refine AllReadyH.cons (i:=21) rfl (fun K O=>?_) AllReadyH.nil;go_simp;refine(o.out _).mono ?_;rintro e wq⟨rfl,rfl⟩;refine O.out _ _ ⟨M,E,A⟩ (fun _=>?_);clear O K;try simp only[Act.put,Xa,Xc,Xd]
 refine wpAnyH_done (by kernel_rfl) ?_ _;have U:=Xh (J.out.over Xb.drew);clear J hHeld;go_upto_region 8 with fail;replace M:R.drew.cell? ⟨ws.heap.size,1,none⟩=some (.int .i64 n):=M;replace E:R.drew.cell? ⟨sb,3,none⟩=some (.slice (some ⟨g,0,none⟩) L.length cap):=E;replace A:R.drew.cell? ⟨g,n,none⟩=some (.string k):=A;generalize R.drew=wB at *;refine wp_region_held_drew (S:=fun w'=>w'.cell? ⟨ws.heap.size,1,none⟩=some (.int .i64 n)/\w'.cell? ⟨sb,3,none⟩=some (.slice (some ⟨g,0,none⟩) L.length cap)/\w'.cell? ⟨g,n,none⟩=some (.string k)) (by kernel_rfl) ⟨M,E,A⟩ (fun hHeld=>?_);change wpAnyH _ _ _ _ _ 11 _ _ _;iterate 10 ((first|(refine tkN rfl rfl hHeld ?_)|(refine tkY (v:=?_) rfl rfl hHeld ?_ ?_;rotate_left;focus (intro w H;(obtain⟨r,s,t⟩:=H);go_simp;all_goals with_reducible rfl)));try simp only[Act.put,Xa,Xc,Xd])
 refine wpAnyH_ready (rs:=[10]) (fuel:=0) (by kernel_rfl) (by simp) ?_;refine AllReadyH.cons (i:=10) rfl (fun K O=>?_) AllReadyH.nil;go_simp;have F:=U.out.over Xb.drew;cases P:QN S k with
 |none =>
  refine(F.putN k P).mono ?_;rintro e w2 a;obtain⟨Y,rfl⟩:=a.no';exact And.intro rfl (F.stop Y (Zd (Qz P)))
 |some S' =>
  refine(F.putY k P).mono ?_;rintro e w2 a;obtain⟨Y,rfl,x,y,Z,N⟩:=a.ok';have G:=Xh (F.next Y Z N);refine O.out _ _ ?_ (fun _=>?_)
  ·obtain⟨g',f,j,z,_⟩:=G.out.local T;obtain⟨_,x1,_⟩:=G.out.cells;have d:=G.out.step.blk.cell 3;rw[N.1]at j d;cases j;exact⟨x1,d,z⟩
  clear O K;try simp only[Act.put,Xa,Xc,Xd]
  refine wpAnyH_done (by kernel_rfl) ?_ _;clear hHeld;go_wp2_with fail;go_end0;exact G.out.done (qj (Zy P))
set_option maxRecDepth 512
theorem qh.stored{base:Nat}{w:World}{sb B:Nat}{qb Zb:Str}{g cap:Nat}{sv:Value}{L S:List Str}(h:qh base w sb B qb Zb (.slice (some ⟨g,0,none⟩) L.length cap) sv L S)(n:Nat)(k:Str):qh base (w.setCell ⟨g,n,none⟩ (.string k)) sb B qb Zb (.slice (some ⟨g,0,none⟩) L.length cap) sv (L.set n k) S:=by
 have A:=(World.ownsRow.stored h.locals n (.string k)).1;have C:g≠sb:=fun e=>h.lfar (by rw[e];rfl)
 refine⟨(Xk w ⟨g,n,none⟩ sb _ (fun e=>C e.symm)).trans h.blk,?_,ZX h.stack (h.apart g rfl) n _,h.apart,h.lfar,h.sfar,h.low⟩;rw[List.length_set,List.map_set];exact A
theorem Kp.stored{sb g n A cap:Nat}{sv:Value}(w:World)(u:Value):Kp sb (.slice (some ⟨g,0,none⟩) A cap) sv w (.slice (some ⟨g,0,none⟩) A cap) sv (w.setCell ⟨g,n,none⟩ u) :=
 ⟨rfl,fun x _ B=>⟨Xk w ⟨g,n,none⟩ x _ (fun e=>B.2.1 (by rw[e];rfl)),B⟩⟩
set_option maxRecDepth 100000
theorem ZeR(w0 w:World)(B:Nat)(l:List qa)(base:Nat)(ws:World)(G:Env w0 w B l base ws)(sb:Nat)(qb Zb:Str)(lv sv:Value)(L S:List Str)(h:qh base ws sb B qb Zb lv sv L S)(n:Nat)(b:Int)(A cls C:Str)(H:zB S=none):
 Calls Tryz.prog 138 #[.pointer (some ⟨sb,0,none⟩),.agg #[.int .i64 5,.int .i64 n,.int .i64 b,.string A,.string cls,.string C]] ws (Zf base ws sb B qb Zb lv sv (none)):=by
 have D:SA w0 w B l base ws lv sv sb qb Zb ws.heap.size [.int .i64 5,.int .i64 n,.int .i64 b,.string A,.string cls,.string C] (ws.alloc (.cells #[.int .i64 5,.int .i64 n,.int .i64 b,.string A,.string cls,.string C] 34)) lv sv L S:=SA.new G h _;obtain⟨J,M,N,O,P,R⟩:=D.cells;have _hg3:(ws.alloc (.cells #[.int .i64 5,.int .i64 n,.int .i64 b,.string A,.string cls,.string C] 34)).cell? ⟨sb,3,none⟩=some lv:=D.step.blk.cell 3;have E:=Xh D;clear h G;go_enter Tryz.func138,Tryz.ntmps138;go_wp2_with (first
  |(go_fit (D.popN H);rintro e T I;obtain⟨F,rfl⟩:=I.no'))
 exact And.intro rfl (E.out.stop F rfl)
theorem qeR(w0 w:World)(B:Nat)(l:List qa)(base:Nat)(ws:World)(R:Env w0 w B l base ws)(sb:Nat)(qb Zb:Str)(lv sv:Value)(L S:List Str)(h:qh base ws sb B qb Zb lv sv L S)(n:Nat)(b:Int)(A cls C:Str)(k:Str)(X:List Str)(Y:zB S=some (k,X))(T:L[n]? = none):
 Calls Tryz.prog 138 #[.pointer (some ⟨sb,0,none⟩),.agg #[.int .i64 5,.int .i64 n,.int .i64 b,.string A,.string cls,.string C]] ws (Zf base ws sb B qb Zb lv sv (none)):=by
 have E:SA w0 w B l base ws lv sv sb qb Zb ws.heap.size [.int .i64 5,.int .i64 n,.int .i64 b,.string A,.string cls,.string C] (ws.alloc (.cells #[.int .i64 5,.int .i64 n,.int .i64 b,.string A,.string cls,.string C] 34)) lv sv L S:=SA.new R h _;obtain⟨d,U,f,g,j,m⟩:=E.cells;have Z:Hid (∀wx,_):=fun wx=>zx wx
 have I:(ws.alloc (.cells #[.int .i64 5,.int .i64 n,.int .i64 b,.string A,.string cls,.string C] 34)).cell? ⟨sb,3,none⟩=some lv:=E.step.blk.cell 3;have J:=Xh E;have M:Hid (decide (n<L.length)=false):=Xh (by
  have:=List.getElem?_eq_none_iff.1 T;simp;omega)
 obtain⟨p,c,O⟩:=Qd h.locals;clear T h R;go_enter Tryz.func138,Tryz.ntmps138;go_upto_region 11 with(first
  |(go_fit (E.popY Y);rintro e r V;obtain⟨F,rfl,o,q,G,D⟩:=V.ok'))
 obtain rfl:=D.1;have H:=E.next F G D;obtain⟨d,U,f,g,j,m⟩:=H.cells;subst O;have a:r.cell? ⟨sb,3,none⟩=some (.slice p L.length c):=H.step.blk.cell 3;have N:=Xh H;clear E H I F G D V J;refine wp_region_held_drew (S:=fun w'=>w'.cell? ⟨ws.heap.size,1,none⟩=some (.int .i64 n)/\w'.cell? ⟨sb,3,none⟩=some (.slice p L.length c)) (by kernel_rfl) ⟨U,a⟩ (fun hHeld=>?_);change wpAnyH _ _ _ _ _ 10 _ _ _;iterate 9 ((first|(refine tkN rfl rfl hHeld ?_)|(refine tkY (v:=?_) rfl rfl hHeld ?_ ?_;rotate_left;focus (intro w P;(obtain⟨s,t⟩:=P);go_simp;all_goals with_reducible rfl)));try simp only[Act.put,Xa,Xc,Xd])
 rw[M.out];refine wpAnyH_ready (rs:=[9]) (fuel:=0) (by kernel_rfl) (by simp) ?_;refine AllReadyH.cons (i:=9) rfl (fun K y=>?_) AllReadyH.nil;go_simp;refine(Z.out _).mono ?_;rintro e x⟨rfl,rfl⟩;exact And.intro rfl (N.out.stop Xb.drew rfl)
theorem QeR(w0 w:World)(B:Nat)(l:List qa)(base:Nat)(ws:World)(c:Env w0 w B l base ws)(sb:Nat)(qb Zb:Str)(lv sv:Value)(L S:List Str)(h:qh base ws sb B qb Zb lv sv L S)(n:Nat)(b:Int)(A cls C:Str)(k:Str)(d:List Str)(m:zB S=some (k,d))(f:Str)(X:L[n]? = some f):
 Calls Tryz.prog 138 #[.pointer (some ⟨sb,0,none⟩),.agg #[.int .i64 5,.int .i64 n,.int .i64 b,.string A,.string cls,.string C]] ws (Zf base ws sb B qb Zb lv sv (Zm (some (L.set n k,d)))):=by
 have M:SA w0 w B l base ws lv sv sb qb Zb ws.heap.size [.int .i64 5,.int .i64 n,.int .i64 b,.string A,.string cls,.string C] (ws.alloc (.cells #[.int .i64 5,.int .i64 n,.int .i64 b,.string A,.string cls,.string C] 34)) lv sv L S:=SA.new c h _;obtain⟨t,N,x,y,z,i5⟩:=M.cells;have o:Hid (∀wx,_):=fun wx=>qG wx
 have Y:(ws.alloc (.cells #[.int .i64 5,.int .i64 n,.int .i64 b,.string A,.string cls,.string C] 34)).cell? ⟨sb,3,none⟩=some lv:=M.step.blk.cell 3;have Z:=Xh M;have q:n<L.length:=by
  obtain⟨h1,_⟩:=List.getElem?_eq_some_iff.1 X;exact h1
 clear h c;go_enter Tryz.func138,Tryz.ntmps138;go_upto_region 11 with(first
  |(go_fit (M.popY m);rintro e O j;obtain⟨T,rfl,lv1,sv1,U,G⟩:=j.ok'))
 obtain rfl:=G.1;have D:=M.next T U G;obtain⟨t,N,x,y,z,i5⟩:=D.cells;obtain⟨g,cap,H,I,a⟩:=D.local X;have r:g≠ws.heap.size:=fun e=>D.apart.2.1 (by rw[H,e];rfl)
 have s:g≠sb:=fun e=>D.step.lfar (by rw[H,e];rfl)
 subst H;have P:O.cell? ⟨sb,3,none⟩=some (.slice (some ⟨g,0,none⟩) L.length cap):=D.step.blk.cell 3;have R:=Xh D;clear M D Y T U G j Z X;refine wp_region_held_drew (S:=fun w'=>w'.cell? ⟨ws.heap.size,1,none⟩=some (.int .i64 n)/\w'.cell? ⟨sb,3,none⟩=some (.slice (some ⟨g,0,none⟩) L.length cap)) (by kernel_rfl) ⟨N,P⟩ (fun hHeld=>?_);change wpAnyH _ _ _ _ _ 10 _ _ _;iterate 9 ((first|(refine tkN rfl rfl hHeld ?_)|(refine tkY (v:=?_) rfl rfl hHeld ?_ ?_;rotate_left;focus (intro w J;(obtain⟨s0,s1⟩:=J);go_simp;all_goals with_reducible rfl)));try simp only[Act.put,Xa,Xc,Xd])
 refine wpAnyH_ready (rs:=[9]) (fuel:=0) (by kernel_rfl) (by simp) ?_;refine AllReadyH.cons (i:=9) rfl (fun K V=>?_) AllReadyH.nil;go_simp;refine(o.out _).mono ?_;rintro e wq⟨rfl,rfl⟩;refine V.out _ _ ⟨N,P⟩ (fun _=>?_);clear V K;try simp only[Act.put,Xa,Xc,Xd]
 refine wpAnyH_done (by kernel_rfl) ?_ _;have E:=Xh ((R.out.over Xb.drew).over Xb.drew);clear R hHeld;go_upto_region 12 with fail;replace N:O.drew.cell? ⟨ws.heap.size,1,none⟩=some (.int .i64 n):=N;replace P:O.drew.cell? ⟨sb,3,none⟩=some (.slice (some ⟨g,0,none⟩) L.length cap):=P;have c2:O.drew.drew.cell? ⟨g,n,none⟩=some (.string f):=I;have f2:O.drew.drew.frozen? ⟨g,n,none⟩=false:=a;generalize O.drew=wB at *;refine wp_region_held_drew (S:=fun w'=>w'.cell? ⟨ws.heap.size,1,none⟩=some (.int .i64 n)/\w'.cell? ⟨sb,3,none⟩=some (.slice (some ⟨g,0,none⟩) L.length cap)) (by kernel_rfl) ⟨N,P⟩ (fun hHeld=>?_);change wpAnyH _ _ _ _ _ 10 _ _ _;iterate 9 ((first|(refine tkN rfl rfl hHeld ?_)|(refine tkY (v:=?_) rfl rfl hHeld ?_ ?_;rotate_left;focus (intro w J;(obtain⟨s0,s1⟩:=J);go_simp;all_goals with_reducible rfl)));try simp only[Act.put,Xa,Xc,Xd])
 refine wpAnyH_ready (rs:=[9]) (fuel:=0) (by kernel_rfl) (by simp) ?_;refine AllReadyH.cons (i:=9) rfl (fun K V=>?_) AllReadyH.nil;go_simp;have F:=Xh (E.out.next ((Below.refl base _).setCell (p:=⟨g,n,none⟩) (E.out.step.locals.lt g rfl).1 (.string k)) (E.out.step.stored n k) (Kp.stored (n:=n) _ _));refine V.out _ _ ?_ (fun _=>?_)
 ·obtain⟨_,x1,_⟩:=F.out.cells;exact⟨x1,F.out.step.blk.cell 3⟩
 clear V K;try simp only[Act.put,Xa,Xc,Xd]
 refine wpAnyH_done (by kernel_rfl) ?_ _;clear hHeld;go_wp2_with fail;go_end0;exact F.out.done rfl
set_option maxRecDepth 512
theorem Qb2(cs:List qa)(Zb:Str)(a b:Int)(A cls B:Str)(L S:List Str):
 qD cs Zb ⟨2,a,b,A,cls,B⟩ L S=zr L S A/\qD cs Zb ⟨3,a,b,A,cls,B⟩ L S=zr L S kN/\qD cs Zb ⟨4,a,b,A,cls,B⟩ L S=QbB L S a/\qD cs Zb ⟨5,a,b,A,cls,B⟩ L S=qa0 L S a
 /\qD cs Zb ⟨6,a,b,A,cls,B⟩ L S=((zB S).map fun p=>(L,p.2))/\qD cs Zb ⟨7,a,b,A,cls,B⟩ L S=((zB S).bind fun p=>(QN p.2 p.1).bind fun C=>zr L C p.1)
 /\qD cs Zb ⟨8,a,b,A,cls,B⟩ L S=((zB S).bind fun p=>(zB p.2).bind fun q=>(QN q.2 p.1).bind fun C=>zr L C q.1)
 /\qD cs Zb ⟨9,a,b,A,cls,B⟩ L S=((Qf cs (Qan a A) S).bind fun C=>(Qf cs [A] C).bind fun D=>zr L D A)
 /\qD cs Zb ⟨10,a,b,A,cls,B⟩ L S=((Qf cs [Zat A] S).bind fun C=>zr L C A)
 /\qD cs Zb ⟨11,a,b,A,cls,B⟩ L S=((Qf cs [kJ,kJ] S).bind fun C=>zr L C kI)
 /\qD cs Zb ⟨12,a,b,A,cls,B⟩ L S=((Qf cs [kI] S).map fun C=>(L,C))
 /\qD cs Zb ⟨13,a,b,A,cls,B⟩ L S=Qdt L S
 /\qD cs Zb ⟨26,a,b,A,cls,B⟩ L S=(if (Zb.toList==[86])=true then some (L,S) else none)
 /\qD cs Zb ⟨27,a,b,A,cls,B⟩ L S=(if (Zb.toList==[86])=true then none else (Qf cs [Zb] S).map fun C=>(L,C))
 /\qD cs Zb ⟨28,a,b,A,cls,B⟩ L S=((Qf cs [Qc Zal] S).map fun C=>(L,C)) :=
 ⟨rfl,rfl,rfl,rfl,rfl,rfl,rfl,rfl,rfl,rfl,rfl,rfl,rfl,rfl,rfl⟩
theorem QaM{cs:List qa}{Zb:Str}{x:Ins}{L S:List Str}(h:x.op≠2/\x.op≠3/\x.op≠4/\x.op≠5/\x.op≠6/\x.op≠7/\x.op≠8/\x.op≠9/\x.op≠10/\x.op≠11/\x.op≠12/\x.op≠13/\x.op≠26/\x.op≠27/\x.op≠28):qD cs Zb x L S=some (L,S):=by
 obtain⟨G,H,I,J,M,N,O,P,R,A,B,C,D,E,F⟩:=h;unfold qD;rw[if_neg G,if_neg H,if_neg I,if_neg J,if_neg M,if_neg N,if_neg O,if_neg P,if_neg R,if_neg A,if_neg B,if_neg C,if_neg D,if_neg E,if_neg F]
theorem Zer(cs:List qa)(S:List Str):Qf cs [] S=some S:=rfl
theorem qer(w0 w:World)(B:Nat)(l:List qa)(base:Nat)(ws:World)(F:Env w0 w B l base ws)(sb:Nat)(qb Zb:Str)(lv sv:Value)(L S:List Str)(h:qh base ws sb B qb Zb lv sv L S)(G:ql (Za l) S)(x:Ins)(D:x.type.size<=maxLen)(E:Zb.size<=maxLen)(Y:x.op=4\/x.op=5->0<=x.a):
 Calls Tryz.prog 138 #[.pointer (some ⟨sb,0,none⟩),qao x] ws (Zf base ws sb B qb Zb lv sv (Zm (qD (Za l) Zb x L S))):=by
 obtain⟨H,a,b,A,cls,C⟩:=x;replace D:A.size<=maxLen:=D;unfold qao;dsimp only at Y ⊢;obtain⟨e2,e3,e4,e5,e6,e7,e8,e9,o,q,r,s,t,v,y⟩:=Qb2 (Za l) Zb a b A cls C L S;by_cases Z:H=2
 ·subst Z;rw[e2];exact ze6 w0 w B l base ws F sb qb Zb lv sv L S h G a b A cls C D E
 by_cases c:H=3
 ·subst c;rw[e3];exact Ze6 w0 w B l base ws F sb qb Zb lv sv L S h G a b A cls C D E
 by_cases d:H=4
 ·subst d;rw[e4];obtain⟨n,rfl⟩:=Int.eq_ofNat_of_zero_le (Y (Or.inl rfl));unfold QbB;rw[show(n:Int).toNat=n from rfl];cases I:L[n]? with
  |none=>exact qeQ w0 w B l base ws F sb qb Zb lv sv L S h n b A cls C I
  |some k =>
   dsimp only;cases V:(k.toList==[84]) with
   |true=>rw[if_pos rfl];exact QeQ w0 w B l base ws F sb qb Zb lv sv L S h n b A cls C k I V
   |false=>rw[if_neg (by decide)];exact zeR w0 w B l base ws F sb qb Zb lv sv L S h n b A cls C k I V
 by_cases e:H=5
 ·subst e;rw[e5];obtain⟨n,rfl⟩:=Int.eq_ofNat_of_zero_le (Y (Or.inr rfl));unfold qa0;rw[show(n:Int).toNat=n from rfl];cases m:zB S with
  |none=>exact ZeR w0 w B l base ws F sb qb Zb lv sv L S h n b A cls C m
  |some p =>
   obtain⟨k,z⟩:=p;rw[Option.bind_some];dsimp only;cases I:L[n]? with
   |none =>
    rw[if_neg (by have:=List.getElem?_eq_none_iff.1 I;omega)];exact qeR w0 w B l base ws F sb qb Zb lv sv L S h n b A cls C k z m I
   |some k0 =>
    rw[if_pos (by obtain⟨h1,_⟩:=List.getElem?_eq_some_iff.1 I;exact h1)];exact QeR w0 w B l base ws F sb qb Zb lv sv L S h n b A cls C k z m k0 I
 by_cases f:H=6
 ·subst f;rw[e6];exact qe6 w0 w B l base ws F sb qb Zb lv sv L S h G a b A cls C D E
 by_cases g:H=7
 ·subst g;rw[e7];exact Qe6 w0 w B l base ws F sb qb Zb lv sv L S h G a b A cls C D E
 by_cases i:H=8
 ·subst i;rw[e8];exact ze7 w0 w B l base ws F sb qb Zb lv sv L S h G a b A cls C D E
 by_cases j:H=9
 ·subst j;rw[e9];unfold Qan;by_cases J:a=12
  ·subst J;rw[if_pos rfl,Zer,Option.bind_some];exact qeP w0 w B l base ws F sb qb Zb lv sv L S h G b A cls C D E
  ·rw[if_neg J];by_cases cs:a=9\/a=10\/a=11
   ·rw[if_pos cs];rcases cs with rfl|rfl|rfl
    ·exact Qep w0 w B l base ws F sb qb Zb lv sv L S h G b A cls C D E
    ·exact zdR w0 w B l base ws F sb qb Zb lv sv L S h G b A cls C D E
    ·exact ZdR w0 w B l base ws F sb qb Zb lv sv L S h G b A cls C D E
   ·rw[if_neg cs];exact QeP w0 w B l base ws F sb qb Zb lv sv L S h G a b A cls C D E (by simpa using J) (by simp;omega) (by simp;omega) (by simp;omega)
 by_cases M:H=10
 ·subst M;rw[o];exact zeQ w0 w B l base ws F sb qb Zb lv sv L S h G a b A cls C D E
 by_cases N:H=11
 ·subst N;rw[q];exact QeO w0 w B l base ws F sb qb Zb lv sv L S h G a b A cls C D E
 by_cases O:H=12
 ·subst O;rw[r];exact zeP w0 w B l base ws F sb qb Zb lv sv L S h G a b A cls C D E
 by_cases P:H=13
 ·subst P;rw[s];exact ZeP w0 w B l base ws F sb qb Zb lv sv L S h G a b A cls C D E
 by_cases R:H=26
 ·subst R;rw[t];cases X:(Zb.toList==[86]) with
  |true=>rw[if_pos rfl];exact Zeq w0 w B l base ws F sb qb Zb lv sv L S h G a b A cls C D E X
  |false=>rw[if_neg (by decide)];exact qeq w0 w B l base ws F sb qb Zb lv sv L S h G a b A cls C D E X
 by_cases T:H=27
 ·subst T;rw[v];cases X:(Zb.toList==[86]) with
  |true=>rw[if_pos rfl];exact Qeq w0 w B l base ws F sb qb Zb lv sv L S h G a b A cls C D E X
  |false=>rw[if_neg (by decide)];exact zer w0 w B l base ws F sb qb Zb lv sv L S h G a b A cls C D E X
 by_cases U:H=28
 ·subst U;rw[y];exact ZeQ w0 w B l base ws F sb qb Zb lv sv L S h G a b A cls C D E
 rw[QaM ⟨Z,c,d,e,f,g,i,j,M,N,O,P,R,T,U⟩];exact qdu w0 w B l base ws F sb qb Zb lv sv L S h G H a b A cls C D E (by simpa using Z) (by simpa using c) (by simpa using d) (by simpa using e) (by simpa using f) (by simpa using g) (by simpa using i) (by simpa using j) (by simpa using M) (by simpa using N) (by simpa using O) (by simpa using P) (by simpa using R) (by simpa using T) (by simpa using U)
end Go.Proofs.YtmclocdhcblbiaaGreatDoor
