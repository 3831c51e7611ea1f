/- Lemmas; conditions: as each states. -/
import Derived.Test.YtlmfmioljeppfaaGreatDoorStepper
set_option maxHeartbeats 4000000
namespace Go.Proofs.YtlmfmioljeppfaaGreatDoor
open Go.RowKit Go.Shelf Go.Lib
def Qm(cs:List Qb)(S:List Str):Prop:=∀k∈S,zd cs k=0
theorem ZU{cs:List Qb}{k:Str}(h:zd cs k=0):k.size<=25:=by
 have C:k.size=(lst k).length:=QB k |>.symm
 unfold zd at h;split at h
 ·rename_i A;rcases A with A|A<;>rw[C,A]<;>decide
 ·split at h
  ·cases h
  ·rename_i _ D;obtain⟨y,B⟩:=Zaq (t:=k) (by simpa using D);have E:=zcz y B.name;have F:=B.deep;rw[C,<-B.text];omega
structure Env (w0 w:World) (B:Nat) (l:List Qb) (base:Nat) (wx:World):Prop where
 map0:zy w0 w B l
 le:w.heap.size<=base
 below:Below w.heap.size w wx
theorem Env.map{w0 w wx:World}{B base:Nat}{l:List Qb}(h:Env w0 w B l base wx):zy w0 wx B l:=h.map0.step h.below
theorem Env.step{w0 w wx wy:World}{B base:Nat}{l:List Qb}(h:Env w0 w B l base wx)(A:Below base wx wy):Env w0 w B l base wy:=⟨h.map0,h.le,h.below.trans (A.mono h.le)⟩
theorem Qi.over{base:Nat}{w w':World}{sb B:Nat}{qb Zb:Str}{lv sv:Value}{L S:List Str}(h:Qi base w sb B qb Zb lv sv L S)(A:Below w.heap.size w w'):Below base w w':=A.mono h.size
def zaM(sb:Nat)(lv sv:Value)(g:Nat):Prop:=g≠sb/\lv.ownBlock≠some g/\sv.ownBlock≠some g
def Kp(sb:Nat)(lv sv:Value)(w:World)(lv' sv':Value)(w':World):Prop:=lv'=lv/\∀g,g<w.heap.size->zaM sb lv sv g->w'.heap[g]? = w.heap[g]?/\zaM sb lv' sv' g
theorem Kp.below{sb:Nat}{lv sv:Value}{w w':World}(A:Below w.heap.size w w'):Kp sb lv sv w lv sv w':=⟨rfl,fun g B C=>⟨A.block g B,C⟩⟩
theorem Kp.trans{sb:Nat}{lv sv A B C D:Value}{w E F:World}(h:Kp sb lv sv w A B E)(k:Kp sb A B E C D F)(hs:w.heap.size<=E.heap.size):Kp sb lv sv w C D F:=⟨k.1.trans h.1,fun g L M=>by
 obtain⟨G,H⟩:=h.2 g L M;obtain⟨I,J⟩:=k.2 g (by omega) H;exact⟨I.trans G,J⟩⟩
theorem Kp.blk{sb:Nat}{lv sv B C:Value}{w w':World}(h:Kp sb lv sv w B C w'){b:Nat}{t:TypeId}{A:List Value}(D:Blk w b t A)(E:zaM sb lv sv b):Blk w' b t A:=(h.2 b D.lt E).1.trans D
def qf(base:Nat)(w:World)(sb B:Nat)(qb Zb:Str)(lv sv:Value)(r:Option (Value×List Str×List Str))(e:Ending)(w':World):Prop :=
 Below base w w'/\match r with
  |none=>e=.panicked [Zax]
  |some (v,L,S)=>e=.returned v/\∃lv' sv',Qi base w' sb B qb Zb lv' sv' L S/\Kp sb lv sv w lv' sv' w'
theorem qf.ok{base:Nat}{w w':World}{sb B:Nat}{qb Zb:Str}{v:Value}{lv sv A C:Value}{L S:List Str}(D:Below base w w')(h:Qi base w' sb B qb Zb A C L S)(E:Kp sb lv sv w A C w'):qf base w sb B qb Zb lv sv (some (v,L,S)) (.returned v) w':=⟨D,rfl,A,C,h,E⟩
theorem qf.no{base:Nat}{w w':World}{sb B:Nat}{qb Zb:Str}{lv sv:Value}(A:Below base w w'):qf base w sb B qb Zb lv sv none (.panicked [Zax]) w':=⟨A,rfl⟩
theorem qf.no'{base:Nat}{w w':World}{sb B:Nat}{qb Zb:Str}{lv sv:Value}{e:Ending}(h:qf base w sb B qb Zb lv sv none e w'):Below base w w'/\e=.panicked [Zax]:=h
theorem qf.ok'{base:Nat}{w w':World}{sb B:Nat}{qb Zb:Str}{v:Value}{lv sv:Value}{L S:List Str}{e:Ending}(h:qf base w sb B qb Zb lv sv (some (v,L,S)) e w'):Below base w w'/\e=.returned v/\∃A C,Qi base w' sb B qb Zb A C L S/\Kp sb lv sv w A C w':=h
theorem qf.post{base:Nat}{w w':World}{sb B:Nat}{qb Zb:Str}{lv sv:Value}{r:Option (Value×List Str×List Str)}{e:Ending}(h:qf base w sb B qb Zb lv sv r e w'):Qaf base w sb B qb Zb r e w':=by
 cases r with
 |none=>exact h
 |some p=>exact⟨h.1,h.2.1,h.2.2.elim fun A h=>h.elim fun C h=>⟨A,C,h.1⟩⟩
theorem Qi.fresh{base:Nat}{w:World}{sb B:Nat}{qb Zb:Str}{lv sv:Value}{L S:List Str}(h:Qi base w sb B qb Zb lv sv L S){g:Nat}(A:w.heap.size<=g):zaM sb lv sv g :=
 ⟨fun e=>by have:=h.blk.lt;omega,fun e=>by have:=(h.locals.lt g e).2;omega,fun e=>by have:=(h.stack.lt g e).2;omega⟩
set_option maxRecDepth 100000
theorem qd1(base:Nat)(w:World)(sb B:Nat)(qb Zb:Str)(lv sv:Value)(L S:List Str)(h:Qi base w sb B qb Zb lv sv L S)(k:Str):
 Calls Tryz.prog 136 #[.pointer (some ⟨sb,0,none⟩),.string k] w (qf base w sb B qb Zb lv sv ((ZK S k).map fun Z=>(.tuple #[],L,Z))):=by
 obtain⟨p,c,rfl⟩:=qe h.stack;have C:=Xh h;have a:w.cell? ⟨sb,4,none⟩=some (.slice p S.length c):=h.blk.cell 4;have U:Hid (∀wx,_):=fun wx=>ZI wx
 have V:Hid (∀wx,_):=fun wx=>qB wx
 unfold ZK;clear h;by_cases P:S.length<8
 ·rw[if_pos P,Option.map_some];have X:decide ((S.length:Int)<8)=true:=by simp;omega
  have F:=(Below.refl w.heap.size w).alloc Xl (.cells #[.string k] 9);have A:=Xh (C.out.step F);have G:=A.out.size;go_enter Tryz.func136,Tryz.ntmps136;go_wp2_with (first
   |(go_fit (U.out _);rintro e Y⟨rfl,rfl⟩)
   |(at_builtin;refine Qg rfl _ _ rfl base (.slice p S.length c) S.length _ rfl A.out.stack _ [k] rfl (Qs _ _) (by unfold maxLen;simp;omega) (by simp;omega) G ?_;intro f R H D I;obtain⟨M,N,rfl⟩:=qe H;(have E:=A.out.blk.grown D C.out.sfar);(have b:R.cell? ⟨sb,4,none⟩=some (.slice p S.length c):=E.cell 4);(have d:=E.frozen 4)))
  go_end0;have O:Below base w R:=((Below.refl base w).alloc C.out.size _).grown D G (fun g e=>(A.out.stack.lt g e).1);refine qf.ok (O.setCell (p:=⟨sb,4,none⟩) C.out.low _) (C.out.stacked E (A.out.locals.kept D ?_) (by simpa using H) ?_) ⟨rfl,fun g T J=>⟨?_,J.1,J.2.1,?_⟩⟩
  ·cases h:lv.ownBlock with
   |none=>exact Or.inl rfl
   |some g=>exact Or.inr (fun e=>C.out.apart g h e.symm)
  ·rcases I with h|h
   ·exact Or.inl h
   ·refine Or.inr fun g e=>?_
    rw[show(Value.slice M (S.length+1) N).ownBlock=(Value.slice M (S.length+[k].length) N).ownBlock from rfl,h]at e;injection e with e
    have:=F.size;omega
  ·rw[Xk _ _ _ _ J.1,D.block g (Nat.lt_of_lt_of_le T F.size) (fun e=>J.2.2 e.symm)];exact F.block g T
  ·intro e;rcases I with h|h
   ·exact J.2.2 (h▸e)
   ·rw[show(Value.slice M (S.length+1) N).ownBlock=(Value.slice M (S.length+[k].length) N).ownBlock from rfl,h]at e;injection e with e
    have:=F.size;omega
 ·rw[if_neg P,Option.map_none];have X:decide ((S.length:Int)<8)=false:=by simp;omega
  go_enter Tryz.func136,Tryz.ntmps136;go_wp2_with (first
   |(go_fit (V.out _);rintro e Y⟨rfl,rfl⟩))
  exact⟨rfl,qf.no Xb⟩
set_option maxRecDepth 512
def qbG(cs:List Qb)(t:Str)(L S:List Str):Option (Value×List Str×List Str):=if zd cs t=0 then some (.tuple #[],L,S) else none
set_option maxRecDepth 100000
theorem Qcq(w0 w:World)(B:Nat)(l:List Qb)(base:Nat)(wx:World)(G:Env w0 w B l base wx)(sb:Nat)(qb Zb:Str)(lv sv:Value)(L S:List Str)(h:Qi base wx sb B qb Zb lv sv L S)(t:Str)(H:t.size<=maxLen):
 Calls Tryz.prog 143 #[.pointer (some ⟨sb,0,none⟩),.string t] wx (qf base wx sb B qb Zb lv sv (qbG (Za l) t L S)):=by
 have F:=Xh (Qbn w0 wx B (Za l) G.map.map G.map.right.nodup t H);have C:=Xh h;have O:wx.cell? ⟨sb,0,none⟩=some (.map (some B)):=h.blk.cell 0;have I:Hid (∀wx,_):=fun wx=>ZI wx
 have J:Hid (∀wx,_):=fun wx=>qB wx
 clear h G;unfold qbG;rcases qI (zd (Za l) t) with⟨D,E⟩|⟨D,E⟩
 ·rw[D]at F;rw[if_pos E];clear D E;go_enter Tryz.func143,Tryz.ntmps143;go_wp2_with (first
   |(go_fit F.out;rintro e M⟨rfl,A⟩)
   |(go_fit (I.out _);rintro e N⟨rfl,rfl⟩))
  go_end0;exact qf.ok (C.out.over A) (C.out.step A) (Kp.below A)
 ·rw[D]at F;rw[if_neg E];clear D E;generalize zd (Za l) t=n at *;go_enter Tryz.func143,Tryz.ntmps143;go_wp2_with (first
   |(go_fit F.out;rintro e M⟨rfl,A⟩)
   |(go_fit (J.out _);rintro e N⟨rfl,rfl⟩))
  exact⟨rfl,qf.no (C.out.over A)⟩
set_option maxRecDepth 512
def zI(S:List Str):Option (Str×List Str):=S.getLast?.map fun k=>(k,S.dropLast)
theorem Qd1:zI []=none:=rfl
theorem ZO(S:List Str)(k:Str):zI (S++[k])=some (k,S):=by unfold zI;simp
def zbT(L S:List Str):Option (Value×List Str×List Str):=(zI S).map fun p=>(.string p.1,L,p.2)
set_option maxRecDepth 100000
theorem qcB(base:Nat)(w:World)(sb B:Nat)(qb Zb:Str)(lv sv:Value)(L S:List Str)(h:Qi base w sb B qb Zb lv sv L S):
 Calls Tryz.prog 138 #[.pointer (some ⟨sb,0,none⟩)] w (qf base w sb B qb Zb lv sv (zbT L S)):=by
 have I:Hid (∀wx,_):=fun wx=>ZI wx
 have J:Hid (∀wx,_):=fun wx=>qB wx
 have C:=Xh h;unfold zbT;rcases List.eq_nil_or_concat S with rfl|⟨r,k,rfl⟩
 ·obtain⟨p,c,rfl⟩:=qe h.stack;have M:w.cell? ⟨sb,4,none⟩=some (.slice p 0 c):=h.blk.cell 4;rw[Qd1,Option.map_none];clear h;go_enter Tryz.func138,Tryz.ntmps138;go_wp2_with (first
   |(go_fit (J.out _);rintro e O⟨rfl,rfl⟩))
  exact⟨rfl,qf.no Xb⟩
 ·rw[List.concat_eq_append]at *;rw[ZO,Option.map_some];have A:=h.stack;have D:(r++[k]).length=r.length+1:=by simp
  rw[D,List.map_append]at A;obtain⟨g,cap,rfl,N,G,F⟩:∃g cap,sv=.slice (some ⟨g,0,none⟩) (r.length+1) cap/\base<=g/\r.length+1<=cap/\cap<=maxLen:=by
   rcases A.2 with⟨_,b⟩|⟨g,cap,P,R,T,_,U,V,_⟩
   ·omega
   ·exact⟨g,cap,R,T,U,V⟩
  have M:w.cell? ⟨sb,4,none⟩=some (.slice (some ⟨g,0,none⟩) (r.length+1) cap):=h.blk.cell 4;have X:=h.blk.frozen 4;have Y:w.cell? ⟨g,r.length,none⟩=some (.string k):=by
   rw[World.ownsRow.cellAt A r.length (by omega)];simp
  have Z:decide ((0:Int)<=(r.length:Int))=true:=by simp
  have a:wrap64 (r.length:Int)=(r.length:Int):=by
   unfold maxLen at F;unfold wrap64;omega
  have E:=Xh (ownsRow_pop (by simp) A);clear h A;go_enter Tryz.func138,Tryz.ntmps138;go_wp2_with (first
   |(go_fit (I.out _);rintro e O⟨rfl,rfl⟩))
  go_ret;exact qf.ok ((Below.refl base w).setCell (p:=⟨sb,4,none⟩) C.out.low _) (C.out.stacked C.out.blk C.out.locals E.out (Or.inl rfl)) ⟨rfl,fun g _ H=>⟨Xk _ _ _ _ H.1,H⟩⟩
set_option maxRecDepth 512
def zh(cs:List Qb):List Str->List Str->Option (List Str)
 |[],S=>some S
 |k::r,S=>if zd cs k≠0 then none else match zI S with
  |none=>none
  |some (t,S')=>if Zx cs (Zo t) (Zo k) then zh cs r S' else none
theorem qae{cs:List Qb}{S B:List Str}{k:Str}(h:zI S=some (k,B))(C:Qm cs S):zd cs k=0/\Qm cs B:=by
 rcases List.eq_nil_or_concat S with rfl|⟨r,t,rfl⟩
 ·cases h
 ·rw[List.concat_eq_append]at *;rw[ZO]at h;injection h with h
  injection h with D E
  subst D E;exact⟨C _ (by simp),fun k A=>C k (by simp[A])⟩
def Z9(x:Kd):Bool:=decide (x=.n)||Zt x
def Zau(w:World)(kv:Value)(ks:List Str)(sb:Nat)(lv sv:Value):Prop:=Qh w kv ks/\∀g,kv.ownBlock=some g->g<w.heap.size/\zaM sb lv sv g
theorem Zau.keep{w w':World}{C:Value}{ks:List Str}{sb:Nat}{lv sv A B:Value}(h:Zau w C ks sb lv sv)(E:Kp sb lv sv w A B w'):Qh w' C ks:=by
 rcases h with⟨M|⟨a,cap,rfl,N,O,P⟩,R⟩
 ·exact Or.inl M
 ·refine Or.inr ⟨a,cap,rfl,N,O,fun i x L=>?_⟩;obtain⟨vs,D,F,G,H⟩:=P i x L;obtain⟨I,J⟩:=R a.block rfl;unfold qs at D;subst D;exact⟨_,rfl,F,G,(World.cell?_of_block (a:=⟨a.block,a.off+i*1,none⟩) (E.2 a.block I J).1).trans H.1,trivial⟩
theorem zat(w0 w:World)(B:Nat)(l:List Qb)(F:zy w0 w B l)(a b:Str)(A:zd (Za l) a=0)(C:zd (Za l) b=0):
 Calls Tryz.prog 185 #[.map (some B),.string a,.string b] w fun e w'=>e=.returned (.bool (Zx (Za l) (Zo a) (Zo b)))/\Below w.heap.size w w':=by
 obtain⟨X,D⟩:=ZM A;obtain⟨Y,E⟩:=ZM C;rw[qz D.1,qz E.1];exact qcJ w0 w B l F a b X Y D E (Xf (ZU A) (by decide)) (Xf (ZU C) (by decide))
set_option maxRecDepth 100000
theorem Zeg(w0 w:World)(B:Nat)(l:List Qb)(base:Nat)(wx:World)(_hE:Env w0 w B l base wx)(sb:Nat)(qb Zb:Str)(lv sv:Value)(L S:List Str)(h:Qi base wx sb B qb Zb lv sv L S)(Z:Qm (Za l) S):
 Calls Tryz.prog 141 #[.pointer (some ⟨sb,0,none⟩)] wx (qf base wx sb B qb Zb lv sv ((zI S).bind fun p=>if Z9 (Zo p.1) then some (.string p.1,L,p.2) else none)):=by
 have F:=Xh (qcB base wx sb B qb Zb lv sv L S h);have a:Hid (∀wx,_):=fun wx=>ZI wx
 have c:Hid (∀wx,_):=fun wx=>qB wx
 clear h;unfold zbT at F;cases J:zI S with
 |none =>
  rw[J,Option.map_none]at F;rw[Option.bind_none];clear J;go_enter Tryz.func141,Tryz.ntmps141;go_wp2_with (first
   |(go_fit F.out;rintro e Y G;obtain⟨A,rfl⟩:=G.no'))
  exact⟨rfl,qf.no A⟩
 |some p =>
  obtain⟨k,d⟩:=p;rw[J,Option.map_some]at F;rw[Option.bind_some];obtain⟨b,V⟩:=qae J Z;obtain⟨X,R,_⟩:=ZM b;have O:Hid (∀wx,_):=fun wx=>zN k X wx R
  have H:=qz R;have U:=ZP R .n;rw[show Qo Kd.n=[78] from rfl]at U;dsimp only;rw[H];clear J b R H Z V;by_cases C:X=.n
  ·subst C;rw[Xj rfl]at U;rw[show Z9 Kd.n=true from rfl,if_pos rfl];go_enter Tryz.func141,Tryz.ntmps141;go_wp2_with (first
    |(go_fit F.out;rintro e Y G;obtain⟨A,rfl,M,N,D,E⟩:=G.ok')
    |(go_fit (a.out _);rintro e T⟨rfl,rfl⟩))
   go_ret;exact qf.ok A D E
  ·rw[Xi C]at U;have I:Z9 X=Zt X:=(by unfold Z9;rw[Xi C];rfl);rw[I];clear I;cases P:Zt X with
   |true =>
    rw[P]at O;rw[if_pos rfl];clear P C;go_enter Tryz.func141,Tryz.ntmps141;go_wp2_with (first
     |(go_fit F.out;rintro e Y G;obtain⟨A,rfl,M,N,D,E⟩:=G.ok')
     |(go_fit (O.out _);rintro e T⟨rfl,rfl⟩)
     |(go_fit (a.out _);rintro e T⟨rfl,rfl⟩))
    go_ret;exact qf.ok A D E
   |false =>
    rw[P]at O;rw[if_neg (by decide)];clear P C;go_enter Tryz.func141,Tryz.ntmps141;go_wp2_with (first
     |(go_fit F.out;rintro e Y G;obtain⟨A,rfl,M,N,D,E⟩:=G.ok')
     |(go_fit (O.out _);rintro e T⟨rfl,rfl⟩)
     |(go_fit (c.out _);rintro e T⟨rfl,rfl⟩))
    exact⟨rfl,qf.no A⟩
set_option maxRecDepth 512
theorem qcq{cs:List Qb}{k:Str}{r S:List Str}(h:zd cs k≠0):zh cs (k::r) S=none:=by unfold zh;rw[if_pos h]
theorem qcU{cs:List Qb}{k:Str}{r S:List Str}(h:zd cs k=0)(A:zI S=none):zh cs (k::r) S=none:=by unfold zh;rw[if_neg (by rw[h];decide),A]
theorem QdF{cs:List Qb}{k t:Str}{r S A:List Str}(h:zd cs k=0)(B:zI S=some (t,A)):zh cs (k::r) S=if Zx cs (Zo t) (Zo k) then zh cs r A else none:=by
 conv=>lhs;unfold zh
 rw[if_neg (by rw[h];decide),B]
set_option maxRecDepth 100000
theorem zd2(w0 w:World)(B:Nat)(l:List Qb)(base:Nat)(wx:World)(hE:Env w0 w B l base wx)(sb:Nat)(qb Zb:Str)(lv sv:Value)(L S:List Str)(h:Qi base wx sb B qb Zb lv sv L S)(hS:Qm (Za l) S)(ks:List Str)(kv:Value)(z:Zau wx kv ks sb lv sv)(hsz:∀k∈ks,k.size<=maxLen)(hln:ks.length<=4194304):
 Calls Tryz.prog 139 #[.pointer (some ⟨sb,0,none⟩),kv] wx (qf base wx sb B qb Zb lv sv ((zh (Za l) ks S).map fun a=>(.tuple #[],L,a))):=by
 have HE:=Xh hE;have HSt0:=Xh h;have HS0:=Xh hS;have HSz:=Xh hsz;have HKs:=Xh z;have HT:Hid (∀wx,_):=fun wx=>ZI wx
 have HF:Hid (∀wx,_):=fun wx=>qB wx
 obtain⟨p,c,rfl,_⟩:=z.1.open;obtain⟨n,hn⟩:∃n,ks.length=n:=⟨_,rfl⟩;have HN:=Xh hn;rw[hn]at hln ⊢;clear hE h hS z hsz hn;obtain⟨res,N⟩:∃r,zh (Za l) ks S=r:=⟨_,rfl⟩;have HR:=Xh N;rw[N];clear N;go_enter Tryz.func139,Tryz.ntmps139;go_wp2_with fail;go_loopw [8] (fun x wr=>∃(k:Nat) (Y Z:Value) (a:List Str),k<=n/\Hid (Qi base wr sb B qb Zb Y Z L a)/\Hid (zh (Za l) (ks.drop k) a=res)/\Hid (Below base wx wr)/\Hid (Kp sb lv sv wx Y Z wr)/\Hid (Qm (Za l) a)/\x=.int .i64 k) (fun x _=>n-(intOf x).toNat)
 case atStart=>exact⟨0,lv,sv,S,by omega,HSt0,HR,Xb,⟨rfl,fun g _ ha=>⟨rfl,ha⟩⟩,HS0,rfl⟩
 case round =>
  obtain⟨k,Y,Z,a,hk,d,f,hB,O,aD,rfl⟩:=hrel;by_cases hkl:k<n
  ·obtain⟨x,hx⟩:∃x,ks[k]? = some x:=⟨ks[k]'(by rw[HN.out];exact hkl),by simp⟩;obtain⟨p',c',hpc,_,_,aE⟩:=(HKs.out.keep O.out).open;cases hpc;obtain⟨b,o,vs,rfl,hRr,_,qc⟩:=aE k x hx;unfold qs at hRr;subst hRr;have c0:=qc.1;rw[Nat.mul_one]at c0;have aA:ks.drop k=x::ks.drop (k+1):=by
    obtain⟨h1,h2⟩:=List.getElem?_eq_some_iff.1 hx;rw[List.drop_eq_getElem_cons h1,h2]
   have A:=f.out;rw[aA]at A;have T:=HE.out.step hB.out;have H:=Xh (Qcq w0 w B l base wr T sb qb Zb Y Z L a d.out x (HSz.out x (Xe hx)));unfold qbG at H;by_cases F:zd (Za l) x=0
   ·rw[if_pos F]at H;have HKn:=Xh aD.out;have HEr:=Xh T;have I:=Xh hB.out;have HKr:=Xh O.out;have aB:=Xh F;have D:=Xh A;clear qc aE aA T F hx d f O aD hB A;go_upto_region 4 with(first
     |(go_fit H.out;rintro e q s;obtain⟨P,rfl,lv2,sv2,j,hk2⟩:=s.ok'))
    have HE2:=Xh (HEr.out.step P);have U:=Xh (I.out.trans P);have HK2:=Xh (HKr.out.trans hk2 I.out.size);have hP2:∀wy,Below q.heap.size q wy->_:=fun wy hb=>qcB base wy sb B qb Zb lv2 sv2 L a (j.step hb)
    have q0:q.cell? ⟨sb,0,none⟩=some (.map (some B)):=j.blk.cell 0;have G:=Xh hP2;have HS2:=Xh j;have V:=(Below.refl q.heap.size q).drew;have J:=(Below.refl base q).drew;clear P hk2 j hP2 c0;unfold zbT at G;have q0d:q.drew.cell? ⟨sb,0,none⟩=some (.map (some B)):=q0;refine wp_region_held_drew (S:=fun w'=>w'.cell? ⟨sb,0,none⟩=some (.map (some B))) (by kernel_rfl) q0d (fun hHeld=>?_);change wpAnyH _ _ _ _ _ 9 _ _ _;iterate 5 ((first|(refine tkN rfl rfl hHeld ?_)|(refine tkY (v:=?_) rfl rfl hHeld ?_ ?_;rotate_left;focus (intro w aF;((try dsimp only at aF));go_simp;all_goals with_reducible rfl)));try simp only[Act.put,Xa,Xc,Xd])
    refine tkI (i:=6) (fuel:=3) (v:=?_) rfl (by kernel_rfl) (by kernel_rfl) (by kernel_rfl) (fun _ _ _ h=>h) (by rfl) hHeld ?_ ?_;rotate_left;focus (intro w aF;((try dsimp only at aF));go_simp;all_goals with_reducible rfl);(try simp only[Act.put]);(try simp only[Xa]);(try simp only[Xd]);(try simp only[Xc])
    refine wpAnyH_ready (rs:=[5]) (fuel:=2) (by kernel_rfl) (by simp) ?_;refine AllReadyH.cons (i:=5) rfl (fun K y=>?_) AllReadyH.nil;go_simp;cases hp:zI a with
    |none =>
     rw[qcU aB.out hp]at D;have aC:=D.out;subst aC;rw[hp,Option.map_none]at G;refine(G.out _ V).mono ?_;rintro e w4 s;obtain⟨R,rfl⟩:=s.no';exact And.intro rfl (qf.no (U.out.trans (J.trans R)))
    |some p =>
     obtain⟨t,S2⟩:=p;rw[QdF aB.out hp]at D;rw[hp,Option.map_some]at G;obtain⟨hkt,m⟩:=qae hp HKn.out;refine(G.out _ V).mono ?_;rintro e w4 s;obtain⟨R,rfl,lv4,sv4,C,hk4⟩:=s.ok';have hE4:=HE2.out.step (J.trans R);have X:=Xh (U.out.trans (J.trans R));have HK4:=Xh (HK2.out.trans ((Kp.below V).trans hk4 V.size) U.out.size);have HD:=Xh (zat w0 w4 B l hE4.map t x hkt aB.out);have HS4:=Xh C;have HN2:=Xh m;clear G s hp hkt m R hk4 hE4;refine y.out _ _ (C.blk.cell 0) (fun _=>?_);clear y K;refine wpAnyH_ready (rs:=[7]) (fuel:=1) (by kernel_rfl) (by simp) ?_;refine AllReadyH.cons (i:=7) rfl (fun K y=>?_) AllReadyH.nil;go_simp;refine HD.out.mono ?_;rintro e w5⟨rfl,E⟩;refine y.out _ _ ((C.step E).blk.cell 0) (fun _=>?_);clear y K;try simp only[Act.put,Xa,Xc,Xd]
     refine wpAnyH_ready (rs:=[8]) (fuel:=0) (by kernel_rfl) (by simp) ?_;refine AllReadyH.cons (i:=8) rfl (fun K y=>?_) AllReadyH.nil;go_simp;cases M:Zx (Za l) (Zo t) (Zo x) with
     |false =>
      rw[M,if_neg (by decide)]at D;have aC:=D.out;subst aC;refine(HF.out _).mono ?_;rintro e w6⟨rfl,rfl⟩;exact And.intro rfl (qf.no (X.out.trans (C.over E)))
     |true =>
      rw[M,if_pos rfl]at D;refine(HT.out _).mono ?_;rintro e w6⟨rfl,rfl⟩;refine y.out _ _ ((C.step E).blk.cell 0) (fun _=>?_);clear y K;try simp only[Act.put,Xa,Xc,Xd]
      refine wpAnyH_done (by kernel_rfl) ?_ _;have HS5:=Xh (C.step E);have HB5:=Xh (X.out.trans (C.over E));have HK5:=Xh (HK4.out.trans (Kp.below E) X.out.size);clear C E HK4 X HK2 U HKr I M;go_wp2_with fail;go_roundw;case rel=>exact⟨k+1,lv4,sv4,S2,by omega,HS5,D,HB5,HK5,HN2,by simp⟩
      case measure=>simp[intOf];omega
   ·rw[if_neg F]at H;rw[qcq F]at A;subst A;have I:=Xh hB.out;clear qc aE aA T F hx d f O aD hB;go_wp2_with (first
     |(go_fit H.out;rintro e q s;obtain⟨P,rfl⟩:=s.no'))
    exact⟨rfl,qf.no (I.out.trans P)⟩
  ·obtain rfl:n=k:=(by omega);have A:=f.out;rw[Xg (by rw[HN.out];exact Xl)]at A;subst A;go_wp2_with fail;go_end0;exact qf.ok hB.out d.out O.out
set_option maxRecDepth 512
def kI:Str:=⟨#[73]⟩
def kJ:Str:=⟨#[74]⟩
def kN:Str:=⟨#[78]⟩
def Zaf:Str:=⟨#[70,97,117,108,116]⟩
def Zv(L S:List Str)(k:Str):Option (List Str×List Str):=(ZK S k).map fun S'=>(L,S')
def zaO(L S:List Str)(a:Int):Option (List Str×List Str):=match L[a.toNat]? with
 |some k=>if (k.toList==[84])=true then none else Zv L S k
 |none=>none
def QaD(L S:List Str)(a:Int):Option (List Str×List Str):=(zI S).bind fun p=>if a.toNat<L.length then some (L.set a.toNat p.1,p.2) else none
def zaz(a:Int)(t:Str):List Str:=if a=12 then [] else if a=9\/a=10\/a=11 then [kI] else [t]
def zaf(t:Str):Str:=if (t.toList==[73])=true then kJ else kI
def Zcb(L S:List Str):Option (List Str×List Str):=(zI S).bind fun p=>if Z9 (Zo p.1) then some (L,p.2) else none
def qN(cs:List Qb)(Zb:Str)(x:Ins)(L S:List Str):Option (List Str×List Str) :=
 if x.op=2 then Zv L S x.type
 else if x.op=3 then Zv L S kN
 else if x.op=4 then zaO L S x.a
 else if x.op=5 then QaD L S x.a
 else if x.op=6 then (zI S).map fun p=>(L,p.2)
 else if x.op=7 then (zI S).bind fun p=>(ZK p.2 p.1).bind fun S1=>Zv L S1 p.1
 else if x.op=8 then (zI S).bind fun p=>(zI p.2).bind fun q=>(ZK q.2 p.1).bind fun S1=>Zv L S1 q.1
 else if x.op=9 then (zh cs (zaz x.a x.type) S).bind fun S1=>(zh cs [x.type] S1).bind fun S2=>Zv L S2 x.type
 else if x.op=10 then (zh cs [zaf x.type] S).bind fun S1=>Zv L S1 x.type
 else if x.op=11 then (zh cs [kJ,kJ] S).bind fun S1=>Zv L S1 kI
 else if x.op=12 then (zh cs [kI] S).map fun S1=>(L,S1)
 else if x.op=13 then Zcb L S
 else if x.op=26 then if (Zb.toList==[86])=true then some (L,S) else none
 else if x.op=27 then if (Zb.toList==[86])=true then none else (zh cs [Zb] S).map fun S1=>(L,S1)
 else if x.op=28 then (zh cs [Zd Zaf] S).map fun S1=>(L,S1)
 else some (L,S)
theorem qu{α β:Type}{o:Option α}{f:α->Option β}(h:o=none):o.bind f=none:=by rw[h];rfl
theorem Qe{α β:Type}{o:Option α}{f:α->Option β}{x:α}(h:o=some x):o.bind f=f x:=by rw[h];rfl
theorem zaH{α β:Type}{o:Option α}{f:α->β}(h:o=none):o.map f=none:=by rw[h];rfl
theorem Z6{α β:Type}{o:Option α}{f:α->β}{x:α}(h:o=some x):o.map f=some (f x):=by rw[h];rfl
theorem Qd{o:Option (List Str×List Str)}(h:o=none):Qn o=none:=by rw[h];rfl
theorem Zl{o:Option (List Str×List Str)}{L S:List Str}(h:o=some (L,S)):Qn o=some (.tuple #[],L,S):=by rw[h];rfl
theorem ZE{L S:List Str}{k:Str}(h:ZK S k=none):Zv L S k=none:=zaH h
theorem zD{L S A:List Str}{k:Str}(h:ZK S k=some A):Zv L S k=some (L,A):=Z6 h
theorem Qj{cs:List Qb}:∀{ks S A:List Str},zh cs ks S=some A->Qm cs S->Qm cs A
 |[],S,A,h,C=>by injection h with h;subst h;exact C
 |k::r,S,A,h,C=>by
  unfold zh at h;split at h
  ·cases h
  ·cases B:zI S with
   |none=>rw[B]at h;cases h
   |some p =>
    obtain⟨t,D⟩:=p;rw[B]at h;dsimp only at h;split at h
    ·exact Qj h (qae B C).2
    ·cases h
structure SA (w0 w:World) (B:Nat) (l:List Qb) (base:Nat) (ws:World) (lv0 sv0:Value) (sb:Nat) (qb Zb:Str) (xb:Nat) (xv:List Value) (wx:World) (lv sv:Value) (L S:List Str):Prop where
 env:Env w0 w B l base wx
 step:Qi base wx sb B qb Zb lv sv L S
 box:Blk wx xb 24 xv
 apart:zaM sb lv sv xb
 below:Below base ws wx
 kp:Kp sb lv0 sv0 ws lv sv wx
variable {w0 w:World} {B:Nat} {l:List Qb} {base:Nat} {ws:World} {lv0 sv0:Value} {sb:Nat} {qb Zb:Str} {xb:Nat} {xv:List Value} {wx:World} {lv sv:Value} {L S:List Str}
theorem SA.new(C:Env w0 w B l base ws)(h:Qi base ws sb B qb Zb lv0 sv0 L S)(xv:List Value):SA w0 w B l base ws lv0 sv0 sb qb Zb ws.heap.size xv (ws.alloc (.cells xv.toArray 24)) lv0 sv0 L S :=
 have A:=(Below.refl ws.heap.size ws).alloc Xl (.cells xv.toArray 24);⟨C.step (A.mono h.size),h.step A,Blk.new ws 24 xv,h.fresh Xl,A.mono h.size,Kp.below A⟩
theorem SA.next(T:SA w0 w B l base ws lv0 sv0 sb qb Zb xb xv wx lv sv L S){w':World}{A C:Value}{E F:List Str}(G:Below base wx w')(h:Qi base w' sb B qb Zb A C E F)(D:Kp sb lv sv wx A C w'):SA w0 w B l base ws lv0 sv0 sb qb Zb xb xv w' A C E F :=
 ⟨T.env.step G,h,D.blk T.box T.apart,(D.2 xb T.box.lt T.apart).2,T.below.trans G,T.kp.trans D T.below.size⟩
theorem SA.over(T:SA w0 w B l base ws lv0 sv0 sb qb Zb xb xv wx lv sv L S){w':World}(A:Below wx.heap.size wx w'):SA w0 w B l base ws lv0 sv0 sb qb Zb xb xv w' lv sv L S :=
 T.next (T.step.over A) (T.step.step A) (Kp.below A)
theorem SA.alloc(T:SA w0 w B l base ws lv0 sv0 sb qb Zb xb xv wx lv sv L S)(o:Obj):SA w0 w B l base ws lv0 sv0 sb qb Zb xb xv (wx.alloc o) lv sv L S:=T.over (Xb.alloc Xl o)
theorem SA.stop(T:SA w0 w B l base ws lv0 sv0 sb qb Zb xb xv wx lv sv L S){w':World}(A:Below base wx w'){r:Option (Value×List Str×List Str)}(C:r=none):qf base ws sb B qb Zb lv0 sv0 r (.panicked [Zax]) w':=by subst C;exact qf.no (T.below.trans A)
theorem SA.done(T:SA w0 w B l base ws lv0 sv0 sb qb Zb xb xv wx lv sv L S){v:Value}{r:Option (Value×List Str×List Str)}(A:r=some (v,L,S)):qf base ws sb B qb Zb lv0 sv0 r (.returned v) wx:=by subst A;exact qf.ok T.below T.step T.kp
theorem SA.put(T:SA w0 w B l base ws lv0 sv0 sb qb Zb xb xv wx lv sv L S)(k:Str):Calls Tryz.prog 136 #[.pointer (some ⟨sb,0,none⟩),.string k] wx (qf base wx sb B qb Zb lv sv ((ZK S k).map fun A=>(.tuple #[],L,A))):=qd1 base wx sb B qb Zb lv sv L S T.step k
theorem SA.pop(T:SA w0 w B l base ws lv0 sv0 sb qb Zb xb xv wx lv sv L S):Calls Tryz.prog 138 #[.pointer (some ⟨sb,0,none⟩)] wx (qf base wx sb B qb Zb lv sv ((zI S).map fun p=>(.string p.1,L,p.2))):=qcB base wx sb B qb Zb lv sv L S T.step
theorem SA.knows(T:SA w0 w B l base ws lv0 sv0 sb qb Zb xb xv wx lv sv L S)(t:Str)(A:t.size<=maxLen):Calls Tryz.prog 143 #[.pointer (some ⟨sb,0,none⟩),.string t] wx (qf base wx sb B qb Zb lv sv (qbG (Za l) t L S)):=Qcq w0 w B l base wx T.env sb qb Zb lv sv L S T.step t A
theorem SA.ref(T:SA w0 w B l base ws lv0 sv0 sb qb Zb xb xv wx lv sv L S)(A:Qm (Za l) S):Calls Tryz.prog 141 #[.pointer (some ⟨sb,0,none⟩)] wx (qf base wx sb B qb Zb lv sv ((zI S).bind fun p=>if Z9 (Zo p.1) then some (.string p.1,L,p.2) else none)):=Zeg w0 w B l base wx T.env sb qb Zb lv sv L S T.step A
theorem SA.take(T:SA w0 w B l base ws lv0 sv0 sb qb Zb xb xv wx lv sv L S)(F:Qm (Za l) S)(ks:List Str)(A:Value)(C:Zau wx A ks sb lv sv)(D:∀k∈ks,k.size<=maxLen)(E:ks.length<=4194304):Calls Tryz.prog 139 #[.pointer (some ⟨sb,0,none⟩),A] wx (qf base wx sb B qb Zb lv sv ((zh (Za l) ks S).map fun G=>(.tuple #[],L,G))):=zd2 w0 w B l base wx T.env sb qb Zb lv sv L S T.step F ks A C D E
theorem SA.take1(T:SA w0 w B l base ws lv0 sv0 sb qb Zb xb xv wx lv sv L S)(D:Qm (Za l) S)(k:Str)(E:k.size<=maxLen):Calls Tryz.prog 139 #[.pointer (some ⟨sb,0,none⟩),.slice (some ⟨wx.heap.size,0,none⟩) 1 1] (wx.alloc (.cells #[.string k] 9)) (qf base (wx.alloc (.cells #[.string k] 9)) sb B qb Zb lv sv ((zh (Za l) [k] S).map fun F=>(.tuple #[],L,F))) :=
 (T.alloc (.cells #[.string k] 9)).take D [k] _ ⟨Qs wx k,fun g A=>by
  injection A with A
  subst A;exact⟨by simp,T.step.fresh Xl⟩⟩ (fun x C=>by simp at C;subst C;exact E) (by simp)
theorem SA.take2(T:SA w0 w B l base ws lv0 sv0 sb qb Zb xb xv wx lv sv L S)(D:Qm (Za l) S)(k m:Str)(E:k.size<=maxLen)(F:m.size<=maxLen):Calls Tryz.prog 139 #[.pointer (some ⟨sb,0,none⟩),.slice (some ⟨wx.heap.size,0,none⟩) 2 2] (wx.alloc (.cells #[.string k,.string m] 9)) (qf base (wx.alloc (.cells #[.string k,.string m] 9)) sb B qb Zb lv sv ((zh (Za l) [k,m] S).map fun G=>(.tuple #[],L,G))) :=
 (T.alloc (.cells #[.string k,.string m] 9)).take D [k,m] _ ⟨Ze (l:=[k,m]) (World.ownsRow_lit (base:=wx.heap.size) (e:=9) (size:=1) wx #[.string k,.string m] 2 Xl (by decide) rfl),fun g A=>by
  injection A with A
  subst A;exact⟨by simp,T.step.fresh Xl⟩⟩ (fun x C=>by
   simp at C;rcases C with rfl|rfl
   ·exact E
   ·exact F) (by simp)
theorem SA.putN(T:SA w0 w B l base ws lv0 sv0 sb qb Zb xb xv wx lv sv L S)(k:Str)(A:ZK S k=none):Calls Tryz.prog 136 #[.pointer (some ⟨sb,0,none⟩),.string k] wx (qf base wx sb B qb Zb lv sv none):=by
 have h:=T.put k;rw[A]at h;exact h
theorem SA.putY(T:SA w0 w B l base ws lv0 sv0 sb qb Zb xb xv wx lv sv L S)(k:Str){A:List Str}(C:ZK S k=some A):Calls Tryz.prog 136 #[.pointer (some ⟨sb,0,none⟩),.string k] wx (qf base wx sb B qb Zb lv sv (some (.tuple #[],L,A))):=by
 have h:=T.put k;rw[C]at h;exact h
theorem SA.popN(T:SA w0 w B l base ws lv0 sv0 sb qb Zb xb xv wx lv sv L S)(A:zI S=none):Calls Tryz.prog 138 #[.pointer (some ⟨sb,0,none⟩)] wx (qf base wx sb B qb Zb lv sv none):=by
 have h:=T.pop;rw[A]at h;exact h
theorem SA.popY(T:SA w0 w B l base ws lv0 sv0 sb qb Zb xb xv wx lv sv L S){k:Str}{A:List Str}(C:zI S=some (k,A)):Calls Tryz.prog 138 #[.pointer (some ⟨sb,0,none⟩)] wx (qf base wx sb B qb Zb lv sv (some (.string k,L,A))):=by
 have h:=T.pop;rw[C]at h;exact h
theorem SA.takeON(T:SA w0 w B l base ws lv0 sv0 sb qb Zb xb xv wx lv sv L S)(A:Qm (Za l) S)(k:Str)(C:k.size<=maxLen)(g:Nat)(D:g=wx.heap.size)(E:zh (Za l) [k] S=none):Calls Tryz.prog 139 #[.pointer (some ⟨sb,0,none⟩),.slice (some ⟨g,0,none⟩) 1 1] (wx.alloc (.cells #[.string k] 9)) (qf base (wx.alloc (.cells #[.string k] 9)) sb B qb Zb lv sv none):=by
 subst D;have h:=T.take1 A k C;rw[E]at h;exact h
theorem SA.takeOY(T:SA w0 w B l base ws lv0 sv0 sb qb Zb xb xv wx lv sv L S)(C:Qm (Za l) S)(k:Str)(D:k.size<=maxLen){A:List Str}(g:Nat)(E:g=wx.heap.size)(F:zh (Za l) [k] S=some A):Calls Tryz.prog 139 #[.pointer (some ⟨sb,0,none⟩),.slice (some ⟨g,0,none⟩) 1 1] (wx.alloc (.cells #[.string k] 9)) (qf base (wx.alloc (.cells #[.string k] 9)) sb B qb Zb lv sv (some (.tuple #[],L,A))):=by
 subst E;have h:=T.take1 C k D;rw[F]at h;exact h
theorem SA.takeTN(T:SA w0 w B l base ws lv0 sv0 sb qb Zb xb xv wx lv sv L S)(A:Qm (Za l) S)(k m:Str)(C:k.size<=maxLen)(D:m.size<=maxLen)(g:Nat)(E:g=wx.heap.size)(F:zh (Za l) [k,m] S=none):Calls Tryz.prog 139 #[.pointer (some ⟨sb,0,none⟩),.slice (some ⟨g,0,none⟩) 2 2] (wx.alloc (.cells #[.string k,.string m] 9)) (qf base (wx.alloc (.cells #[.string k,.string m] 9)) sb B qb Zb lv sv none):=by
 subst E;have h:=T.take2 A k m C D;rw[F]at h;exact h
theorem SA.takeTY(T:SA w0 w B l base ws lv0 sv0 sb qb Zb xb xv wx lv sv L S)(C:Qm (Za l) S)(k m:Str)(D:k.size<=maxLen)(E:m.size<=maxLen){A:List Str}(g:Nat)(F:g=wx.heap.size)(G:zh (Za l) [k,m] S=some A):Calls Tryz.prog 139 #[.pointer (some ⟨sb,0,none⟩),.slice (some ⟨g,0,none⟩) 2 2] (wx.alloc (.cells #[.string k,.string m] 9)) (qf base (wx.alloc (.cells #[.string k,.string m] 9)) sb B qb Zb lv sv (some (.tuple #[],L,A))):=by
 subst F;have h:=T.take2 C k m D E;rw[G]at h;exact h
theorem SA.takeAN(T:SA w0 w B l base ws lv0 sv0 sb qb Zb xb xv wx lv sv L S)(F:Qm (Za l) S)(ks:List Str)(A:Value)(C:Zau wx A ks sb lv sv)(D:∀k∈ks,k.size<=maxLen)(E:ks.length<=4194304)(G:zh (Za l) ks S=none):Calls Tryz.prog 139 #[.pointer (some ⟨sb,0,none⟩),A] wx (qf base wx sb B qb Zb lv sv none):=by
 have h:=T.take F ks A C D E;rw[G]at h;exact h
theorem SA.takeAY(T:SA w0 w B l base ws lv0 sv0 sb qb Zb xb xv wx lv sv L S)(G:Qm (Za l) S)(ks:List Str)(A:Value)(C:Zau wx A ks sb lv sv)(D:∀k∈ks,k.size<=maxLen)(E:ks.length<=4194304){F:List Str}(H:zh (Za l) ks S=some F):Calls Tryz.prog 139 #[.pointer (some ⟨sb,0,none⟩),A] wx (qf base wx sb B qb Zb lv sv (some (.tuple #[],L,F))):=by
 have h:=T.take G ks A C D E;rw[H]at h;exact h
theorem SA.knowsN(T:SA w0 w B l base ws lv0 sv0 sb qb Zb xb xv wx lv sv L S)(t:Str)(A:t.size<=maxLen)(C:zd (Za l) t≠0):Calls Tryz.prog 143 #[.pointer (some ⟨sb,0,none⟩),.string t] wx (qf base wx sb B qb Zb lv sv none):=by
 have h:=T.knows t A;unfold qbG at h;rw[if_neg C]at h;exact h
theorem SA.knowsY(T:SA w0 w B l base ws lv0 sv0 sb qb Zb xb xv wx lv sv L S)(t:Str)(A:t.size<=maxLen)(C:zd (Za l) t=0):Calls Tryz.prog 143 #[.pointer (some ⟨sb,0,none⟩),.string t] wx (qf base wx sb B qb Zb lv sv (some (.tuple #[],L,S))):=by
 have h:=T.knows t A;unfold qbG at h;rw[if_pos C]at h;exact h
def zK(S:List Str):Option (Str×List Str):=(zI S).bind fun p=>if Z9 (Zo p.1) then some p else none
theorem Qdr(L S:List Str):((zI S).bind fun p=>if Z9 (Zo p.1) then some ((.string p.1:Value),L,p.2) else none)=(zK S).map fun p=>(.string p.1,L,p.2):=by
 unfold zK;cases zI S with
 |none=>rfl
 |some p =>
  obtain⟨k,A⟩:=p;simp only[Option.bind_some];split<;>rfl
theorem QbS(L S:List Str):Zcb L S=(zK S).map fun p=>(L,p.2):=by
 unfold zK Zcb;cases zI S with
 |none=>rfl
 |some p =>
  obtain⟨k,A⟩:=p;simp only[Option.bind_some];split<;>rfl
theorem SA.refN(T:SA w0 w B l base ws lv0 sv0 sb qb Zb xb xv wx lv sv L S)(A:Qm (Za l) S)(C:zK S=none):Calls Tryz.prog 141 #[.pointer (some ⟨sb,0,none⟩)] wx (qf base wx sb B qb Zb lv sv none):=by
 have h:=T.ref A;rw[Qdr,C]at h;exact h
theorem SA.refY(T:SA w0 w B l base ws lv0 sv0 sb qb Zb xb xv wx lv sv L S)(C:Qm (Za l) S){k:Str}{A:List Str}(D:zK S=some (k,A)):Calls Tryz.prog 141 #[.pointer (some ⟨sb,0,none⟩)] wx (qf base wx sb B qb Zb lv sv (some (.string k,L,A))):=by
 have h:=T.ref C;rw[Qdr,D]at h;exact h
theorem SA.cells{w0 w:World}{B:Nat}{l:List Qb}{base:Nat}{ws:World}{lv0 sv0:Value}{sb:Nat}{qb Zb:Str}{xb:Nat}{A C D E F G:Value}{wx:World}{lv sv:Value}{L S:List Str}(T:SA w0 w B l base ws lv0 sv0 sb qb Zb xb [A,C,D,E,F,G] wx lv sv L S):wx.cell? ⟨xb,0,none⟩=some A/\wx.cell? ⟨xb,1,none⟩=some C/\wx.cell? ⟨xb,2,none⟩=some D/\wx.cell? ⟨xb,3,none⟩=some E/\wx.cell? ⟨xb,4,none⟩=some F/\wx.cell? ⟨xb,5,none⟩=some G:=T.box.cells6
theorem QcU:(Zd Zaf).size<=maxLen:=by decide
theorem Qac(u:UInt8):(⟨#[u]⟩:Str).size<=maxLen:=by show 1<=maxLen;decide
set_option maxRecDepth 100000
theorem qeg(w0 w:World)(B:Nat)(l:List Qb)(base:Nat)(ws:World)(J:Env w0 w B l base ws)(sb:Nat)(qb Zb:Str)(lv sv:Value)(L S:List Str)(h:Qi base ws sb B qb Zb lv sv L S)(_hS:Qm (Za l) S)(a b:Int)(A cls C:Str)(_hty:A.size<=maxLen)(_hgi:Zb.size<=maxLen):
 Calls Tryz.prog 101 #[.pointer (some ⟨sb,0,none⟩),.agg #[.int .i64 2,.int .i64 a,.int .i64 b,.string A,.string cls,.string C]] ws (qf base ws sb B qb Zb lv sv (Qn (Zv L S A))):=by
 have E:SA w0 w B l base ws lv sv sb qb Zb ws.heap.size [.int .i64 2,.int .i64 a,.int .i64 b,.string A,.string cls,.string C] (ws.alloc (.cells #[.int .i64 2,.int .i64 a,.int .i64 b,.string A,.string cls,.string C] 24)) lv sv L S:=SA.new J h _;obtain⟨O,P,R,T,U,V⟩:=E.cells;obtain⟨X,D⟩:∃r,Qn (Zv L S A)=r:=⟨_,rfl⟩;have M:=Xh D;rw[D];clear D J h;go_enter Tryz.func101,Tryz.ntmps101;go_wp2_with (first
  |(go_at_call 136;rcases hq0:ZK S A with _|f;(with_reducible refine(E.putN A hq0).mono ?_);(rintro e d I;obtain⟨Y,rfl⟩:=I.no';exact And.intro rfl (E.stop Y (M.out.symm.trans (Qd (ZE hq0)))));(with_reducible refine(E.putY A hq0).mono ?_);rintro e d I;obtain⟨F,rfl,Z,c,G,H⟩:=I.ok';(have N:=E.next F G H);obtain⟨O,P,R,T,U,V⟩:=N.cells))
 go_end0;exact N.done (M.out.symm.trans (Zl (zD hq0)))
theorem Qeg(w0 w:World)(B:Nat)(l:List Qb)(base:Nat)(ws:World)(J:Env w0 w B l base ws)(sb:Nat)(qb Zb:Str)(lv sv:Value)(L S:List Str)(h:Qi base ws sb B qb Zb lv sv L S)(_hS:Qm (Za l) S)(a b:Int)(A cls C:Str)(_hty:A.size<=maxLen)(_hgi:Zb.size<=maxLen):
 Calls Tryz.prog 101 #[.pointer (some ⟨sb,0,none⟩),.agg #[.int .i64 3,.int .i64 a,.int .i64 b,.string A,.string cls,.string C]] ws (qf base ws sb B qb Zb lv sv (Qn (Zv L S kN))):=by
 have E:SA w0 w B l base ws lv sv sb qb Zb ws.heap.size [.int .i64 3,.int .i64 a,.int .i64 b,.string A,.string cls,.string C] (ws.alloc (.cells #[.int .i64 3,.int .i64 a,.int .i64 b,.string A,.string cls,.string C] 24)) lv sv L S:=SA.new J h _;obtain⟨O,P,R,T,U,V⟩:=E.cells;obtain⟨X,D⟩:∃r,Qn (Zv L S kN)=r:=⟨_,rfl⟩;have M:=Xh D;rw[D];unfold kN at *;clear D J h;go_enter Tryz.func101,Tryz.ntmps101;go_wp2_with (first
  |(go_at_call 136;rcases hq0:ZK S ⟨#[78]⟩ with _|f;(with_reducible refine(E.putN ⟨#[78]⟩ hq0).mono ?_);(rintro e d I;obtain⟨Y,rfl⟩:=I.no';exact And.intro rfl (E.stop Y (M.out.symm.trans (Qd (ZE hq0)))));(with_reducible refine(E.putY ⟨#[78]⟩ hq0).mono ?_);rintro e d I;obtain⟨F,rfl,Z,c,G,H⟩:=I.ok';(have N:=E.next F G H);obtain⟨O,P,R,T,U,V⟩:=N.cells))
 go_end0;exact N.done (M.out.symm.trans (Zl (zD hq0)))
theorem zeh(w0 w:World)(B:Nat)(l:List Qb)(base:Nat)(ws:World)(J:Env w0 w B l base ws)(sb:Nat)(qb Zb:Str)(lv sv:Value)(L S:List Str)(h:Qi base ws sb B qb Zb lv sv L S)(_hS:Qm (Za l) S)(a b:Int)(A cls C:Str)(_hty:A.size<=maxLen)(_hgi:Zb.size<=maxLen):
 Calls Tryz.prog 101 #[.pointer (some ⟨sb,0,none⟩),.agg #[.int .i64 6,.int .i64 a,.int .i64 b,.string A,.string cls,.string C]] ws (qf base ws sb B qb Zb lv sv (Qn ((zI S).map fun p=>(L,p.2)))):=by
 have E:SA w0 w B l base ws lv sv sb qb Zb ws.heap.size [.int .i64 6,.int .i64 a,.int .i64 b,.string A,.string cls,.string C] (ws.alloc (.cells #[.int .i64 6,.int .i64 a,.int .i64 b,.string A,.string cls,.string C] 24)) lv sv L S:=SA.new J h _;obtain⟨O,P,R,T,U,V⟩:=E.cells;obtain⟨X,D⟩:∃r,Qn ((zI S).map fun p=>(L,p.2))=r:=⟨_,rfl⟩;have M:=Xh D;rw[D];clear D J h;go_enter Tryz.func101,Tryz.ntmps101;go_wp2_with (first
  |(go_at_call 138;rcases hq0:zI S with _|⟨f,g⟩;(with_reducible refine(E.popN hq0).mono ?_);(rintro e d I;obtain⟨Y,rfl⟩:=I.no';exact And.intro rfl (E.stop Y (M.out.symm.trans (Qd (zaH hq0)))));(with_reducible refine(E.popY hq0).mono ?_);rintro e d I;obtain⟨F,rfl,Z,c,G,H⟩:=I.ok';(have N:=E.next F G H);obtain⟨O,P,R,T,U,V⟩:=N.cells))
 go_end0;exact N.done (M.out.symm.trans (Zl (Z6 hq0)))
theorem Zeh(w0 w:World)(B:Nat)(l:List Qb)(base:Nat)(ws:World)(k:Env w0 w B l base ws)(sb:Nat)(qb Zb:Str)(lv sv:Value)(L S:List Str)(h:Qi base ws sb B qb Zb lv sv L S)(_hS:Qm (Za l) S)(a b:Int)(A cls C:Str)(_hty:A.size<=maxLen)(_hgi:Zb.size<=maxLen):
 Calls Tryz.prog 101 #[.pointer (some ⟨sb,0,none⟩),.agg #[.int .i64 7,.int .i64 a,.int .i64 b,.string A,.string cls,.string C]] ws (qf base ws sb B qb Zb lv sv (Qn ((zI S).bind fun p=>(ZK p.2 p.1).bind fun M=>Zv L M p.1))):=by
 have G:SA w0 w B l base ws lv sv sb qb Zb ws.heap.size [.int .i64 7,.int .i64 a,.int .i64 b,.string A,.string cls,.string C] (ws.alloc (.cells #[.int .i64 7,.int .i64 a,.int .i64 b,.string A,.string cls,.string C] 24)) lv sv L S:=SA.new k h _;obtain⟨O,P,R,T,U,V⟩:=G.cells;obtain⟨n,D⟩:∃r,Qn ((zI S).bind fun p=>(ZK p.2 p.1).bind fun M=>Zv L M p.1)=r:=⟨_,rfl⟩;have N:=Xh D;rw[D];clear D k h;go_enter Tryz.func101,Tryz.ntmps101;go_wp2_with (first
  |(go_at_call 138;rcases hq0:zI S with _|⟨F,M⟩;(with_reducible refine(G.popN hq0).mono ?_);(rintro e y E;obtain⟨J,rfl⟩:=E.no';exact And.intro rfl (G.stop J (N.out.symm.trans (Qd (qu hq0)))));(with_reducible refine(G.popY hq0).mono ?_);rintro e y E;obtain⟨X,rfl,o,q,Y,Z⟩:=E.ok';(have H:=G.next X Y Z);obtain⟨O,P,R,T,U,V⟩:=H.cells)
  |(go_at_call 136;rcases hq1:ZK M F with _|S2;(with_reducible refine(H.putN F hq1).mono ?_);(rintro e z E;obtain⟨J,rfl⟩:=E.no';exact And.intro rfl (H.stop J (N.out.symm.trans (Qd ((Qe hq0).trans (qu hq1))))));(with_reducible refine(H.putY F hq1).mono ?_);rintro e z E;obtain⟨c,rfl,s,t,d,f⟩:=E.ok';(have I:=H.next c d f);obtain⟨O,P,R,T,U,V⟩:=I.cells)
  |(go_at_call 136;rcases hq2:ZK S2 F with _|S3;(with_reducible refine(I.putN F hq2).mono ?_);(rintro e w3 E;obtain⟨J,rfl⟩:=E.no';exact And.intro rfl (I.stop J (N.out.symm.trans (Qd ((Qe hq0).trans ((Qe hq1).trans (ZE hq2)))))));(with_reducible refine(I.putY F hq2).mono ?_);rintro e w3 E;obtain⟨g,rfl,v,x,i,j⟩:=E.ok';(have m:=I.next g i j);obtain⟨O,P,R,T,U,V⟩:=m.cells))
 go_end0;exact m.done (N.out.symm.trans (Zl ((Qe hq0).trans ((Qe hq1).trans (zD hq2)))))
theorem qeh(w0 w:World)(B:Nat)(l:List Qb)(base:Nat)(ws:World)(t:Env w0 w B l base ws)(sb:Nat)(qb Zb:Str)(lv sv:Value)(L S:List Str)(h:Qi base ws sb B qb Zb lv sv L S)(_hS:Qm (Za l) S)(a b:Int)(C cls D:Str)(_hty:C.size<=maxLen)(_hgi:Zb.size<=maxLen):
 Calls Tryz.prog 101 #[.pointer (some ⟨sb,0,none⟩),.agg #[.int .i64 8,.int .i64 a,.int .i64 b,.string C,.string cls,.string D]] ws (qf base ws sb B qb Zb lv sv (Qn ((zI S).bind fun p=>(zI p.2).bind fun q=>(ZK q.2 p.1).bind fun N=>Zv L N q.1))):=by
 have G:SA w0 w B l base ws lv sv sb qb Zb ws.heap.size [.int .i64 8,.int .i64 a,.int .i64 b,.string C,.string cls,.string D] (ws.alloc (.cells #[.int .i64 8,.int .i64 a,.int .i64 b,.string C,.string cls,.string D] 24)) lv sv L S:=SA.new t h _;obtain⟨O,P,R,T,U,V⟩:=G.cells;obtain⟨x,E⟩:∃r,Qn ((zI S).bind fun p=>(zI p.2).bind fun q=>(ZK q.2 p.1).bind fun N=>Zv L N q.1)=r:=⟨_,rfl⟩;have H:=Xh E;rw[E];clear E t h;go_enter Tryz.func101,Tryz.ntmps101;go_wp2_with (first
  |(go_at_call 138;rcases hq0:zI S with _|⟨o,N⟩;(with_reducible refine(G.popN hq0).mono ?_);(rintro e w1 A;obtain⟨F,rfl⟩:=A.no';exact And.intro rfl (G.stop F (H.out.symm.trans (Qd (qu hq0)))));(with_reducible refine(G.popY hq0).mono ?_);rintro e w1 A;obtain⟨X,rfl,y,z,Y,Z⟩:=A.ok';(have I:=G.next X Y Z);obtain⟨O,P,R,T,U,V⟩:=I.cells)
  |(go_at_call 138;rcases hq1:zI N with _|⟨s,S2⟩;(with_reducible refine(I.popN hq1).mono ?_);(rintro e w2 A;obtain⟨F,rfl⟩:=A.no';exact And.intro rfl (I.stop F (H.out.symm.trans (Qd ((Qe hq0).trans (qu hq1))))));(with_reducible refine(I.popY hq1).mono ?_);rintro e w2 A;obtain⟨c,rfl,aA,aB,d,f⟩:=A.ok';(have J:=I.next c d f);obtain⟨O,P,R,T,U,V⟩:=J.cells)
  |(go_at_call 136;rcases hq2:ZK S2 o with _|S3;(with_reducible refine(J.putN o hq2).mono ?_);(rintro e w3 A;obtain⟨F,rfl⟩:=A.no';exact And.intro rfl (J.stop F (H.out.symm.trans (Qd ((Qe hq0).trans ((Qe hq1).trans (qu hq2)))))));(with_reducible refine(J.putY o hq2).mono ?_);rintro e w3 A;obtain⟨g,rfl,aC,aD,i,j⟩:=A.ok';(have M:=J.next g i j);obtain⟨O,P,R,T,U,V⟩:=M.cells)
  |(go_at_call 136;rcases hq3:ZK S3 s with _|S4;(with_reducible refine(M.putN s hq3).mono ?_);(rintro e w4 A;obtain⟨F,rfl⟩:=A.no';exact And.intro rfl (M.stop F (H.out.symm.trans (Qd ((Qe hq0).trans ((Qe hq1).trans ((Qe hq2).trans (ZE hq3))))))));(with_reducible refine(M.putY s hq3).mono ?_);rintro e w4 A;obtain⟨k,rfl,aE,aF,m,n⟩:=A.ok';(have v:=M.next k m n);obtain⟨O,P,R,T,U,V⟩:=v.cells))
 go_end0;exact v.done (H.out.symm.trans (Zl ((Qe hq0).trans ((Qe hq1).trans ((Qe hq2).trans (zD hq3))))))
theorem Zd2(w0 w:World)(B:Nat)(l:List Qb)(base:Nat)(ws:World)(X:Env w0 w B l base ws)(sb:Nat)(qb Zb:Str)(lv sv:Value)(L S:List Str)(h:Qi base ws sb B qb Zb lv sv L S)(J:Qm (Za l) S)(a b:Int)(A cls C:Str)(_hty:A.size<=maxLen)(_hgi:Zb.size<=maxLen):
 Calls Tryz.prog 101 #[.pointer (some ⟨sb,0,none⟩),.agg #[.int .i64 11,.int .i64 a,.int .i64 b,.string A,.string cls,.string C]] ws (qf base ws sb B qb Zb lv sv (Qn ((zh (Za l) [kJ,kJ] S).bind fun H=>Zv L H kI))):=by
 have I:SA w0 w B l base ws lv sv sb qb Zb ws.heap.size [.int .i64 11,.int .i64 a,.int .i64 b,.string A,.string cls,.string C] (ws.alloc (.cells #[.int .i64 11,.int .i64 a,.int .i64 b,.string A,.string cls,.string C] 24)) lv sv L S:=SA.new X h _;obtain⟨Z,c,d,f,g,i⟩:=I.cells;obtain⟨k,D⟩:∃r,Qn ((zh (Za l) [kJ,kJ] S).bind fun H=>Zv L H kI)=r:=⟨_,rfl⟩;have M:=Xh D;rw[D];unfold kJ kI at *;clear D X h;go_enter Tryz.func101,Tryz.ntmps101;go_wp2_with (first
  |(go_at_call 139;have F:=I.alloc (.cells #[.string ⟨#[74]⟩,.string ⟨#[74]⟩] 9);rcases hq0:zh (Za l) [⟨#[74]⟩,⟨#[74]⟩] S with _|H;(with_reducible refine(I.takeTN J ⟨#[74]⟩ ⟨#[74]⟩ (Qac _) (Qac _) _ (by simp) hq0).mono ?_);(rintro e q E;obtain⟨N,rfl⟩:=E.no';exact And.intro rfl (F.stop N (M.out.symm.trans (Qd (qu hq0)))));(with_reducible refine(I.takeTY J ⟨#[74]⟩ ⟨#[74]⟩ (Qac _) (Qac _) _ (by simp) hq0).mono ?_);rintro e q E;obtain⟨O,rfl,m,n,P,R⟩:=E.ok';(have G:=F.next O P R);(have j:=Qj hq0 J);obtain⟨Z,c,d,f,g,i⟩:=G.cells)
  |(go_at_call 136;rcases hq1:ZK H ⟨#[73]⟩ with _|t;(with_reducible refine(G.putN ⟨#[73]⟩ hq1).mono ?_);(rintro e s E;obtain⟨N,rfl⟩:=E.no';exact And.intro rfl (G.stop N (M.out.symm.trans (Qd ((Qe hq0).trans (ZE hq1))))));(with_reducible refine(G.putY ⟨#[73]⟩ hq1).mono ?_);rintro e s E;obtain⟨T,rfl,o,p,U,V⟩:=E.ok';(have Y:=G.next T U V);obtain⟨Z,c,d,f,g,i⟩:=Y.cells))
 go_end0;exact Y.done (M.out.symm.trans (Zl ((Qe hq0).trans (zD hq1))))
theorem qd2(w0 w:World)(B:Nat)(l:List Qb)(base:Nat)(ws:World)(O:Env w0 w B l base ws)(sb:Nat)(qb Zb:Str)(lv sv:Value)(L S:List Str)(h:Qi base ws sb B qb Zb lv sv L S)(H:Qm (Za l) S)(a b:Int)(A cls C:Str)(_hty:A.size<=maxLen)(_hgi:Zb.size<=maxLen):
 Calls Tryz.prog 101 #[.pointer (some ⟨sb,0,none⟩),.agg #[.int .i64 12,.int .i64 a,.int .i64 b,.string A,.string cls,.string C]] ws (qf base ws sb B qb Zb lv sv (Qn ((zh (Za l) [kI] S).map fun G=>(L,G)))):=by
 have F:SA w0 w B l base ws lv sv sb qb Zb ws.heap.size [.int .i64 12,.int .i64 a,.int .i64 b,.string A,.string cls,.string C] (ws.alloc (.cells #[.int .i64 12,.int .i64 a,.int .i64 b,.string A,.string cls,.string C] 24)) lv sv L S:=SA.new O h _;obtain⟨U,V,X,Y,Z,c⟩:=F.cells;obtain⟨d,D⟩:∃r,Qn ((zh (Za l) [kI] S).map fun G=>(L,G))=r:=⟨_,rfl⟩;have P:=Xh D;rw[D];unfold kI at *;clear D O h;go_enter Tryz.func101,Tryz.ntmps101;go_wp2_with (first
  |(go_at_call 139;have E:=F.alloc (.cells #[.string ⟨#[73]⟩] 9);rcases hq0:zh (Za l) [⟨#[73]⟩] S with _|G;(with_reducible refine(F.takeON H ⟨#[73]⟩ (Qac _) _ (by simp) hq0).mono ?_);(rintro e j N;obtain⟨f,rfl⟩:=N.no';exact And.intro rfl (E.stop f (P.out.symm.trans (Qd (zaH hq0)))));(with_reducible refine(F.takeOY H ⟨#[73]⟩ (Qac _) _ (by simp) hq0).mono ?_);rintro e j N;obtain⟨I,rfl,g,i,J,M⟩:=N.ok';(have R:=E.next I J M);(have T:=Qj hq0 H);obtain⟨U,V,X,Y,Z,c⟩:=R.cells))
 go_end0;exact R.done (P.out.symm.trans (Zl (Z6 hq0)))
theorem Qd2(w0 w:World)(B:Nat)(l:List Qb)(base:Nat)(ws:World)(J:Env w0 w B l base ws)(sb:Nat)(qb Zb:Str)(lv sv:Value)(L S:List Str)(h:Qi base ws sb B qb Zb lv sv L S)(M:Qm (Za l) S)(a b:Int)(A cls C:Str)(_hty:A.size<=maxLen)(_hgi:Zb.size<=maxLen):
 Calls Tryz.prog 101 #[.pointer (some ⟨sb,0,none⟩),.agg #[.int .i64 13,.int .i64 a,.int .i64 b,.string A,.string cls,.string C]] ws (qf base ws sb B qb Zb lv sv (Qn (Zcb L S))):=by
 have E:SA w0 w B l base ws lv sv sb qb Zb ws.heap.size [.int .i64 13,.int .i64 a,.int .i64 b,.string A,.string cls,.string C] (ws.alloc (.cells #[.int .i64 13,.int .i64 a,.int .i64 b,.string A,.string cls,.string C] 24)) lv sv L S:=SA.new J h _;obtain⟨P,R,T,U,V,X⟩:=E.cells;obtain⟨Y,D⟩:∃r,Qn (Zcb L S)=r:=⟨_,rfl⟩;have N:=Xh D;rw[D];clear D J h;go_enter Tryz.func101,Tryz.ntmps101;go_wp2_with (first
  |(go_at_call 141;rcases hq0:zK S with _|⟨g,i⟩;(with_reducible refine(E.refN M hq0).mono ?_);(rintro e f I;obtain⟨Z,rfl⟩:=I.no';exact And.intro rfl (E.stop Z (N.out.symm.trans (Qd ((QbS _ _).trans (zaH hq0))))));(with_reducible refine(E.refY M hq0).mono ?_);rintro e f I;obtain⟨F,rfl,c,d,G,H⟩:=I.ok';(have O:=E.next F G H);obtain⟨P,R,T,U,V,X⟩:=O.cells))
 go_end0;exact O.done (N.out.symm.trans (Zl ((QbS _ _).trans (Z6 hq0))))
theorem zd3(w0 w:World)(B:Nat)(l:List Qb)(base:Nat)(ws:World)(Y:Env w0 w B l base ws)(sb:Nat)(qb Zb:Str)(lv sv:Value)(L S:List Str)(h:Qi base ws sb B qb Zb lv sv L S)(M:Qm (Za l) S)(b:Int)(A cls C:Str)(F:A.size<=maxLen)(_hgi:Zb.size<=maxLen):
 Calls Tryz.prog 101 #[.pointer (some ⟨sb,0,none⟩),.agg #[.int .i64 9,.int .i64 12,.int .i64 b,.string A,.string cls,.string C]] ws (qf base ws sb B qb Zb lv sv (Qn ((zh (Za l) [A] S).bind fun J=>Zv L J A))):=by
 have I:SA w0 w B l base ws lv sv sb qb Zb ws.heap.size [.int .i64 9,.int .i64 12,.int .i64 b,.string A,.string cls,.string C] (ws.alloc (.cells #[.int .i64 9,.int .i64 12,.int .i64 b,.string A,.string cls,.string C] 24)) lv sv L S:=SA.new Y h _;obtain⟨a,c,d,f,g,i⟩:=I.cells;obtain⟨k,D⟩:∃r,Qn ((zh (Za l) [A] S).bind fun J=>Zv L J A)=r:=⟨_,rfl⟩;have N:=Xh D;rw[D];clear D Y h;go_enter Tryz.func101,Tryz.ntmps101;go_wp2_with (first
  |(go_at_call 139;have G:=I.alloc (.cells #[.string A] 9);rcases hq0:zh (Za l) [A] S with _|t;(with_reducible refine(I.takeON M A F _ (by simp) hq0).mono ?_);(rintro e q E;obtain⟨O,rfl⟩:=E.no';exact And.intro rfl (G.stop O (N.out.symm.trans (Qd (qu hq0)))));(with_reducible refine(I.takeOY M A F _ (by simp) hq0).mono ?_);rintro e q E;obtain⟨P,rfl,m,n,R,T⟩:=E.ok';(have H:=G.next P R T);(have j:=Qj hq0 M);obtain⟨a,c,d,f,g,i⟩:=H.cells)
  |(go_at_call 136;rcases hq1:ZK t A with _|J;(with_reducible refine(H.putN A hq1).mono ?_);(rintro e s E;obtain⟨O,rfl⟩:=E.no';exact And.intro rfl (H.stop O (N.out.symm.trans (Qd ((Qe hq0).trans (ZE hq1))))));(with_reducible refine(H.putY A hq1).mono ?_);rintro e s E;obtain⟨U,rfl,o,p,V,X⟩:=E.ok';(have Z:=H.next U V X);obtain⟨a,c,d,f,g,i⟩:=Z.cells))
 go_end0;exact Z.done (N.out.symm.trans (Zl ((Qe hq0).trans (zD hq1))))
theorem zdG(w0 w:World)(B:Nat)(l:List Qb)(base:Nat)(ws:World)(p:Env w0 w B l base ws)(sb:Nat)(qb Zb:Str)(lv sv:Value)(L S:List Str)(h:Qi base ws sb B qb Zb lv sv L S)(U:Qm (Za l) S)(b:Int)(A cls C:Str)(G:A.size<=maxLen)(_hgi:Zb.size<=maxLen):
 Calls Tryz.prog 101 #[.pointer (some ⟨sb,0,none⟩),.agg #[.int .i64 9,.int .i64 9,.int .i64 b,.string A,.string cls,.string C]] ws (qf base ws sb B qb Zb lv sv (Qn ((zh (Za l) [kI] S).bind fun N=>(zh (Za l) [A] N).bind fun O=>Zv L O A))):=by
 have P:SA w0 w B l base ws lv sv sb qb Zb ws.heap.size [.int .i64 9,.int .i64 9,.int .i64 b,.string A,.string cls,.string C] (ws.alloc (.cells #[.int .i64 9,.int .i64 9,.int .i64 b,.string A,.string cls,.string C] 24)) lv sv L S:=SA.new p h _;obtain⟨V,X,Y,Z,a,c⟩:=P.cells;obtain⟨t,D⟩:∃r,Qn ((zh (Za l) [kI] S).bind fun N=>(zh (Za l) [A] N).bind fun O=>Zv L O A)=r:=⟨_,rfl⟩;have R:=Xh D;rw[D];unfold kI at *;clear D p h;go_enter Tryz.func101,Tryz.ntmps101;go_wp2_with (first
  |(go_at_call 139;have H:=P.alloc (.cells #[.string ⟨#[73]⟩] 9);rcases hq0:zh (Za l) [⟨#[73]⟩] S with _|N;(with_reducible refine(P.takeON U ⟨#[73]⟩ (Qac _) _ (by simp) hq0).mono ?_);(rintro e w1 E;obtain⟨M,rfl⟩:=E.no';exact And.intro rfl (H.stop M (R.out.symm.trans (Qd (qu hq0)))));(with_reducible refine(P.takeOY U ⟨#[73]⟩ (Qac _) _ (by simp) hq0).mono ?_);rintro e w1 E;obtain⟨d,rfl,v,x,f,g⟩:=E.ok';(have T:=H.next d f g);(have F:=Qj hq0 U);obtain⟨V,X,Y,Z,a,c⟩:=T.cells)
  |(go_at_call 139;have I:=T.alloc (.cells #[.string A] 9);rcases hq1:zh (Za l) [A] N with _|O;(with_reducible refine(T.takeON F A G _ (by simp) hq1).mono ?_);(rintro e w2 E;obtain⟨M,rfl⟩:=E.no';exact And.intro rfl (I.stop M (R.out.symm.trans (Qd ((Qe hq0).trans (qu hq1))))));(with_reducible refine(T.takeOY F A G _ (by simp) hq1).mono ?_);rintro e w2 E;obtain⟨i,rfl,y,z,j,k⟩:=E.ok';(have J:=I.next i j k);(have s:=Qj hq1 F);obtain⟨V,X,Y,Z,a,c⟩:=J.cells)
  |(go_at_call 136;rcases hq2:ZK O A with _|S3;(with_reducible refine(J.putN A hq2).mono ?_);(rintro e w3 E;obtain⟨M,rfl⟩:=E.no';exact And.intro rfl (J.stop M (R.out.symm.trans (Qd ((Qe hq0).trans ((Qe hq1).trans (ZE hq2)))))));(with_reducible refine(J.putY A hq2).mono ?_);rintro e w3 E;obtain⟨m,rfl,aA,aB,n,o⟩:=E.ok';(have q:=J.next m n o);obtain⟨V,X,Y,Z,a,c⟩:=q.cells))
 go_end0;exact q.done (R.out.symm.trans (Zl ((Qe hq0).trans ((Qe hq1).trans (zD hq2)))))
theorem qde(w0 w:World)(B:Nat)(l:List Qb)(base:Nat)(ws:World)(p:Env w0 w B l base ws)(sb:Nat)(qb Zb:Str)(lv sv:Value)(L S:List Str)(h:Qi base ws sb B qb Zb lv sv L S)(U:Qm (Za l) S)(b:Int)(A cls C:Str)(G:A.size<=maxLen)(_hgi:Zb.size<=maxLen):
 Calls Tryz.prog 101 #[.pointer (some ⟨sb,0,none⟩),.agg #[.int .i64 9,.int .i64 10,.int .i64 b,.string A,.string cls,.string C]] ws (qf base ws sb B qb Zb lv sv (Qn ((zh (Za l) [kI] S).bind fun N=>(zh (Za l) [A] N).bind fun O=>Zv L O A))):=by
 have P:SA w0 w B l base ws lv sv sb qb Zb ws.heap.size [.int .i64 9,.int .i64 10,.int .i64 b,.string A,.string cls,.string C] (ws.alloc (.cells #[.int .i64 9,.int .i64 10,.int .i64 b,.string A,.string cls,.string C] 24)) lv sv L S:=SA.new p h _;obtain⟨V,X,Y,Z,a,c⟩:=P.cells;obtain⟨t,D⟩:∃r,Qn ((zh (Za l) [kI] S).bind fun N=>(zh (Za l) [A] N).bind fun O=>Zv L O A)=r:=⟨_,rfl⟩;have R:=Xh D;rw[D];unfold kI at *;clear D p h;go_enter Tryz.func101,Tryz.ntmps101;go_wp2_with (first
  |(go_at_call 139;have H:=P.alloc (.cells #[.string ⟨#[73]⟩] 9);rcases hq0:zh (Za l) [⟨#[73]⟩] S with _|N;(with_reducible refine(P.takeON U ⟨#[73]⟩ (Qac _) _ (by simp) hq0).mono ?_);(rintro e w1 E;obtain⟨M,rfl⟩:=E.no';exact And.intro rfl (H.stop M (R.out.symm.trans (Qd (qu hq0)))));(with_reducible refine(P.takeOY U ⟨#[73]⟩ (Qac _) _ (by simp) hq0).mono ?_);rintro e w1 E;obtain⟨d,rfl,v,x,f,g⟩:=E.ok';(have T:=H.next d f g);(have F:=Qj hq0 U);obtain⟨V,X,Y,Z,a,c⟩:=T.cells)
  |(go_at_call 139;have I:=T.alloc (.cells #[.string A] 9);rcases hq1:zh (Za l) [A] N with _|O;(with_reducible refine(T.takeON F A G _ (by simp) hq1).mono ?_);(rintro e w2 E;obtain⟨M,rfl⟩:=E.no';exact And.intro rfl (I.stop M (R.out.symm.trans (Qd ((Qe hq0).trans (qu hq1))))));(with_reducible refine(T.takeOY F A G _ (by simp) hq1).mono ?_);rintro e w2 E;obtain⟨i,rfl,y,z,j,k⟩:=E.ok';(have J:=I.next i j k);(have s:=Qj hq1 F);obtain⟨V,X,Y,Z,a,c⟩:=J.cells)
  |(go_at_call 136;rcases hq2:ZK O A with _|S3;(with_reducible refine(J.putN A hq2).mono ?_);(rintro e w3 E;obtain⟨M,rfl⟩:=E.no';exact And.intro rfl (J.stop M (R.out.symm.trans (Qd ((Qe hq0).trans ((Qe hq1).trans (ZE hq2)))))));(with_reducible refine(J.putY A hq2).mono ?_);rintro e w3 E;obtain⟨m,rfl,aA,aB,n,o⟩:=E.ok';(have q:=J.next m n o);obtain⟨V,X,Y,Z,a,c⟩:=q.cells))
 go_end0;exact q.done (R.out.symm.trans (Zl ((Qe hq0).trans ((Qe hq1).trans (zD hq2)))))
theorem Qde(w0 w:World)(B:Nat)(l:List Qb)(base:Nat)(ws:World)(p:Env w0 w B l base ws)(sb:Nat)(qb Zb:Str)(lv sv:Value)(L S:List Str)(h:Qi base ws sb B qb Zb lv sv L S)(U:Qm (Za l) S)(b:Int)(A cls C:Str)(G:A.size<=maxLen)(_hgi:Zb.size<=maxLen):
 Calls Tryz.prog 101 #[.pointer (some ⟨sb,0,none⟩),.agg #[.int .i64 9,.int .i64 11,.int .i64 b,.string A,.string cls,.string C]] ws (qf base ws sb B qb Zb lv sv (Qn ((zh (Za l) [kI] S).bind fun N=>(zh (Za l) [A] N).bind fun O=>Zv L O A))):=by
 have P:SA w0 w B l base ws lv sv sb qb Zb ws.heap.size [.int .i64 9,.int .i64 11,.int .i64 b,.string A,.string cls,.string C] (ws.alloc (.cells #[.int .i64 9,.int .i64 11,.int .i64 b,.string A,.string cls,.string C] 24)) lv sv L S:=SA.new p h _;obtain⟨V,X,Y,Z,a,c⟩:=P.cells;obtain⟨t,D⟩:∃r,Qn ((zh (Za l) [kI] S).bind fun N=>(zh (Za l) [A] N).bind fun O=>Zv L O A)=r:=⟨_,rfl⟩;have R:=Xh D;rw[D];unfold kI at *;clear D p h;go_enter Tryz.func101,Tryz.ntmps101;go_wp2_with (first
  |(go_at_call 139;have H:=P.alloc (.cells #[.string ⟨#[73]⟩] 9);rcases hq0:zh (Za l) [⟨#[73]⟩] S with _|N;(with_reducible refine(P.takeON U ⟨#[73]⟩ (Qac _) _ (by simp) hq0).mono ?_);(rintro e w1 E;obtain⟨M,rfl⟩:=E.no';exact And.intro rfl (H.stop M (R.out.symm.trans (Qd (qu hq0)))));(with_reducible refine(P.takeOY U ⟨#[73]⟩ (Qac _) _ (by simp) hq0).mono ?_);rintro e w1 E;obtain⟨d,rfl,v,x,f,g⟩:=E.ok';(have T:=H.next d f g);(have F:=Qj hq0 U);obtain⟨V,X,Y,Z,a,c⟩:=T.cells)
  |(go_at_call 139;have I:=T.alloc (.cells #[.string A] 9);rcases hq1:zh (Za l) [A] N with _|O;(with_reducible refine(T.takeON F A G _ (by simp) hq1).mono ?_);(rintro e w2 E;obtain⟨M,rfl⟩:=E.no';exact And.intro rfl (I.stop M (R.out.symm.trans (Qd ((Qe hq0).trans (qu hq1))))));(with_reducible refine(T.takeOY F A G _ (by simp) hq1).mono ?_);rintro e w2 E;obtain⟨i,rfl,y,z,j,k⟩:=E.ok';(have J:=I.next i j k);(have s:=Qj hq1 F);obtain⟨V,X,Y,Z,a,c⟩:=J.cells)
  |(go_at_call 136;rcases hq2:ZK O A with _|S3;(with_reducible refine(J.putN A hq2).mono ?_);(rintro e w3 E;obtain⟨M,rfl⟩:=E.no';exact And.intro rfl (J.stop M (R.out.symm.trans (Qd ((Qe hq0).trans ((Qe hq1).trans (ZE hq2)))))));(with_reducible refine(J.putY A hq2).mono ?_);rintro e w3 E;obtain⟨m,rfl,aA,aB,n,o⟩:=E.ok';(have q:=J.next m n o);obtain⟨V,X,Y,Z,a,c⟩:=q.cells))
 go_end0;exact q.done (R.out.symm.trans (Zl ((Qe hq0).trans ((Qe hq1).trans (zD hq2)))))
theorem Zd3(w0 w:World)(B:Nat)(l:List Qb)(base:Nat)(ws:World)(q:Env w0 w B l base ws)(sb:Nat)(qb Zb:Str)(lv sv:Value)(L S:List Str)(h:Qi base ws sb B qb Zb lv sv L S)(U:Qm (Za l) S)(a b:Int)(A cls C:Str)(F:A.size<=maxLen)(_hgi:Zb.size<=maxLen)(t:(a==12)=false)(h9:(a==9)=false)(v:(a==10)=false)(x:(a==11)=false):
 Calls Tryz.prog 101 #[.pointer (some ⟨sb,0,none⟩),.agg #[.int .i64 9,.int .i64 a,.int .i64 b,.string A,.string cls,.string C]] ws (qf base ws sb B qb Zb lv sv (Qn ((zh (Za l) [A] S).bind fun N=>(zh (Za l) [A] N).bind fun O=>Zv L O A))):=by
 have P:SA w0 w B l base ws lv sv sb qb Zb ws.heap.size [.int .i64 9,.int .i64 a,.int .i64 b,.string A,.string cls,.string C] (ws.alloc (.cells #[.int .i64 9,.int .i64 a,.int .i64 b,.string A,.string cls,.string C] 24)) lv sv L S:=SA.new q h _;obtain⟨V,X,Y,Z,c,d⟩:=P.cells;obtain⟨z,D⟩:∃r,Qn ((zh (Za l) [A] S).bind fun N=>(zh (Za l) [A] N).bind fun O=>Zv L O A)=r:=⟨_,rfl⟩;have R:=Xh D;rw[D];clear D q h;go_enter Tryz.func101,Tryz.ntmps101;go_wp2_with (first
  |(go_at_call 139;have H:=P.alloc (.cells #[.string A] 9);rcases hq0:zh (Za l) [A] S with _|N;(with_reducible refine(P.takeON U A F _ (by simp) hq0).mono ?_);(rintro e w1 E;obtain⟨M,rfl⟩:=E.no';exact And.intro rfl (H.stop M (R.out.symm.trans (Qd (qu hq0)))));(with_reducible refine(P.takeOY U A F _ (by simp) hq0).mono ?_);rintro e w1 E;obtain⟨f,rfl,aA,aB,g,i⟩:=E.ok';(have T:=H.next f g i);(have G:=Qj hq0 U);obtain⟨V,X,Y,Z,c,d⟩:=T.cells)
  |(go_at_call 139;have I:=T.alloc (.cells #[.string A] 9);rcases hq1:zh (Za l) [A] N with _|O;(with_reducible refine(T.takeON G A F _ (by simp) hq1).mono ?_);(rintro e w2 E;obtain⟨M,rfl⟩:=E.no';exact And.intro rfl (I.stop M (R.out.symm.trans (Qd ((Qe hq0).trans (qu hq1))))));(with_reducible refine(T.takeOY G A F _ (by simp) hq1).mono ?_);rintro e w2 E;obtain⟨j,rfl,aC,aD,k,m⟩:=E.ok';(have J:=I.next j k m);(have y:=Qj hq1 G);obtain⟨V,X,Y,Z,c,d⟩:=J.cells)
  |(go_at_call 136;rcases hq2:ZK O A with _|S3;(with_reducible refine(J.putN A hq2).mono ?_);(rintro e w3 E;obtain⟨M,rfl⟩:=E.no';exact And.intro rfl (J.stop M (R.out.symm.trans (Qd ((Qe hq0).trans ((Qe hq1).trans (ZE hq2)))))));(with_reducible refine(J.putY A hq2).mono ?_);rintro e w3 E;obtain⟨n,rfl,aE,aF,o,p⟩:=E.ok';(have s:=J.next n o p);obtain⟨V,X,Y,Z,c,d⟩:=s.cells))
 go_end0;exact s.done (R.out.symm.trans (Zl ((Qe hq0).trans ((Qe hq1).trans (zD hq2)))))
set_option maxRecDepth 512
theorem ZdG(t:Str)(w:World):Calls Tryz.prog 140 #[.string t] w fun e w'=>e=.returned (.string (zaf t))/\w=w':=by
 unfold zaf;cases A:(t.toList==[73]) with
 |true =>
  rw[if_pos rfl];go_enter Tryz.func140,Tryz.ntmps140;go_wp2
  go_ret;exact⟨rfl,rfl⟩
 |false =>
  rw[if_neg (by decide)];go_enter Tryz.func140,Tryz.ntmps140;go_wp2
  go_ret;exact⟨rfl,rfl⟩
theorem zcV(t:Str):(zaf t).size<=maxLen:=by
 unfold zaf;split<;>exact Qac _
set_option maxRecDepth 100000
theorem qd3(w0 w:World)(B:Nat)(l:List Qb)(base:Nat)(ws:World)(X:Env w0 w B l base ws)(sb:Nat)(qb Zb:Str)(lv sv:Value)(L S:List Str)(h:Qi base ws sb B qb Zb lv sv L S)(J:Qm (Za l) S)(a b:Int)(A cls C:Str)(_hty:A.size<=maxLen)(_hgi:Zb.size<=maxLen):
 Calls Tryz.prog 101 #[.pointer (some ⟨sb,0,none⟩),.agg #[.int .i64 10,.int .i64 a,.int .i64 b,.string A,.string cls,.string C]] ws (qf base ws sb B qb Zb lv sv (Qn ((zh (Za l) [zaf A] S).bind fun H=>Zv L H A))):=by
 have I:SA w0 w B l base ws lv sv sb qb Zb ws.heap.size [.int .i64 10,.int .i64 a,.int .i64 b,.string A,.string cls,.string C] (ws.alloc (.cells #[.int .i64 10,.int .i64 a,.int .i64 b,.string A,.string cls,.string C] 24)) lv sv L S:=SA.new X h _;obtain⟨Z,c,d,f,g,i⟩:=I.cells;obtain⟨m,D⟩:∃r,Qn ((zh (Za l) [zaf A] S).bind fun H=>Zv L H A)=r:=⟨_,rfl⟩;have M:=Xh D;rw[D];have j:Hid (∀wx,_):=fun wx=>ZdG A wx
 clear D X h;go_enter Tryz.func101,Tryz.ntmps101;go_wp2_with (first
  |(go_at_call 139;have F:=I.alloc (.cells #[.string (zaf A)] 9);rcases hq0:zh (Za l) [(zaf A)] S with _|H;(with_reducible refine(I.takeON J (zaf A) (zcV _) _ (by simp) hq0).mono ?_);(rintro e s E;obtain⟨N,rfl⟩:=E.no';exact And.intro rfl (F.stop N (M.out.symm.trans (Qd (qu hq0)))));(with_reducible refine(I.takeOY J (zaf A) (zcV _) _ (by simp) hq0).mono ?_);rintro e s E;obtain⟨O,rfl,n,o,P,R⟩:=E.ok';(have G:=F.next O P R);(have k:=Qj hq0 J);obtain⟨Z,c,d,f,g,i⟩:=G.cells)
  |(go_at_call 136;rcases hq1:ZK H A with _|x;(with_reducible refine(G.putN A hq1).mono ?_);(rintro e t E;obtain⟨N,rfl⟩:=E.no';exact And.intro rfl (G.stop N (M.out.symm.trans (Qd ((Qe hq0).trans (ZE hq1))))));(with_reducible refine(G.putY A hq1).mono ?_);rintro e t E;obtain⟨T,rfl,p,q,U,V⟩:=E.ok';(have Y:=G.next T U V);obtain⟨Z,c,d,f,g,i⟩:=Y.cells)
  |(go_fit (j.out _);rintro e v⟨rfl,rfl⟩))
 go_end0;exact Y.done (M.out.symm.trans (Zl ((Qe hq0).trans (zD hq1))))
theorem qdG(w0 w:World)(B:Nat)(l:List Qb)(base:Nat)(ws:World)(F:Env w0 w B l base ws)(sb:Nat)(qb Zb:Str)(lv sv:Value)(L S:List Str)(h:Qi base ws sb B qb Zb lv sv L S)(_hS:Qm (Za l) S)(a b:Int)(A cls C:Str)(_hty:A.size<=maxLen)(_hgi:Zb.size<=maxLen)(M:(Zb.toList==[86])=true):
 Calls Tryz.prog 101 #[.pointer (some ⟨sb,0,none⟩),.agg #[.int .i64 26,.int .i64 a,.int .i64 b,.string A,.string cls,.string C]] ws (qf base ws sb B qb Zb lv sv (Qn (some (L,S)))):=by
 have E:SA w0 w B l base ws lv sv sb qb Zb ws.heap.size [.int .i64 26,.int .i64 a,.int .i64 b,.string A,.string cls,.string C] (ws.alloc (.cells #[.int .i64 26,.int .i64 a,.int .i64 b,.string A,.string cls,.string C] 24)) lv sv L S:=SA.new F h _;obtain⟨N,O,P,R,T,U⟩:=E.cells;obtain⟨J,D⟩:∃r,Qn (some (L,S))=r:=⟨_,rfl⟩;have H:=Xh D;rw[D];have I:Hid (∀wx,_):=fun wx=>ZI wx
 have G:=E.step.blk.cell 2;replace G:(ws.alloc (.cells #[.int .i64 26,.int .i64 a,.int .i64 b,.string A,.string cls,.string C] 24)).cell? ⟨sb,2,none⟩=some (.string Zb):=G;clear D F h;go_enter Tryz.func101,Tryz.ntmps101;go_wp2_with (first
  |(go_fit (I.out _);rintro e V⟨rfl,rfl⟩))
 go_end0;exact E.done (H.out.symm.trans (Zl (rfl)))
theorem QdG(w0 w:World)(B:Nat)(l:List Qb)(base:Nat)(ws:World)(F:Env w0 w B l base ws)(sb:Nat)(qb Zb:Str)(lv sv:Value)(L S:List Str)(h:Qi base ws sb B qb Zb lv sv L S)(_hS:Qm (Za l) S)(a b:Int)(A cls C:Str)(_hty:A.size<=maxLen)(_hgi:Zb.size<=maxLen)(M:(Zb.toList==[86])=false):
 Calls Tryz.prog 101 #[.pointer (some ⟨sb,0,none⟩),.agg #[.int .i64 26,.int .i64 a,.int .i64 b,.string A,.string cls,.string C]] ws (qf base ws sb B qb Zb lv sv (Qn (none))):=by
 have E:SA w0 w B l base ws lv sv sb qb Zb ws.heap.size [.int .i64 26,.int .i64 a,.int .i64 b,.string A,.string cls,.string C] (ws.alloc (.cells #[.int .i64 26,.int .i64 a,.int .i64 b,.string A,.string cls,.string C] 24)) lv sv L S:=SA.new F h _;obtain⟨N,O,P,R,T,U⟩:=E.cells;obtain⟨J,D⟩:∃r,Qn (none)=r:=⟨_,rfl⟩;have H:=Xh D;rw[D];have I:Hid (∀wx,_):=fun wx=>qB wx
 have G:=E.step.blk.cell 2;replace G:(ws.alloc (.cells #[.int .i64 26,.int .i64 a,.int .i64 b,.string A,.string cls,.string C] 24)).cell? ⟨sb,2,none⟩=some (.string Zb):=G;clear D F h;go_enter Tryz.func101,Tryz.ntmps101;go_wp2_with (first
  |(go_fit (I.out _);rintro e V⟨rfl,rfl⟩))
 exact And.intro rfl (E.stop Xb H.out.symm)
theorem zdH(w0 w:World)(B:Nat)(l:List Qb)(base:Nat)(ws:World)(F:Env w0 w B l base ws)(sb:Nat)(qb Zb:Str)(lv sv:Value)(L S:List Str)(h:Qi base ws sb B qb Zb lv sv L S)(_hS:Qm (Za l) S)(a b:Int)(A cls C:Str)(_hty:A.size<=maxLen)(_hgi:Zb.size<=maxLen)(M:(Zb.toList==[86])=true):
 Calls Tryz.prog 101 #[.pointer (some ⟨sb,0,none⟩),.agg #[.int .i64 27,.int .i64 a,.int .i64 b,.string A,.string cls,.string C]] ws (qf base ws sb B qb Zb lv sv (Qn (none))):=by
 have E:SA w0 w B l base ws lv sv sb qb Zb ws.heap.size [.int .i64 27,.int .i64 a,.int .i64 b,.string A,.string cls,.string C] (ws.alloc (.cells #[.int .i64 27,.int .i64 a,.int .i64 b,.string A,.string cls,.string C] 24)) lv sv L S:=SA.new F h _;obtain⟨N,O,P,R,T,U⟩:=E.cells;obtain⟨J,D⟩:∃r,Qn (none)=r:=⟨_,rfl⟩;have H:=Xh D;rw[D];have I:Hid (∀wx,_):=fun wx=>qB wx
 have G:=E.step.blk.cell 2;replace G:(ws.alloc (.cells #[.int .i64 27,.int .i64 a,.int .i64 b,.string A,.string cls,.string C] 24)).cell? ⟨sb,2,none⟩=some (.string Zb):=G;clear D F h;go_enter Tryz.func101,Tryz.ntmps101;go_wp2_with (first
  |(go_fit (I.out _);rintro e V⟨rfl,rfl⟩))
 exact And.intro rfl (E.stop Xb H.out.symm)
theorem ZdH(w0 w:World)(B:Nat)(l:List Qb)(base:Nat)(ws:World)(P:Env w0 w B l base ws)(sb:Nat)(qb Zb:Str)(lv sv:Value)(L S:List Str)(h:Qi base ws sb B qb Zb lv sv L S)(I:Qm (Za l) S)(a b:Int)(A cls C:Str)(_hty:A.size<=maxLen)(E:Zb.size<=maxLen)(o:(Zb.toList==[86])=false):
 Calls Tryz.prog 101 #[.pointer (some ⟨sb,0,none⟩),.agg #[.int .i64 27,.int .i64 a,.int .i64 b,.string A,.string cls,.string C]] ws (qf base ws sb B qb Zb lv sv (Qn ((zh (Za l) [Zb] S).map fun H=>(L,H)))):=by
 have F:SA w0 w B l base ws lv sv sb qb Zb ws.heap.size [.int .i64 27,.int .i64 a,.int .i64 b,.string A,.string cls,.string C] (ws.alloc (.cells #[.int .i64 27,.int .i64 a,.int .i64 b,.string A,.string cls,.string C] 24)) lv sv L S:=SA.new P h _;obtain⟨Y,Z,c,d,f,g⟩:=F.cells;obtain⟨i,D⟩:∃r,Qn ((zh (Za l) [Zb] S).map fun H=>(L,H))=r:=⟨_,rfl⟩;have R:=Xh D;rw[D];have V:Hid (∀wx,_):=fun wx=>ZI wx
 have T:=F.step.blk.cell 2;replace T:(ws.alloc (.cells #[.int .i64 27,.int .i64 a,.int .i64 b,.string A,.string cls,.string C] 24)).cell? ⟨sb,2,none⟩=some (.string Zb):=T;clear D P h;go_enter Tryz.func101,Tryz.ntmps101;go_wp2_with (first
  |(go_at_call 139;have G:=F.alloc (.cells #[.string Zb] 9);rcases hq0:zh (Za l) [Zb] S with _|H;(with_reducible refine(F.takeON I Zb E _ (by simp) hq0).mono ?_);(rintro e n O;obtain⟨j,rfl⟩:=O.no';exact And.intro rfl (G.stop j (R.out.symm.trans (Qd (zaH hq0)))));(with_reducible refine(F.takeOY I Zb E _ (by simp) hq0).mono ?_);rintro e n O;obtain⟨J,rfl,k,m,M,N⟩:=O.ok';(have U:=G.next J M N);(have X:=Qj hq0 I);obtain⟨Y,Z,c,d,f,g⟩:=U.cells)
  |(go_fit (V.out _);rintro e p⟨rfl,rfl⟩))
 go_end0;exact U.done (R.out.symm.trans (Zl (Z6 hq0)))
theorem Qd3(w0 w:World)(B:Nat)(l:List Qb)(base:Nat)(ws:World)(P:Env w0 w B l base ws)(sb:Nat)(qb Zb:Str)(lv sv:Value)(L S:List Str)(h:Qi base ws sb B qb Zb lv sv L S)(I:Qm (Za l) S)(a b:Int)(A cls C:Str)(_hty:A.size<=maxLen)(_hgi:Zb.size<=maxLen):
 Calls Tryz.prog 101 #[.pointer (some ⟨sb,0,none⟩),.agg #[.int .i64 28,.int .i64 a,.int .i64 b,.string A,.string cls,.string C]] ws (qf base ws sb B qb Zb lv sv (Qn ((zh (Za l) [Zd Zaf] S).map fun H=>(L,H)))):=by
 have G:SA w0 w B l base ws lv sv sb qb Zb ws.heap.size [.int .i64 28,.int .i64 a,.int .i64 b,.string A,.string cls,.string C] (ws.alloc (.cells #[.int .i64 28,.int .i64 a,.int .i64 b,.string A,.string cls,.string C] 24)) lv sv L S:=SA.new P h _;obtain⟨V,X,Y,Z,c,d⟩:=G.cells;obtain⟨f,D⟩:∃r,Qn ((zh (Za l) [Zd Zaf] S).map fun H=>(L,H))=r:=⟨_,rfl⟩;have R:=Xh D;rw[D];have E:Hid (∀wx,_):=fun wx=>QX Zaf wx (by decide)
 unfold Zaf at E;change Hid (∀wx,Calls Tryz.prog 142 #[.string ⟨#[70,97,117,108,116]⟩] wx fun e w'=>e=.returned (.string (Zd Zaf))/\wx=w')at E;clear D P h;go_enter Tryz.func101,Tryz.ntmps101;go_wp2_with (first
  |(go_at_call 139;have F:=G.alloc (.cells #[.string (Zd Zaf)] 9);rcases hq0:zh (Za l) [(Zd Zaf)] S with _|H;(with_reducible refine(G.takeON I (Zd Zaf) QcU _ (by simp) hq0).mono ?_);(rintro e k O;obtain⟨g,rfl⟩:=O.no';exact And.intro rfl (F.stop g (R.out.symm.trans (Qd (zaH hq0)))));(with_reducible refine(G.takeOY I (Zd Zaf) QcU _ (by simp) hq0).mono ?_);rintro e k O;obtain⟨J,rfl,i,j,M,N⟩:=O.ok';(have T:=F.next J M N);(have U:=Qj hq0 I);obtain⟨V,X,Y,Z,c,d⟩:=T.cells)
  |(go_fit (E.out _);rintro e m⟨rfl,rfl⟩))
 go_end0;exact T.done (R.out.symm.trans (Zl (Z6 hq0)))
theorem ZcV(w0 w:World)(B:Nat)(l:List Qb)(base:Nat)(ws:World)(F:Env w0 w B l base ws)(sb:Nat)(qb Zb:Str)(lv sv:Value)(L S:List Str)(h:Qi base ws sb B qb Zb lv sv L S)(_hS:Qm (Za l) S)(A a b:Int)(C cls D:Str)(_hty:C.size<=maxLen)(_hgi:Zb.size<=maxLen)(U:(A==2)=false)(V:(A==3)=false)(X:(A==4)=false)(Y:(A==5)=false)(Z:(A==6)=false)(c:(A==7)=false)(d:(A==8)=false)(e:(A==9)=false)(H:(A==10)=false)(I:(A==11)=false)(J:(A==12)=false)(M:(A==13)=false)(N:(A==26)=false)(O:(A==27)=false)(P:(A==28)=false):
 Calls Tryz.prog 101 #[.pointer (some ⟨sb,0,none⟩),.agg #[.int .i64 A,.int .i64 a,.int .i64 b,.string C,.string cls,.string D]] ws (qf base ws sb B qb Zb lv sv (Qn (some (L,S)))):=by
 have G:SA w0 w B l base ws lv sv sb qb Zb ws.heap.size [.int .i64 A,.int .i64 a,.int .i64 b,.string C,.string cls,.string D] (ws.alloc (.cells #[.int .i64 A,.int .i64 a,.int .i64 b,.string C,.string cls,.string D] 24)) lv sv L S:=SA.new F h _;obtain⟨f,g,i,j,k,m⟩:=G.cells;obtain⟨T,E⟩:∃r,Qn (some (L,S))=r:=⟨_,rfl⟩;have R:=Xh E;rw[E];clear E F h;go_enter Tryz.func101,Tryz.ntmps101;go_wp2_with fail;go_end0;exact G.done (R.out.symm.trans (Zl (rfl)))
set_option maxRecDepth 512
theorem SA.local{w0 w:World}{B:Nat}{l:List Qb}{base:Nat}{ws:World}{lv0 sv0:Value}{sb:Nat}{qb Zb:Str}{xb:Nat}{xv:List Value}{wx:World}{lv sv:Value}{L S:List Str}(T:SA w0 w B l base ws lv0 sv0 sb qb Zb xb xv wx lv sv L S){i:Nat}{k:Str}(D:L[i]? = some k):
 ∃g cap,lv=.slice (some ⟨g,0,none⟩) L.length cap/\wx.cell? ⟨g,i,none⟩=some (.string k)/\wx.frozen? ⟨g,i,none⟩=false:=by
 have C:=T.step.locals;obtain⟨F,_⟩:=List.getElem?_eq_some_iff.1 D;rcases C.2 with⟨_,G⟩|⟨g,cap,E,A,H,I,J,M,N⟩
 ·omega
 ·refine⟨g,cap,A,?_,?_⟩
  ·subst A;rw[World.ownsRow.cellAt C i (by omega)];simp[D]
  ·subst A;exact World.ownsRow.frozenAt C i
set_option maxRecDepth 100000
theorem zd4(w0 w:World)(B:Nat)(l:List Qb)(base:Nat)(ws:World)(J:Env w0 w B l base ws)(sb:Nat)(qb Zb:Str)(lv sv:Value)(L S:List Str)(h:Qi base ws sb B qb Zb lv sv L S)(n:Nat)(b:Int)(A cls C:Str)(M:L[n]? = none):
 Calls Tryz.prog 101 #[.pointer (some ⟨sb,0,none⟩),.agg #[.int .i64 4,.int .i64 n,.int .i64 b,.string A,.string cls,.string C]] ws (qf base ws sb B qb Zb lv sv (none)):=by
 have E:SA w0 w B l base ws lv sv sb qb Zb ws.heap.size [.int .i64 4,.int .i64 n,.int .i64 b,.string A,.string cls,.string C] (ws.alloc (.cells #[.int .i64 4,.int .i64 n,.int .i64 b,.string A,.string cls,.string C] 24)) lv sv L S:=SA.new J h _;obtain⟨T,O,U,V,X,Y⟩:=E.cells;have N:Hid (∀wx,_):=fun wx=>qB wx
 have F:(ws.alloc (.cells #[.int .i64 4,.int .i64 n,.int .i64 b,.string A,.string cls,.string C] 24)).cell? ⟨sb,3,none⟩=some lv:=E.step.blk.cell 3;have G:=Xh E;have H:Hid (decide (n<L.length)=false):=Xh (by
  have:=List.getElem?_eq_none_iff.1 M;simp;omega)
 obtain⟨p,c,I⟩:=qe h.locals;subst I;clear M h J E;go_enter Tryz.func101,Tryz.ntmps101;go_upto_region 7 with fail;generalize ws.alloc (.cells #[.int .i64 4,.int .i64 n,.int .i64 b,.string A,.string cls,.string C] 24)=d at *;refine wp_region_held_drew (S:=fun w'=>w'.cell? ⟨ws.heap.size,1,none⟩=some (.int .i64 n)/\w'.cell? ⟨sb,3,none⟩=some (.slice p L.length c)) (by kernel_rfl) ⟨O,F⟩ (fun hHeld=>?_);change wpAnyH _ _ _ _ _ 22 _ _ _;iterate 9 ((first|(refine tkN rfl rfl hHeld ?_)|(refine tkY (v:=?_) rfl rfl hHeld ?_ ?_;rotate_left;focus (intro w D;(obtain⟨P,R⟩:=D);go_simp;all_goals with_reducible rfl)));try simp only[Act.put,Xa,Xc,Xd])
 rw[H.out];change wpAnyH _ _ _ _ _ 13 _ _ _;iterate 12 ((first|(refine tkN rfl rfl hHeld ?_)|(refine tkY (v:=?_) rfl rfl hHeld ?_ ?_;rotate_left;focus (intro w D;(obtain⟨P,R⟩:=D);go_simp;all_goals with_reducible rfl)));try simp only[Act.put,Xa,Xc,Xd])
 refine wpAnyH_ready (rs:=[21]) (fuel:=0) (by kernel_rfl) (by simp) ?_;refine AllReadyH.cons (i:=21) rfl (fun K a=>?_) AllReadyH.nil;go_simp;refine(N.out _).mono ?_;rintro e Z⟨rfl,rfl⟩;exact And.intro rfl (G.out.stop Xb.drew rfl)
theorem Zd4(w0 w:World)(B:Nat)(l:List Qb)(base:Nat)(ws:World)(N:Env w0 w B l base ws)(sb:Nat)(qb Zb:Str)(lv sv:Value)(L S:List Str)(h:Qi base ws sb B qb Zb lv sv L S)(n:Nat)(b:Int)(A cls C:Str)(k:Str)(F:L[n]? = some k)(O:(k.toList==[84])=true):
 Calls Tryz.prog 101 #[.pointer (some ⟨sb,0,none⟩),.agg #[.int .i64 4,.int .i64 n,.int .i64 b,.string A,.string cls,.string C]] ws (qf base ws sb B qb Zb lv sv (none)):=by
 have E:SA w0 w B l base ws lv sv sb qb Zb ws.heap.size [.int .i64 4,.int .i64 n,.int .i64 b,.string A,.string cls,.string C] (ws.alloc (.cells #[.int .i64 4,.int .i64 n,.int .i64 b,.string A,.string cls,.string C] 24)) lv sv L S:=SA.new N h _;obtain⟨V,T,X,Y,Z,a⟩:=E.cells;have P:Hid (∀wx,_):=fun wx=>qB wx
 have G:(ws.alloc (.cells #[.int .i64 4,.int .i64 n,.int .i64 b,.string A,.string cls,.string C] 24)).cell? ⟨sb,3,none⟩=some lv:=E.step.blk.cell 3;have H:=Xh E;obtain⟨g,cap,I,D,J⟩:=E.local F;have R:n<L.length:=by
  obtain⟨U,_⟩:=List.getElem?_eq_some_iff.1 F;exact U
 subst I;clear F h N E J;go_enter Tryz.func101,Tryz.ntmps101;go_upto_region 7 with fail;generalize ws.alloc (.cells #[.int .i64 4,.int .i64 n,.int .i64 b,.string A,.string cls,.string C] 24)=o at *;refine wp_region_held_drew (S:=fun w'=>w'.cell? ⟨ws.heap.size,1,none⟩=some (.int .i64 n)/\w'.cell? ⟨sb,3,none⟩=some (.slice (some ⟨g,0,none⟩) L.length cap)/\w'.cell? ⟨g,n,none⟩=some (.string k)) (by kernel_rfl) ⟨T,G,D⟩ (fun hHeld=>?_);change wpAnyH _ _ _ _ _ 22 _ _ _;iterate 21 ((first|(refine tkN rfl rfl hHeld ?_)|(refine tkY (v:=?_) rfl rfl hHeld ?_ ?_;rotate_left;focus (intro w M;(obtain⟨c,d,f⟩:=M);go_simp;all_goals with_reducible rfl)));try simp only[Act.put,Xa,Xc,Xd])
 refine wpAnyH_ready (rs:=[21]) (fuel:=0) (by kernel_rfl) (by simp) ?_;refine AllReadyH.cons (i:=21) rfl (fun K m=>?_) AllReadyH.nil;go_simp;refine(P.out _).mono ?_;rintro e j⟨rfl,rfl⟩;exact And.intro rfl (H.out.stop Xb.drew rfl)
theorem qd4(w0 w:World)(B:Nat)(l:List Qb)(base:Nat)(ws:World)(c:Env w0 w B l base ws)(sb:Nat)(qb Zb:Str)(lv sv:Value)(L S:List Str)(h:Qi base ws sb B qb Zb lv sv L S)(n:Nat)(b:Int)(C cls D:Str)(k:Str)(T:L[n]? = some k)(m:(k.toList==[84])=false):
 Calls Tryz.prog 101 #[.pointer (some ⟨sb,0,none⟩),.agg #[.int .i64 4,.int .i64 n,.int .i64 b,.string C,.string cls,.string D]] ws (qf base ws sb B qb Zb lv sv (Qn (Zv L S k))):=by
 have I:SA w0 w B l base ws lv sv sb qb Zb ws.heap.size [.int .i64 4,.int .i64 n,.int .i64 b,.string C,.string cls,.string D] (ws.alloc (.cells #[.int .i64 4,.int .i64 n,.int .i64 b,.string C,.string cls,.string D] 24)) lv sv L S:=SA.new c h _;obtain⟨i0,M,i2,i3,i4,i5⟩:=I.cells;have o:Hid (∀wx,_):=fun wx=>ZI wx
 have E:(ws.alloc (.cells #[.int .i64 4,.int .i64 n,.int .i64 b,.string C,.string cls,.string D] 24)).cell? ⟨sb,3,none⟩=some lv:=I.step.blk.cell 3;have J:=Xh I;obtain⟨g,cap,V,A,X⟩:=I.local T;have p:n<L.length:=by
  obtain⟨q,_⟩:=List.getElem?_eq_some_iff.1 T;exact q
 subst V;clear h c I X;go_enter Tryz.func101,Tryz.ntmps101;go_upto_region 7 with fail;generalize ws.alloc (.cells #[.int .i64 4,.int .i64 n,.int .i64 b,.string C,.string cls,.string D] 24)=R at *;refine wp_region_held_drew (S:=fun w'=>w'.cell? ⟨ws.heap.size,1,none⟩=some (.int .i64 n)/\w'.cell? ⟨sb,3,none⟩=some (.slice (some ⟨g,0,none⟩) L.length cap)/\w'.cell? ⟨g,n,none⟩=some (.string k)) (by kernel_rfl) ⟨M,E,A⟩ (fun hHeld=>?_);change wpAnyH _ _ _ _ _ 22 _ _ _;iterate 21 ((first|(refine tkN rfl rfl hHeld ?_)|(refine tkY (v:=?_) rfl rfl hHeld ?_ ?_;rotate_left;focus (intro w H;(obtain⟨r,s,t⟩:=H);go_simp;all_goals with_reducible rfl)));try simp only[Act.put,Xa,Xc,Xd])
 refine wpAnyH_ready (rs:=[21]) (fuel:=0) (by kernel_rfl) (by simp) ?_;refine AllReadyH.cons (i:=21) rfl (fun K O=>?_) AllReadyH.nil;go_simp;refine(o.out _).mono ?_;rintro e wq⟨rfl,rfl⟩;refine O.out _ _ ⟨M,E,A⟩ (fun _=>?_);clear O K;try simp only[Act.put,Xa,Xc,Xd]
 refine wpAnyH_done (by kernel_rfl) ?_ _;have U:=Xh (J.out.over Xb.drew);clear J hHeld;go_upto_region 8 with fail;replace M:R.drew.cell? ⟨ws.heap.size,1,none⟩=some (.int .i64 n):=M;replace E:R.drew.cell? ⟨sb,3,none⟩=some (.slice (some ⟨g,0,none⟩) L.length cap):=E;replace A:R.drew.cell? ⟨g,n,none⟩=some (.string k):=A;generalize R.drew=wB at *;refine wp_region_held_drew (S:=fun w'=>w'.cell? ⟨ws.heap.size,1,none⟩=some (.int .i64 n)/\w'.cell? ⟨sb,3,none⟩=some (.slice (some ⟨g,0,none⟩) L.length cap)/\w'.cell? ⟨g,n,none⟩=some (.string k)) (by kernel_rfl) ⟨M,E,A⟩ (fun hHeld=>?_);change wpAnyH _ _ _ _ _ 11 _ _ _;iterate 10 ((first|(refine tkN rfl rfl hHeld ?_)|(refine tkY (v:=?_) rfl rfl hHeld ?_ ?_;rotate_left;focus (intro w H;(obtain⟨r,s,t⟩:=H);go_simp;all_goals with_reducible rfl)));try simp only[Act.put,Xa,Xc,Xd])
 refine wpAnyH_ready (rs:=[10]) (fuel:=0) (by kernel_rfl) (by simp) ?_;refine AllReadyH.cons (i:=10) rfl (fun K O=>?_) AllReadyH.nil;go_simp;have F:=U.out.over Xb.drew;cases P:ZK S k with
 |none =>
  refine(F.putN k P).mono ?_;rintro e w2 a;obtain⟨Y,rfl⟩:=a.no';exact And.intro rfl (F.stop Y (Qd (ZE P)))
 |some S' =>
  refine(F.putY k P).mono ?_;rintro e w2 a;obtain⟨Y,rfl,x,y,Z,N⟩:=a.ok';have G:=Xh (F.next Y Z N);refine O.out _ _ ?_ (fun _=>?_)
  ·obtain⟨g',f,j,z,_⟩:=G.out.local T;obtain⟨_,x1,_⟩:=G.out.cells;have d:=G.out.step.blk.cell 3;rw[N.1]at j d;cases j;exact⟨x1,d,z⟩
  clear O K;try simp only[Act.put,Xa,Xc,Xd]
  refine wpAnyH_done (by kernel_rfl) ?_ _;clear hHeld;go_wp2_with fail;go_end0;exact G.out.done (Zl (zD P))
set_option maxRecDepth 512
theorem Qi.stored{base:Nat}{w:World}{sb B:Nat}{qb Zb:Str}{g cap:Nat}{sv:Value}{L S:List Str}(h:Qi base w sb B qb Zb (.slice (some ⟨g,0,none⟩) L.length cap) sv L S)(n:Nat)(k:Str):Qi base (w.setCell ⟨g,n,none⟩ (.string k)) sb B qb Zb (.slice (some ⟨g,0,none⟩) L.length cap) sv (L.set n k) S:=by
 have A:=(World.ownsRow.stored h.locals n (.string k)).1;have C:g≠sb:=fun e=>h.lfar (by rw[e];rfl)
 refine⟨(Xk w ⟨g,n,none⟩ sb _ (fun e=>C e.symm)).trans h.blk,?_,zai h.stack (h.apart g rfl) n _,h.apart,h.lfar,h.sfar,h.low⟩;rw[List.length_set,List.map_set];exact A
theorem Kp.stored{sb g n A cap:Nat}{sv:Value}(w:World)(u:Value):Kp sb (.slice (some ⟨g,0,none⟩) A cap) sv w (.slice (some ⟨g,0,none⟩) A cap) sv (w.setCell ⟨g,n,none⟩ u) :=
 ⟨rfl,fun x _ B=>⟨Xk w ⟨g,n,none⟩ x _ (fun e=>B.2.1 (by rw[e];rfl)),B⟩⟩
set_option maxRecDepth 100000
theorem Qd4(w0 w:World)(B:Nat)(l:List Qb)(base:Nat)(ws:World)(G:Env w0 w B l base ws)(sb:Nat)(qb Zb:Str)(lv sv:Value)(L S:List Str)(h:Qi base ws sb B qb Zb lv sv L S)(n:Nat)(b:Int)(A cls C:Str)(H:zI S=none):
 Calls Tryz.prog 101 #[.pointer (some ⟨sb,0,none⟩),.agg #[.int .i64 5,.int .i64 n,.int .i64 b,.string A,.string cls,.string C]] ws (qf base ws sb B qb Zb lv sv (none)):=by
 have D:SA w0 w B l base ws lv sv sb qb Zb ws.heap.size [.int .i64 5,.int .i64 n,.int .i64 b,.string A,.string cls,.string C] (ws.alloc (.cells #[.int .i64 5,.int .i64 n,.int .i64 b,.string A,.string cls,.string C] 24)) lv sv L S:=SA.new G h _;obtain⟨J,M,N,O,P,R⟩:=D.cells;have _hg3:(ws.alloc (.cells #[.int .i64 5,.int .i64 n,.int .i64 b,.string A,.string cls,.string C] 24)).cell? ⟨sb,3,none⟩=some lv:=D.step.blk.cell 3;have E:=Xh D;clear h G;go_enter Tryz.func101,Tryz.ntmps101;go_wp2_with (first
  |(go_fit (D.popN H);rintro e T I;obtain⟨F,rfl⟩:=I.no'))
 exact And.intro rfl (E.out.stop F rfl)
theorem zd5(w0 w:World)(B:Nat)(l:List Qb)(base:Nat)(ws:World)(R:Env w0 w B l base ws)(sb:Nat)(qb Zb:Str)(lv sv:Value)(L S:List Str)(h:Qi base ws sb B qb Zb lv sv L S)(n:Nat)(b:Int)(A cls C:Str)(k:Str)(X:List Str)(Y:zI S=some (k,X))(T:L[n]? = none):
 Calls Tryz.prog 101 #[.pointer (some ⟨sb,0,none⟩),.agg #[.int .i64 5,.int .i64 n,.int .i64 b,.string A,.string cls,.string C]] ws (qf base ws sb B qb Zb lv sv (none)):=by
 have E:SA w0 w B l base ws lv sv sb qb Zb ws.heap.size [.int .i64 5,.int .i64 n,.int .i64 b,.string A,.string cls,.string C] (ws.alloc (.cells #[.int .i64 5,.int .i64 n,.int .i64 b,.string A,.string cls,.string C] 24)) lv sv L S:=SA.new R h _;obtain⟨d,U,f,g,j,m⟩:=E.cells;have Z:Hid (∀wx,_):=fun wx=>qB wx
 have I:(ws.alloc (.cells #[.int .i64 5,.int .i64 n,.int .i64 b,.string A,.string cls,.string C] 24)).cell? ⟨sb,3,none⟩=some lv:=E.step.blk.cell 3;have J:=Xh E;have M:Hid (decide (n<L.length)=false):=Xh (by
  have:=List.getElem?_eq_none_iff.1 T;simp;omega)
 obtain⟨p,c,O⟩:=qe h.locals;clear T h R;go_enter Tryz.func101,Tryz.ntmps101;go_upto_region 11 with(first
  |(go_fit (E.popY Y);rintro e r V;obtain⟨F,rfl,o,q,G,D⟩:=V.ok'))
 obtain rfl:=D.1;have H:=E.next F G D;obtain⟨d,U,f,g,j,m⟩:=H.cells;subst O;have a:r.cell? ⟨sb,3,none⟩=some (.slice p L.length c):=H.step.blk.cell 3;have N:=Xh H;clear E H I F G D V J;refine wp_region_held_drew (S:=fun w'=>w'.cell? ⟨ws.heap.size,1,none⟩=some (.int .i64 n)/\w'.cell? ⟨sb,3,none⟩=some (.slice p L.length c)) (by kernel_rfl) ⟨U,a⟩ (fun hHeld=>?_);change wpAnyH _ _ _ _ _ 10 _ _ _;iterate 9 ((first|(refine tkN rfl rfl hHeld ?_)|(refine tkY (v:=?_) rfl rfl hHeld ?_ ?_;rotate_left;focus (intro w P;(obtain⟨s,t⟩:=P);go_simp;all_goals with_reducible rfl)));try simp only[Act.put,Xa,Xc,Xd])
 rw[M.out];refine wpAnyH_ready (rs:=[9]) (fuel:=0) (by kernel_rfl) (by simp) ?_;refine AllReadyH.cons (i:=9) rfl (fun K y=>?_) AllReadyH.nil;go_simp;refine(Z.out _).mono ?_;rintro e x⟨rfl,rfl⟩;exact And.intro rfl (N.out.stop Xb.drew rfl)
theorem Zd5(w0 w:World)(B:Nat)(l:List Qb)(base:Nat)(ws:World)(c:Env w0 w B l base ws)(sb:Nat)(qb Zb:Str)(lv sv:Value)(L S:List Str)(h:Qi base ws sb B qb Zb lv sv L S)(n:Nat)(b:Int)(A cls C:Str)(k:Str)(d:List Str)(m:zI S=some (k,d))(f:Str)(X:L[n]? = some f):
 Calls Tryz.prog 101 #[.pointer (some ⟨sb,0,none⟩),.agg #[.int .i64 5,.int .i64 n,.int .i64 b,.string A,.string cls,.string C]] ws (qf base ws sb B qb Zb lv sv (Qn (some (L.set n k,d)))):=by
 have M:SA w0 w B l base ws lv sv sb qb Zb ws.heap.size [.int .i64 5,.int .i64 n,.int .i64 b,.string A,.string cls,.string C] (ws.alloc (.cells #[.int .i64 5,.int .i64 n,.int .i64 b,.string A,.string cls,.string C] 24)) lv sv L S:=SA.new c h _;obtain⟨t,N,x,y,z,i5⟩:=M.cells;have o:Hid (∀wx,_):=fun wx=>ZI wx
 have Y:(ws.alloc (.cells #[.int .i64 5,.int .i64 n,.int .i64 b,.string A,.string cls,.string C] 24)).cell? ⟨sb,3,none⟩=some lv:=M.step.blk.cell 3;have Z:=Xh M;have q:n<L.length:=by
  obtain⟨h1,_⟩:=List.getElem?_eq_some_iff.1 X;exact h1
 clear h c;go_enter Tryz.func101,Tryz.ntmps101;go_upto_region 11 with(first
  |(go_fit (M.popY m);rintro e O j;obtain⟨T,rfl,lv1,sv1,U,G⟩:=j.ok'))
 obtain rfl:=G.1;have D:=M.next T U G;obtain⟨t,N,x,y,z,i5⟩:=D.cells;obtain⟨g,cap,H,I,a⟩:=D.local X;have r:g≠ws.heap.size:=fun e=>D.apart.2.1 (by rw[H,e];rfl)
 have s:g≠sb:=fun e=>D.step.lfar (by rw[H,e];rfl)
 subst H;have P:O.cell? ⟨sb,3,none⟩=some (.slice (some ⟨g,0,none⟩) L.length cap):=D.step.blk.cell 3;have R:=Xh D;clear M D Y T U G j Z X;refine wp_region_held_drew (S:=fun w'=>w'.cell? ⟨ws.heap.size,1,none⟩=some (.int .i64 n)/\w'.cell? ⟨sb,3,none⟩=some (.slice (some ⟨g,0,none⟩) L.length cap)) (by kernel_rfl) ⟨N,P⟩ (fun hHeld=>?_);change wpAnyH _ _ _ _ _ 10 _ _ _;iterate 9 ((first|(refine tkN rfl rfl hHeld ?_)|(refine tkY (v:=?_) rfl rfl hHeld ?_ ?_;rotate_left;focus (intro w J;(obtain⟨s0,s1⟩:=J);go_simp;all_goals with_reducible rfl)));try simp only[Act.put,Xa,Xc,Xd])
 refine wpAnyH_ready (rs:=[9]) (fuel:=0) (by kernel_rfl) (by simp) ?_;refine AllReadyH.cons (i:=9) rfl (fun K V=>?_) AllReadyH.nil;go_simp;refine(o.out _).mono ?_;rintro e wq⟨rfl,rfl⟩;refine V.out _ _ ⟨N,P⟩ (fun _=>?_);clear V K;try simp only[Act.put,Xa,Xc,Xd]
 refine wpAnyH_done (by kernel_rfl) ?_ _;have E:=Xh ((R.out.over Xb.drew).over Xb.drew);clear R hHeld;go_upto_region 12 with fail;replace N:O.drew.cell? ⟨ws.heap.size,1,none⟩=some (.int .i64 n):=N;replace P:O.drew.cell? ⟨sb,3,none⟩=some (.slice (some ⟨g,0,none⟩) L.length cap):=P;have c2:O.drew.drew.cell? ⟨g,n,none⟩=some (.string f):=I;have f2:O.drew.drew.frozen? ⟨g,n,none⟩=false:=a;generalize O.drew=wB at *;refine wp_region_held_drew (S:=fun w'=>w'.cell? ⟨ws.heap.size,1,none⟩=some (.int .i64 n)/\w'.cell? ⟨sb,3,none⟩=some (.slice (some ⟨g,0,none⟩) L.length cap)) (by kernel_rfl) ⟨N,P⟩ (fun hHeld=>?_);change wpAnyH _ _ _ _ _ 10 _ _ _;iterate 9 ((first|(refine tkN rfl rfl hHeld ?_)|(refine tkY (v:=?_) rfl rfl hHeld ?_ ?_;rotate_left;focus (intro w J;(obtain⟨s0,s1⟩:=J);go_simp;all_goals with_reducible rfl)));try simp only[Act.put,Xa,Xc,Xd])
 refine wpAnyH_ready (rs:=[9]) (fuel:=0) (by kernel_rfl) (by simp) ?_;refine AllReadyH.cons (i:=9) rfl (fun K V=>?_) AllReadyH.nil;go_simp;have F:=Xh (E.out.next ((Below.refl base _).setCell (p:=⟨g,n,none⟩) (E.out.step.locals.lt g rfl).1 (.string k)) (E.out.step.stored n k) (Kp.stored (n:=n) _ _));refine V.out _ _ ?_ (fun _=>?_)
 ·obtain⟨_,x1,_⟩:=F.out.cells;exact⟨x1,F.out.step.blk.cell 3⟩
 clear V K;try simp only[Act.put,Xa,Xc,Xd]
 refine wpAnyH_done (by kernel_rfl) ?_ _;clear hHeld;go_wp2_with fail;go_end0;exact F.out.done rfl
set_option maxRecDepth 512
theorem za8(cs:List Qb)(Zb:Str)(a b:Int)(A cls B:Str)(L S:List Str):
 qN cs Zb ⟨2,a,b,A,cls,B⟩ L S=Zv L S A/\qN cs Zb ⟨3,a,b,A,cls,B⟩ L S=Zv L S kN/\qN cs Zb ⟨4,a,b,A,cls,B⟩ L S=zaO L S a/\qN cs Zb ⟨5,a,b,A,cls,B⟩ L S=QaD L S a
 /\qN cs Zb ⟨6,a,b,A,cls,B⟩ L S=((zI S).map fun p=>(L,p.2))/\qN cs Zb ⟨7,a,b,A,cls,B⟩ L S=((zI S).bind fun p=>(ZK p.2 p.1).bind fun C=>Zv L C p.1)
 /\qN cs Zb ⟨8,a,b,A,cls,B⟩ L S=((zI S).bind fun p=>(zI p.2).bind fun q=>(ZK q.2 p.1).bind fun C=>Zv L C q.1)
 /\qN cs Zb ⟨9,a,b,A,cls,B⟩ L S=((zh cs (zaz a A) S).bind fun C=>(zh cs [A] C).bind fun D=>Zv L D A)
 /\qN cs Zb ⟨10,a,b,A,cls,B⟩ L S=((zh cs [zaf A] S).bind fun C=>Zv L C A)
 /\qN cs Zb ⟨11,a,b,A,cls,B⟩ L S=((zh cs [kJ,kJ] S).bind fun C=>Zv L C kI)
 /\qN cs Zb ⟨12,a,b,A,cls,B⟩ L S=((zh cs [kI] S).map fun C=>(L,C))
 /\qN cs Zb ⟨13,a,b,A,cls,B⟩ L S=Zcb L S
 /\qN cs Zb ⟨26,a,b,A,cls,B⟩ L S=(if (Zb.toList==[86])=true then some (L,S) else none)
 /\qN cs Zb ⟨27,a,b,A,cls,B⟩ L S=(if (Zb.toList==[86])=true then none else (zh cs [Zb] S).map fun C=>(L,C))
 /\qN cs Zb ⟨28,a,b,A,cls,B⟩ L S=((zh cs [Zd Zaf] S).map fun C=>(L,C)) :=
 ⟨rfl,rfl,rfl,rfl,rfl,rfl,rfl,rfl,rfl,rfl,rfl,rfl,rfl,rfl,rfl⟩
theorem Q6{cs:List Qb}{Zb:Str}{x:Ins}{L S:List Str}(h:x.op≠2/\x.op≠3/\x.op≠4/\x.op≠5/\x.op≠6/\x.op≠7/\x.op≠8/\x.op≠9/\x.op≠10/\x.op≠11/\x.op≠12/\x.op≠13/\x.op≠26/\x.op≠27/\x.op≠28):qN cs Zb x L S=some (L,S):=by
 obtain⟨G,H,I,J,M,N,O,P,R,A,B,C,D,E,F⟩:=h;unfold qN;rw[if_neg G,if_neg H,if_neg I,if_neg J,if_neg M,if_neg N,if_neg O,if_neg P,if_neg R,if_neg A,if_neg B,if_neg C,if_neg D,if_neg E,if_neg F]
theorem qdH(cs:List Qb)(S:List Str):zh cs [] S=some S:=rfl
theorem QdH(w0 w:World)(B:Nat)(l:List Qb)(base:Nat)(ws:World)(F:Env w0 w B l base ws)(sb:Nat)(qb Zb:Str)(lv sv:Value)(L S:List Str)(h:Qi base ws sb B qb Zb lv sv L S)(G:Qm (Za l) S)(x:Ins)(D:x.type.size<=maxLen)(E:Zb.size<=maxLen)(Y:x.op=4\/x.op=5->0<=x.a):
 Calls Tryz.prog 101 #[.pointer (some ⟨sb,0,none⟩),ZW x] ws (qf base ws sb B qb Zb lv sv (Qn (qN (Za l) Zb x L S))):=by
 obtain⟨H,a,b,A,cls,C⟩:=x;replace D:A.size<=maxLen:=D;unfold ZW;dsimp only at Y ⊢;obtain⟨e2,e3,e4,e5,e6,e7,e8,e9,o,q,r,s,t,v,y⟩:=za8 (Za l) Zb a b A cls C L S;by_cases Z:H=2
 ·subst Z;rw[e2];exact qeg w0 w B l base ws F sb qb Zb lv sv L S h G a b A cls C D E
 by_cases c:H=3
 ·subst c;rw[e3];exact Qeg w0 w B l base ws F sb qb Zb lv sv L S h G a b A cls C D E
 by_cases d:H=4
 ·subst d;rw[e4];obtain⟨n,rfl⟩:=Int.eq_ofNat_of_zero_le (Y (Or.inl rfl));unfold zaO;rw[show(n:Int).toNat=n from rfl];cases I:L[n]? with
  |none=>exact zd4 w0 w B l base ws F sb qb Zb lv sv L S h n b A cls C I
  |some k =>
   dsimp only;cases V:(k.toList==[84]) with
   |true=>rw[if_pos rfl];exact Zd4 w0 w B l base ws F sb qb Zb lv sv L S h n b A cls C k I V
   |false=>rw[if_neg (by decide)];exact qd4 w0 w B l base ws F sb qb Zb lv sv L S h n b A cls C k I V
 by_cases e:H=5
 ·subst e;rw[e5];obtain⟨n,rfl⟩:=Int.eq_ofNat_of_zero_le (Y (Or.inr rfl));unfold QaD;rw[show(n:Int).toNat=n from rfl];cases m:zI S with
  |none=>exact Qd4 w0 w B l base ws F sb qb Zb lv sv L S h n b A cls C m
  |some p =>
   obtain⟨k,z⟩:=p;rw[Option.bind_some];dsimp only;cases I:L[n]? with
   |none =>
    rw[if_neg (by have:=List.getElem?_eq_none_iff.1 I;omega)];exact zd5 w0 w B l base ws F sb qb Zb lv sv L S h n b A cls C k z m I
   |some k0 =>
    rw[if_pos (by obtain⟨h1,_⟩:=List.getElem?_eq_some_iff.1 I;exact h1)];exact Zd5 w0 w B l base ws F sb qb Zb lv sv L S h n b A cls C k z m k0 I
 by_cases f:H=6
 ·subst f;rw[e6];exact zeh w0 w B l base ws F sb qb Zb lv sv L S h G a b A cls C D E
 by_cases g:H=7
 ·subst g;rw[e7];exact Zeh w0 w B l base ws F sb qb Zb lv sv L S h G a b A cls C D E
 by_cases i:H=8
 ·subst i;rw[e8];exact qeh w0 w B l base ws F sb qb Zb lv sv L S h G a b A cls C D E
 by_cases j:H=9
 ·subst j;rw[e9];unfold zaz;by_cases J:a=12
  ·subst J;rw[if_pos rfl,qdH,Option.bind_some];exact zd3 w0 w B l base ws F sb qb Zb lv sv L S h G b A cls C D E
  ·rw[if_neg J];by_cases cs:a=9\/a=10\/a=11
   ·rw[if_pos cs];rcases cs with rfl|rfl|rfl
    ·exact zdG w0 w B l base ws F sb qb Zb lv sv L S h G b A cls C D E
    ·exact qde w0 w B l base ws F sb qb Zb lv sv L S h G b A cls C D E
    ·exact Qde w0 w B l base ws F sb qb Zb lv sv L S h G b A cls C D E
   ·rw[if_neg cs];exact Zd3 w0 w B l base ws F sb qb Zb lv sv L S h G a b A cls C D E (by simpa using J) (by simp;omega) (by simp;omega) (by simp;omega)
 by_cases M:H=10
 ·subst M;rw[o];exact qd3 w0 w B l base ws F sb qb Zb lv sv L S h G a b A cls C D E
 by_cases N:H=11
 ·subst N;rw[q];exact Zd2 w0 w B l base ws F sb qb Zb lv sv L S h G a b A cls C D E
 by_cases O:H=12
 ·subst O;rw[r];exact qd2 w0 w B l base ws F sb qb Zb lv sv L S h G a b A cls C D E
 by_cases P:H=13
 ·subst P;rw[s];exact Qd2 w0 w B l base ws F sb qb Zb lv sv L S h G a b A cls C D E
 by_cases R:H=26
 ·subst R;rw[t];cases X:(Zb.toList==[86]) with
  |true=>rw[if_pos rfl];exact qdG w0 w B l base ws F sb qb Zb lv sv L S h G a b A cls C D E X
  |false=>rw[if_neg (by decide)];exact QdG w0 w B l base ws F sb qb Zb lv sv L S h G a b A cls C D E X
 by_cases T:H=27
 ·subst T;rw[v];cases X:(Zb.toList==[86]) with
  |true=>rw[if_pos rfl];exact zdH w0 w B l base ws F sb qb Zb lv sv L S h G a b A cls C D E X
  |false=>rw[if_neg (by decide)];exact ZdH w0 w B l base ws F sb qb Zb lv sv L S h G a b A cls C D E X
 by_cases U:H=28
 ·subst U;rw[y];exact Qd3 w0 w B l base ws F sb qb Zb lv sv L S h G a b A cls C D E
 rw[Q6 ⟨Z,c,d,e,f,g,i,j,M,N,O,P,R,T,U⟩];exact ZcV w0 w B l base ws F sb qb Zb lv sv L S h G H a b A cls C D E (by simpa using Z) (by simpa using c) (by simpa using d) (by simpa using e) (by simpa using f) (by simpa using g) (by simpa using i) (by simpa using j) (by simpa using M) (by simpa using N) (by simpa using O) (by simpa using P) (by simpa using R) (by simpa using T) (by simpa using U)
end Go.Proofs.YtlmfmioljeppfaaGreatDoor
