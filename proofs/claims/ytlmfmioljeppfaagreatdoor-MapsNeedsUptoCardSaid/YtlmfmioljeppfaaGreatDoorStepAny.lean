/- Lemmas; conditions: as each states. -/
import Derived.Test.YtlmfmioljeppfaaGreatDoorCall
set_option maxHeartbeats 4000000
namespace Go.Proofs.YtlmfmioljeppfaaGreatDoor
open Go.RowKit Go.Shelf Go.Lib
def qaW(cs:List Qb)(k t:Str):Bool:=match Zo k with
 |.n=>true
 |.ty (.ar e)=>Zx cs (.ty e) (Zo t)&&(zm e==Zt (Zo t))
 |_=>false
def qJ(cs:List Qb)(t:Str)(S:List Str):Option (List Str) :=
 if zd cs t≠0 then none else (zh cs [kI] S).bind fun S1=>(zK S1).bind fun p=>if qaW cs p.1 t then some p.2 else none
set_option maxRecDepth 100000
theorem Qej(w0 w:World)(B:Nat)(l:List Qb)(base:Nat)(ws:World)(sb:Nat)(qb Zb:Str)(lv sv:Value)(L S:List Str)(T:Qm (Za l) S)(xb:Nat)(xv:List Value)(U:SA w0 w B l base ws lv sv sb qb Zb xb xv ws lv sv L S)(t k:Str)(g:t.size<=maxLen)(h:zd (Za l) t=0)(b c:List Str)(A:zh (Za l) [kI] S=some b)(D:zK b=some (k,c))(x:(k.toList==[78])=true):
 Calls Tryz.prog 146 #[.pointer (some ⟨sb,0,none⟩),.string t] ws (qf base ws sb B qb Zb lv sv (some (.tuple #[],L,c))):=by
 unfold kI at *;have j:Hid (∀wx,_):=fun wx=>ZI wx
 go_enter Tryz.func146,Tryz.ntmps146;go_upto_region 3 with(first
  |(go_fit (U.knowsY t g h);rintro e y C;obtain⟨G,rfl,m,n,H,I⟩:=C.ok';(have V:=U.next G H I);(have E:=V.alloc (.cells #[.string ⟨#[73]⟩] 9)))
  |(go_fit (V.takeOY T ⟨#[73]⟩ (Qac _) _ (by simp) A);rintro e z C;obtain⟨J,rfl,o,p,M,N⟩:=C.ok';(have X:=E.next J M N);(have F:=Qj A T))
  |(go_fit (X.refY F D);rintro e s C;obtain⟨O,rfl,q,r,P,R⟩:=C.ok'))
 have Y:=(X.next O P R).over Xb.drew;have Z:=Xh Y;have d:s.drew.cell? ⟨sb,0,none⟩=some (.map (some B)):=Y.step.blk.cell 0;clear U V E X Y G J O H M P I N R C A D F T;refine wp_region_held_drew (S:=fun w'=>w'.cell? ⟨sb,0,none⟩=some (.map (some B))) (by kernel_rfl) d (fun hHeld=>?_);change wpAnyH _ _ _ _ _ 26 _ _ _;iterate 25 ((first|(refine tkN rfl rfl hHeld ?_)|(refine tkY (v:=?_) rfl rfl hHeld ?_ ?_;rotate_left;focus (intro w a;((try dsimp only at a));go_simp;all_goals with_reducible rfl)));try simp only[Act.put,Xa,Xc,Xd])
 refine wpAnyH_ready (rs:=[25]) (fuel:=0) (by kernel_rfl) (by simp) ?_;refine AllReadyH.cons (i:=25) rfl (fun K f=>?_) AllReadyH.nil;go_simp;refine(j.out _).mono ?_;rintro e wq⟨rfl,rfl⟩;refine f.out _ _ d (fun hHeld=>?_);clear f K;try dsimp only[Act.put]
 refine wpAnyH_done (by kernel_rfl) ?_ _;clear hHeld;go_wp2_with fail;go_end0;exact Z.out.done rfl
theorem zek(w0 w:World)(B:Nat)(l:List Qb)(base:Nat)(ws:World)(sb:Nat)(qb Zb:Str)(lv sv:Value)(L S:List Str)(T:Qm (Za l) S)(xb:Nat)(xv:List Value)(U:SA w0 w B l base ws lv sv sb qb Zb xb xv ws lv sv L S)(t k:Str)(c:t.size<=maxLen)(d:zd (Za l) t=0)(b f:List Str)(A:zh (Za l) [kI] S=some b)(D:zK b=some (k,f))(x:(k.toList==[78])=false)(g:0<k.size)(y:(((k[0]'g).toNat:Int)==91)=false):
 Calls Tryz.prog 146 #[.pointer (some ⟨sb,0,none⟩),.string t] ws (qf base ws sb B qb Zb lv sv none):=by
 unfold kI at *;have h:Hid (∀wx,_):=fun wx=>qB wx
 go_enter Tryz.func146,Tryz.ntmps146;go_upto_region 3 with(first
  |(go_fit (U.knowsY t c d);rintro e z C;obtain⟨G,rfl,m,n,H,I⟩:=C.ok';(have V:=U.next G H I);(have E:=V.alloc (.cells #[.string ⟨#[73]⟩] 9)))
  |(go_fit (V.takeOY T ⟨#[73]⟩ (Qac _) _ (by simp) A);rintro e w2 C;obtain⟨J,rfl,o,p,M,N⟩:=C.ok';(have X:=E.next J M N);(have F:=Qj A T))
  |(go_fit (X.refY F D);rintro e s C;obtain⟨O,rfl,q,r,P,R⟩:=C.ok'))
 have Y:=(X.next O P R).over Xb.drew;have Z:=Xh Y;have j:s.drew.cell? ⟨sb,0,none⟩=some (.map (some B)):=Y.step.blk.cell 0;clear U V E X Y G J O H M P I N R C A D F T;refine wp_region_held_drew (S:=fun w'=>w'.cell? ⟨sb,0,none⟩=some (.map (some B))) (by kernel_rfl) j (fun hHeld=>?_);change wpAnyH _ _ _ _ _ 26 _ _ _;iterate 25 ((first|(refine tkN rfl rfl hHeld ?_)|(refine tkY (v:=?_) rfl rfl hHeld ?_ ?_;rotate_left;focus (intro w a;((try dsimp only at a));go_simp;all_goals with_reducible rfl)));try simp only[Act.put,Xa,Xc,Xd])
 refine wpAnyH_ready (rs:=[25]) (fuel:=0) (by kernel_rfl) (by simp) ?_;refine AllReadyH.cons (i:=25) rfl (fun K hK=>?_) AllReadyH.nil;go_simp;refine(h.out _).mono ?_;rintro e wq⟨rfl,rfl⟩;exact And.intro rfl (Z.out.stop Xb rfl)
theorem Zek(w0 w:World)(B:Nat)(l:List Qb)(base:Nat)(ws:World)(sb:Nat)(qb Zb:Str)(lv sv:Value)(L S:List Str)(X:Qm (Za l) S)(xb:Nat)(xv:List Value)(Y:SA w0 w B l base ws lv sv sb qb Zb xb xv ws lv sv L S)(t k:Str)(m:t.size<=maxLen)(g:zd (Za l) t=0)(h n:List Str)(A:zh (Za l) [kI] S=some h)(E:zK h=some (k,n))(hn:(k.toList==[78])=false)(o:0<k.size)(hf:(((k[0]'o).toNat:Int)==91)=true)(h1:(1:Int)<=(k.size:Int))(Z:zd (Za l) (k.extract 1 k.size)=0)(p:Zx (Za l) (Zo (k.extract 1 k.size)) (Zo t)=false):
 Calls Tryz.prog 146 #[.pointer (some ⟨sb,0,none⟩),.string t] ws (qf base ws sb B qb Zb lv sv none):=by
 unfold kI at *;have q:Hid (∀wx,_):=fun wx=>qB wx
 go_enter Tryz.func146,Tryz.ntmps146;go_upto_region 3 with(first
  |(go_fit (Y.knowsY t m g);rintro e w1 D;obtain⟨J,rfl,s,x,M,N⟩:=D.ok';(have a:=Y.next J M N);(have F:=a.alloc (.cells #[.string ⟨#[73]⟩] 9)))
  |(go_fit (a.takeOY X ⟨#[73]⟩ (Qac _) _ (by simp) A);rintro e w2 D;obtain⟨O,rfl,y,z,P,R⟩:=D.ok';(have b:=F.next O P R);(have G:=Qj A X))
  |(go_fit (b.refY G E);rintro e w3 D;obtain⟨T,rfl,aA,aB,U,V⟩:=D.ok'))
 have c:=(b.next T U V).over Xb.drew;have H:=Xh c;have r:w3.drew.cell? ⟨sb,0,none⟩=some (.map (some B)):=c.step.blk.cell 0;clear Y a F b c J O T M P U N R V D A E G X;have j:=Xh (zat w0 _ B l H.out.env.map (k.extract 1 k.size) t Z g);rw[p]at j;refine wp_region_held_drew (S:=fun w'=>w'.cell? ⟨sb,0,none⟩=some (.map (some B))) (by kernel_rfl) r (fun hHeld=>?_);change wpAnyH _ _ _ _ _ 26 _ _ _;iterate 14 ((first|(refine tkN rfl rfl hHeld ?_)|(refine tkY (v:=?_) rfl rfl hHeld ?_ ?_;rotate_left;focus (intro w C;((try dsimp only at C));go_simp;all_goals with_reducible rfl)));try simp only[Act.put,Xa,Xc,Xd])
 refine wpAnyH_ready (rs:=[14]) (fuel:=11) (by kernel_rfl) (by simp) ?_;refine AllReadyH.cons (i:=14) rfl (fun K f=>?_) AllReadyH.nil;go_simp;refine j.out.mono ?_;rintro e w5⟨rfl,d⟩;have I:=Xh (H.out.over d);refine f.out _ _ (I.out.step.blk.cell 0) (fun hHeld=>?_);clear f K;try dsimp only[Act.put]
 change wpAnyH _ _ _ _ _ 11 _ _ _;iterate 10 ((first|(refine tkN rfl rfl hHeld ?_)|(refine tkY (v:=?_) rfl rfl hHeld ?_ ?_;rotate_left;focus (intro w C;((try dsimp only at C));go_simp;all_goals with_reducible rfl)));try simp only[Act.put,Xa,Xc,Xd])
 refine wpAnyH_ready (rs:=[25]) (fuel:=0) (by kernel_rfl) (by simp) ?_;refine AllReadyH.cons (i:=25) rfl (fun K f=>?_) AllReadyH.nil;go_simp;refine(q.out _).mono ?_;rintro e wq⟨rfl,rfl⟩;exact And.intro rfl (I.out.stop Xb rfl)
theorem qd9(w0 w:World)(B:Nat)(l:List Qb)(base:Nat)(ws:World)(sb:Nat)(qb Zb:Str)(lv sv:Value)(L S:List Str)(a:Qm (Za l) S)(xb:Nat)(xv:List Value)(b:SA w0 w B l base ws lv sv sb qb Zb xb xv ws lv sv L S)(t k:Str)(q:t.size<=maxLen)(m:zd (Za l) t=0)(n o:List Str)(E:zh (Za l) [kI] S=some n)(G:zK n=some (k,o))(hn:(k.toList==[78])=false)(r:0<k.size)(hf:(((k[0]'r).toNat:Int)==91)=true)(h1:(1:Int)<=(k.size:Int))(c:zd (Za l) (k.extract 1 k.size)=0)(s:Zx (Za l) (Zo (k.extract 1 k.size)) (Zo t)=true)(H:∀wx,Calls Tryz.prog 151 #[.string (k.extract 1 k.size)] wx fun e w'=>e=.returned (.bool true)/\wx=w')(I:∀wx,Calls Tryz.prog 151 #[.string t] wx fun e w'=>e=.returned (.bool true)/\wx=w'):
 Calls Tryz.prog 146 #[.pointer (some ⟨sb,0,none⟩),.string t] ws (qf base ws sb B qb Zb lv sv (some (.tuple #[],L,o))):=by
 unfold kI at *;have x:Hid (∀wx,_):=fun wx=>ZI wx
 have y:=Xh H;have z:=Xh I;clear H I;go_enter Tryz.func146,Tryz.ntmps146;go_upto_region 3 with(first
  |(go_fit (b.knowsY t q m);rintro e w1 F;obtain⟨O,rfl,lv1,sv1,P,R⟩:=F.ok';(have d:=b.next O P R);(have J:=d.alloc (.cells #[.string ⟨#[73]⟩] 9)))
  |(go_fit (d.takeOY a ⟨#[73]⟩ (Qac _) _ (by simp) E);rintro e w2 F;obtain⟨T,rfl,lv2,sv2,U,V⟩:=F.ok';(have f:=J.next T U V);(have M:=Qj E a))
  |(go_fit (f.refY M G);rintro e w3 F;obtain⟨X,rfl,lv3,sv3,Y,Z⟩:=F.ok'))
 have g:=(f.next X Y Z).over Xb.drew;have N:=Xh g;have q3:w3.drew.cell? ⟨sb,0,none⟩=some (.map (some B)):=g.step.blk.cell 0;clear b d J f g O T X P U Y R V Z F E G M a;have p:=Xh (zat w0 _ B l N.out.env.map (k.extract 1 k.size) t c m);rw[s]at p;refine wp_region_held_drew (S:=fun w'=>w'.cell? ⟨sb,0,none⟩=some (.map (some B))) (by kernel_rfl) q3 (fun hHeld=>?_);change wpAnyH _ _ _ _ _ 26 _ _ _;iterate 14 ((first|(refine tkN rfl rfl hHeld ?_)|(refine tkY (v:=?_) rfl rfl hHeld ?_ ?_;rotate_left;focus (intro w A;((try dsimp only at A));go_simp;all_goals with_reducible rfl)));try simp only[Act.put,Xa,Xc,Xd])
 refine wpAnyH_ready (rs:=[14]) (fuel:=11) (by kernel_rfl) (by simp) ?_;refine AllReadyH.cons (i:=14) rfl (fun K D=>?_) AllReadyH.nil;go_simp;refine p.out.mono ?_;rintro e w5⟨rfl,j⟩;have C:=Xh (N.out.over j);refine D.out _ _ (C.out.step.blk.cell 0) (fun hHeld=>?_);clear D K;try dsimp only[Act.put]
 change wpAnyH _ _ _ _ _ 11 _ _ _;iterate 4 ((first|(refine tkN rfl rfl hHeld ?_)|(refine tkY (v:=?_) rfl rfl hHeld ?_ ?_;rotate_left;focus (intro w A;((try dsimp only at A));go_simp;all_goals with_reducible rfl)));try simp only[Act.put,Xa,Xc,Xd])
 refine tkI (i:=20) (fuel:=6) (v:=?_) rfl (by kernel_rfl) (by kernel_rfl) (by kernel_rfl) (fun _ _ _ h=>h) (by rfl) hHeld ?_ ?_;rotate_left;focus (intro w A;((try dsimp only at A));go_simp;all_goals with_reducible rfl);(try simp only[Act.put]);(try simp only[Xa]);(try simp only[Xd]);(try simp only[Xc])
 refine wpAnyH_ready (rs:=[19]) (fuel:=5) (by kernel_rfl) (by simp) ?_;refine AllReadyH.cons (i:=19) rfl (fun K D=>?_) AllReadyH.nil;go_simp;refine(y.out _).mono ?_;rintro e wr⟨rfl,rfl⟩;refine D.out _ _ (C.out.step.blk.cell 0) (fun hHeld=>?_);clear D K;try dsimp only[Act.put]
 refine wpAnyH_ready (rs:=[21]) (fuel:=4) (by kernel_rfl) (by simp) ?_;refine AllReadyH.cons (i:=21) rfl (fun K D=>?_) AllReadyH.nil;go_simp;refine(z.out _).mono ?_;rintro e wr⟨rfl,rfl⟩;refine D.out _ _ (C.out.step.blk.cell 0) (fun hHeld=>?_);clear D K;try dsimp only[Act.put]
 change wpAnyH _ _ _ _ _ 4 _ _ _;iterate 3 ((first|(refine tkN rfl rfl hHeld ?_)|(refine tkY (v:=?_) rfl rfl hHeld ?_ ?_;rotate_left;focus (intro w A;((try dsimp only at A));go_simp;all_goals with_reducible rfl)));(try simp only[Act.put]);(try simp only[Xa]);(try simp only[Xd]);(try simp only[Xc]))
 refine wpAnyH_ready (rs:=[25]) (fuel:=0) (by kernel_rfl) (by simp) ?_;refine AllReadyH.cons (i:=25) rfl (fun K D=>?_) AllReadyH.nil;go_simp;refine(x.out _).mono ?_;rintro e wq⟨rfl,rfl⟩;refine D.out _ _ (C.out.step.blk.cell 0) (fun hHeld=>?_);clear D K;try dsimp only[Act.put]
 refine wpAnyH_done (by kernel_rfl) ?_ _;clear hHeld;go_wp2_with fail;go_end0;exact C.out.done rfl
theorem Qd9(w0 w:World)(B:Nat)(l:List Qb)(base:Nat)(ws:World)(sb:Nat)(qb Zb:Str)(lv sv:Value)(L S:List Str)(a:Qm (Za l) S)(xb:Nat)(xv:List Value)(b:SA w0 w B l base ws lv sv sb qb Zb xb xv ws lv sv L S)(t k:Str)(p:t.size<=maxLen)(m:zd (Za l) t=0)(n q:List Str)(E:zh (Za l) [kI] S=some n)(G:zK n=some (k,q))(hn:(k.toList==[78])=false)(r:0<k.size)(hf:(((k[0]'r).toNat:Int)==91)=true)(h1:(1:Int)<=(k.size:Int))(c:zd (Za l) (k.extract 1 k.size)=0)(s:Zx (Za l) (Zo (k.extract 1 k.size)) (Zo t)=true)(H:∀wx,Calls Tryz.prog 151 #[.string (k.extract 1 k.size)] wx fun e w'=>e=.returned (.bool true)/\wx=w')(I:∀wx,Calls Tryz.prog 151 #[.string t] wx fun e w'=>e=.returned (.bool false)/\wx=w'):
 Calls Tryz.prog 146 #[.pointer (some ⟨sb,0,none⟩),.string t] ws (qf base ws sb B qb Zb lv sv none):=by
 unfold kI at *;have x:Hid (∀wx,_):=fun wx=>qB wx
 have y:=Xh H;have z:=Xh I;clear H I;go_enter Tryz.func146,Tryz.ntmps146;go_upto_region 3 with(first
  |(go_fit (b.knowsY t p m);rintro e w1 F;obtain⟨O,rfl,lv1,sv1,P,R⟩:=F.ok';(have d:=b.next O P R);(have J:=d.alloc (.cells #[.string ⟨#[73]⟩] 9)))
  |(go_fit (d.takeOY a ⟨#[73]⟩ (Qac _) _ (by simp) E);rintro e w2 F;obtain⟨T,rfl,lv2,sv2,U,V⟩:=F.ok';(have f:=J.next T U V);(have M:=Qj E a))
  |(go_fit (f.refY M G);rintro e w3 F;obtain⟨X,rfl,lv3,sv3,Y,Z⟩:=F.ok'))
 have g:=(f.next X Y Z).over Xb.drew;have N:=Xh g;have q3:w3.drew.cell? ⟨sb,0,none⟩=some (.map (some B)):=g.step.blk.cell 0;clear b d J f g O T X P U Y R V Z F E G M a;have o:=Xh (zat w0 _ B l N.out.env.map (k.extract 1 k.size) t c m);rw[s]at o;refine wp_region_held_drew (S:=fun w'=>w'.cell? ⟨sb,0,none⟩=some (.map (some B))) (by kernel_rfl) q3 (fun hHeld=>?_);change wpAnyH _ _ _ _ _ 26 _ _ _;iterate 14 ((first|(refine tkN rfl rfl hHeld ?_)|(refine tkY (v:=?_) rfl rfl hHeld ?_ ?_;rotate_left;focus (intro w A;((try dsimp only at A));go_simp;all_goals with_reducible rfl)));try simp only[Act.put,Xa,Xc,Xd])
 refine wpAnyH_ready (rs:=[14]) (fuel:=11) (by kernel_rfl) (by simp) ?_;refine AllReadyH.cons (i:=14) rfl (fun K D=>?_) AllReadyH.nil;go_simp;refine o.out.mono ?_;rintro e w5⟨rfl,j⟩;have C:=Xh (N.out.over j);refine D.out _ _ (C.out.step.blk.cell 0) (fun hHeld=>?_);clear D K;try dsimp only[Act.put]
 change wpAnyH _ _ _ _ _ 11 _ _ _;iterate 4 ((first|(refine tkN rfl rfl hHeld ?_)|(refine tkY (v:=?_) rfl rfl hHeld ?_ ?_;rotate_left;focus (intro w A;((try dsimp only at A));go_simp;all_goals with_reducible rfl)));try simp only[Act.put,Xa,Xc,Xd])
 refine tkI (i:=20) (fuel:=6) (v:=?_) rfl (by kernel_rfl) (by kernel_rfl) (by kernel_rfl) (fun _ _ _ h=>h) (by rfl) hHeld ?_ ?_;rotate_left;focus (intro w A;((try dsimp only at A));go_simp;all_goals with_reducible rfl);(try simp only[Act.put]);(try simp only[Xa]);(try simp only[Xd]);(try simp only[Xc])
 refine wpAnyH_ready (rs:=[19]) (fuel:=5) (by kernel_rfl) (by simp) ?_;refine AllReadyH.cons (i:=19) rfl (fun K D=>?_) AllReadyH.nil;go_simp;refine(y.out _).mono ?_;rintro e wr⟨rfl,rfl⟩;refine D.out _ _ (C.out.step.blk.cell 0) (fun hHeld=>?_);clear D K;try dsimp only[Act.put]
 refine wpAnyH_ready (rs:=[21]) (fuel:=4) (by kernel_rfl) (by simp) ?_;refine AllReadyH.cons (i:=21) rfl (fun K D=>?_) AllReadyH.nil;go_simp;refine(z.out _).mono ?_;rintro e wr⟨rfl,rfl⟩;refine D.out _ _ (C.out.step.blk.cell 0) (fun hHeld=>?_);clear D K;try dsimp only[Act.put]
 change wpAnyH _ _ _ _ _ 4 _ _ _;iterate 3 ((first|(refine tkN rfl rfl hHeld ?_)|(refine tkY (v:=?_) rfl rfl hHeld ?_ ?_;rotate_left;focus (intro w A;((try dsimp only at A));go_simp;all_goals with_reducible rfl)));(try simp only[Act.put]);(try simp only[Xa]);(try simp only[Xd]);(try simp only[Xc]))
 refine wpAnyH_ready (rs:=[25]) (fuel:=0) (by kernel_rfl) (by simp) ?_;refine AllReadyH.cons (i:=25) rfl (fun K D=>?_) AllReadyH.nil;go_simp;refine(x.out _).mono ?_;rintro e wq⟨rfl,rfl⟩;exact And.intro rfl (C.out.stop Xb rfl)
theorem zea(w0 w:World)(B:Nat)(l:List Qb)(base:Nat)(ws:World)(sb:Nat)(qb Zb:Str)(lv sv:Value)(L S:List Str)(a:Qm (Za l) S)(xb:Nat)(xv:List Value)(b:SA w0 w B l base ws lv sv sb qb Zb xb xv ws lv sv L S)(t k:Str)(p:t.size<=maxLen)(m:zd (Za l) t=0)(n q:List Str)(E:zh (Za l) [kI] S=some n)(G:zK n=some (k,q))(hn:(k.toList==[78])=false)(r:0<k.size)(hf:(((k[0]'r).toNat:Int)==91)=true)(h1:(1:Int)<=(k.size:Int))(c:zd (Za l) (k.extract 1 k.size)=0)(s:Zx (Za l) (Zo (k.extract 1 k.size)) (Zo t)=true)(H:∀wx,Calls Tryz.prog 151 #[.string (k.extract 1 k.size)] wx fun e w'=>e=.returned (.bool false)/\wx=w')(I:∀wx,Calls Tryz.prog 151 #[.string t] wx fun e w'=>e=.returned (.bool true)/\wx=w'):
 Calls Tryz.prog 146 #[.pointer (some ⟨sb,0,none⟩),.string t] ws (qf base ws sb B qb Zb lv sv none):=by
 unfold kI at *;have x:Hid (∀wx,_):=fun wx=>qB wx
 have y:=Xh H;have z:=Xh I;clear H I;go_enter Tryz.func146,Tryz.ntmps146;go_upto_region 3 with(first
  |(go_fit (b.knowsY t p m);rintro e w1 F;obtain⟨O,rfl,lv1,sv1,P,R⟩:=F.ok';(have d:=b.next O P R);(have J:=d.alloc (.cells #[.string ⟨#[73]⟩] 9)))
  |(go_fit (d.takeOY a ⟨#[73]⟩ (Qac _) _ (by simp) E);rintro e w2 F;obtain⟨T,rfl,lv2,sv2,U,V⟩:=F.ok';(have f:=J.next T U V);(have M:=Qj E a))
  |(go_fit (f.refY M G);rintro e w3 F;obtain⟨X,rfl,lv3,sv3,Y,Z⟩:=F.ok'))
 have g:=(f.next X Y Z).over Xb.drew;have N:=Xh g;have q3:w3.drew.cell? ⟨sb,0,none⟩=some (.map (some B)):=g.step.blk.cell 0;clear b d J f g O T X P U Y R V Z F E G M a;have o:=Xh (zat w0 _ B l N.out.env.map (k.extract 1 k.size) t c m);rw[s]at o;refine wp_region_held_drew (S:=fun w'=>w'.cell? ⟨sb,0,none⟩=some (.map (some B))) (by kernel_rfl) q3 (fun hHeld=>?_);change wpAnyH _ _ _ _ _ 26 _ _ _;iterate 14 ((first|(refine tkN rfl rfl hHeld ?_)|(refine tkY (v:=?_) rfl rfl hHeld ?_ ?_;rotate_left;focus (intro w A;((try dsimp only at A));go_simp;all_goals with_reducible rfl)));try simp only[Act.put,Xa,Xc,Xd])
 refine wpAnyH_ready (rs:=[14]) (fuel:=11) (by kernel_rfl) (by simp) ?_;refine AllReadyH.cons (i:=14) rfl (fun K D=>?_) AllReadyH.nil;go_simp;refine o.out.mono ?_;rintro e w5⟨rfl,j⟩;have C:=Xh (N.out.over j);refine D.out _ _ (C.out.step.blk.cell 0) (fun hHeld=>?_);clear D K;try dsimp only[Act.put]
 change wpAnyH _ _ _ _ _ 11 _ _ _;iterate 4 ((first|(refine tkN rfl rfl hHeld ?_)|(refine tkY (v:=?_) rfl rfl hHeld ?_ ?_;rotate_left;focus (intro w A;((try dsimp only at A));go_simp;all_goals with_reducible rfl)));try simp only[Act.put,Xa,Xc,Xd])
 refine tkI (i:=20) (fuel:=6) (v:=?_) rfl (by kernel_rfl) (by kernel_rfl) (by kernel_rfl) (fun _ _ _ h=>h) (by rfl) hHeld ?_ ?_;rotate_left;focus (intro w A;((try dsimp only at A));go_simp;all_goals with_reducible rfl);(try simp only[Act.put]);(try simp only[Xa]);(try simp only[Xd]);(try simp only[Xc])
 refine wpAnyH_ready (rs:=[19]) (fuel:=5) (by kernel_rfl) (by simp) ?_;refine AllReadyH.cons (i:=19) rfl (fun K D=>?_) AllReadyH.nil;go_simp;refine(y.out _).mono ?_;rintro e wr⟨rfl,rfl⟩;refine D.out _ _ (C.out.step.blk.cell 0) (fun hHeld=>?_);clear D K;try dsimp only[Act.put]
 refine wpAnyH_ready (rs:=[21]) (fuel:=4) (by kernel_rfl) (by simp) ?_;refine AllReadyH.cons (i:=21) rfl (fun K D=>?_) AllReadyH.nil;go_simp;refine(z.out _).mono ?_;rintro e wr⟨rfl,rfl⟩;refine D.out _ _ (C.out.step.blk.cell 0) (fun hHeld=>?_);clear D K;try dsimp only[Act.put]
 change wpAnyH _ _ _ _ _ 4 _ _ _;iterate 3 ((first|(refine tkN rfl rfl hHeld ?_)|(refine tkY (v:=?_) rfl rfl hHeld ?_ ?_;rotate_left;focus (intro w A;((try dsimp only at A));go_simp;all_goals with_reducible rfl)));(try simp only[Act.put]);(try simp only[Xa]);(try simp only[Xd]);(try simp only[Xc]))
 refine wpAnyH_ready (rs:=[25]) (fuel:=0) (by kernel_rfl) (by simp) ?_;refine AllReadyH.cons (i:=25) rfl (fun K D=>?_) AllReadyH.nil;go_simp;refine(x.out _).mono ?_;rintro e wq⟨rfl,rfl⟩;exact And.intro rfl (C.out.stop Xb rfl)
theorem Zea(w0 w:World)(B:Nat)(l:List Qb)(base:Nat)(ws:World)(sb:Nat)(qb Zb:Str)(lv sv:Value)(L S:List Str)(a:Qm (Za l) S)(xb:Nat)(xv:List Value)(b:SA w0 w B l base ws lv sv sb qb Zb xb xv ws lv sv L S)(t k:Str)(q:t.size<=maxLen)(m:zd (Za l) t=0)(n o:List Str)(E:zh (Za l) [kI] S=some n)(G:zK n=some (k,o))(hn:(k.toList==[78])=false)(r:0<k.size)(hf:(((k[0]'r).toNat:Int)==91)=true)(h1:(1:Int)<=(k.size:Int))(c:zd (Za l) (k.extract 1 k.size)=0)(s:Zx (Za l) (Zo (k.extract 1 k.size)) (Zo t)=true)(H:∀wx,Calls Tryz.prog 151 #[.string (k.extract 1 k.size)] wx fun e w'=>e=.returned (.bool false)/\wx=w')(I:∀wx,Calls Tryz.prog 151 #[.string t] wx fun e w'=>e=.returned (.bool false)/\wx=w'):
 Calls Tryz.prog 146 #[.pointer (some ⟨sb,0,none⟩),.string t] ws (qf base ws sb B qb Zb lv sv (some (.tuple #[],L,o))):=by
 unfold kI at *;have x:Hid (∀wx,_):=fun wx=>ZI wx
 have y:=Xh H;have z:=Xh I;clear H I;go_enter Tryz.func146,Tryz.ntmps146;go_upto_region 3 with(first
  |(go_fit (b.knowsY t q m);rintro e w1 F;obtain⟨O,rfl,lv1,sv1,P,R⟩:=F.ok';(have d:=b.next O P R);(have J:=d.alloc (.cells #[.string ⟨#[73]⟩] 9)))
  |(go_fit (d.takeOY a ⟨#[73]⟩ (Qac _) _ (by simp) E);rintro e w2 F;obtain⟨T,rfl,lv2,sv2,U,V⟩:=F.ok';(have f:=J.next T U V);(have M:=Qj E a))
  |(go_fit (f.refY M G);rintro e w3 F;obtain⟨X,rfl,lv3,sv3,Y,Z⟩:=F.ok'))
 have g:=(f.next X Y Z).over Xb.drew;have N:=Xh g;have q3:w3.drew.cell? ⟨sb,0,none⟩=some (.map (some B)):=g.step.blk.cell 0;clear b d J f g O T X P U Y R V Z F E G M a;have p:=Xh (zat w0 _ B l N.out.env.map (k.extract 1 k.size) t c m);rw[s]at p;refine wp_region_held_drew (S:=fun w'=>w'.cell? ⟨sb,0,none⟩=some (.map (some B))) (by kernel_rfl) q3 (fun hHeld=>?_);change wpAnyH _ _ _ _ _ 26 _ _ _;iterate 14 ((first|(refine tkN rfl rfl hHeld ?_)|(refine tkY (v:=?_) rfl rfl hHeld ?_ ?_;rotate_left;focus (intro w A;((try dsimp only at A));go_simp;all_goals with_reducible rfl)));try simp only[Act.put,Xa,Xc,Xd])
 refine wpAnyH_ready (rs:=[14]) (fuel:=11) (by kernel_rfl) (by simp) ?_;refine AllReadyH.cons (i:=14) rfl (fun K D=>?_) AllReadyH.nil;go_simp;refine p.out.mono ?_;rintro e w5⟨rfl,j⟩;have C:=Xh (N.out.over j);refine D.out _ _ (C.out.step.blk.cell 0) (fun hHeld=>?_);clear D K;try dsimp only[Act.put]
 change wpAnyH _ _ _ _ _ 11 _ _ _;iterate 4 ((first|(refine tkN rfl rfl hHeld ?_)|(refine tkY (v:=?_) rfl rfl hHeld ?_ ?_;rotate_left;focus (intro w A;((try dsimp only at A));go_simp;all_goals with_reducible rfl)));try simp only[Act.put,Xa,Xc,Xd])
 refine tkI (i:=20) (fuel:=6) (v:=?_) rfl (by kernel_rfl) (by kernel_rfl) (by kernel_rfl) (fun _ _ _ h=>h) (by rfl) hHeld ?_ ?_;rotate_left;focus (intro w A;((try dsimp only at A));go_simp;all_goals with_reducible rfl);(try simp only[Act.put]);(try simp only[Xa]);(try simp only[Xd]);(try simp only[Xc])
 refine wpAnyH_ready (rs:=[19]) (fuel:=5) (by kernel_rfl) (by simp) ?_;refine AllReadyH.cons (i:=19) rfl (fun K D=>?_) AllReadyH.nil;go_simp;refine(y.out _).mono ?_;rintro e wr⟨rfl,rfl⟩;refine D.out _ _ (C.out.step.blk.cell 0) (fun hHeld=>?_);clear D K;try dsimp only[Act.put]
 refine wpAnyH_ready (rs:=[21]) (fuel:=4) (by kernel_rfl) (by simp) ?_;refine AllReadyH.cons (i:=21) rfl (fun K D=>?_) AllReadyH.nil;go_simp;refine(z.out _).mono ?_;rintro e wr⟨rfl,rfl⟩;refine D.out _ _ (C.out.step.blk.cell 0) (fun hHeld=>?_);clear D K;try dsimp only[Act.put]
 change wpAnyH _ _ _ _ _ 4 _ _ _;iterate 3 ((first|(refine tkN rfl rfl hHeld ?_)|(refine tkY (v:=?_) rfl rfl hHeld ?_ ?_;rotate_left;focus (intro w A;((try dsimp only at A));go_simp;all_goals with_reducible rfl)));(try simp only[Act.put]);(try simp only[Xa]);(try simp only[Xd]);(try simp only[Xc]))
 refine wpAnyH_ready (rs:=[25]) (fuel:=0) (by kernel_rfl) (by simp) ?_;refine AllReadyH.cons (i:=25) rfl (fun K D=>?_) AllReadyH.nil;go_simp;refine(x.out _).mono ?_;rintro e wq⟨rfl,rfl⟩;refine D.out _ _ (C.out.step.blk.cell 0) (fun hHeld=>?_);clear D K;try dsimp only[Act.put]
 refine wpAnyH_done (by kernel_rfl) ?_ _;clear hHeld;go_wp2_with fail;go_end0;exact C.out.done rfl
set_option maxRecDepth 512
theorem qaH{x:Ty}:Zf x≠[78]/\Zf x≠[84]:=by cases x<;>simp[Zf]
theorem qaD{cs:List Qb}{k:Str}{x:Ty}(C:Zf x=lst k)(A:zao x=true)(B:zq x<=3)(D:qH cs x=true):zd cs k=0:=by
 unfold zd;rw[<-C,if_neg (by rintro(h|h);exact qaH.1 h;exact qaH.2 h),qaE A B,if_neg (by decide),Qb6 A B];rcases QbC x D with h|h
 ·rw[h];rfl
 ·rw[if_pos h];split<;>rfl
theorem qbk{cs:List Qb}{k:Str}{x:Ty}(A:Zf x=lst k)(h:zd cs k=0):Zbj k x/\qH cs x=true:=by
 have C:Zbj k x:=by
  unfold zd at h;rw[if_neg (by rw[<-A];rintro(h|h);exact qaH.1 h;exact qaH.2 h)]at h;split at h
  ·cases h
  ·rename_i F;obtain⟨y,B⟩:=Zaq (t:=k) (by simpa using F);have:=zaE (B.text.trans A.symm);subst this;exact B
 obtain⟨X,D,E⟩:=ZM h;have:X=.ty x:=Zbh (D.trans A.symm);subst this;exact⟨C,E⟩
theorem zdl{cs:List Qb}{k:Str}{e:Ty}(A:Zf (.ar e)=lst k)(h:zd cs k=0):zd cs (k.extract 1 k.size)=0:=by
 obtain⟨B,D⟩:=qbk A h;have C:=B.deep;exact qaD (zaa A).1 B.name (by unfold zq at C;omega) D
theorem Qa7{S A:List Str}{k:Str}(h:zK S=some (k,A)):zI S=some (k,A)/\Z9 (Zo k)=true:=by
 unfold zK at h;cases B:zI S with
 |none=>rw[B]at h;cases h
 |some p =>
  obtain⟨F,G⟩:=p;rw[B,Option.bind_some]at h;dsimp only at h;split at h
  ·rename_i C;injection h with h
   injection h with D E
   subst D E;exact⟨rfl,C⟩
  ·cases h
theorem qek{cs:List Qb}{k t:Str}(h:Zo k=.n):qaW cs k t=true:=by unfold qaW;rw[h]
theorem Qek{cs:List Qb}{k t c:Str}(h:Zo k=.ty (.cl c)):qaW cs k t=false:=by unfold qaW;rw[h]
theorem zel{cs:List Qb}{k t m:Str}{e:Ty}(h:Zo k=.ty (.ar e))(g:Zo m=.ty e):qaW cs k t=(Zx cs (Zo m) (Zo t)&&(zm e==Zt (Zo t))):=by unfold qaW;rw[h,g]
set_option maxRecDepth 100000
theorem zcv(w0 w:World)(B:Nat)(l:List Qb)(base:Nat)(ws:World)(hE:Env w0 w B l base ws)(sb:Nat)(qb Zb:Str)(lv sv:Value)(L S:List Str)(h:Qi base ws sb B qb Zb lv sv L S)(J:Qm (Za l) S)(xb:Nat)(xv:List Value)(hb:Blk ws xb 24 xv)(hx:zaM sb lv sv xb)(t:Str)(M:t.size<=maxLen):
 Calls Tryz.prog 146 #[.pointer (some ⟨sb,0,none⟩),.string t] ws (qf base ws sb B qb Zb lv sv ((qJ (Za l) t S).map fun S'=>(.tuple #[],L,S'))):=by
 have F:SA w0 w B l base ws lv sv sb qb Zb xb xv ws lv sv L S:=⟨hE,h,hb,hx,Xb,Kp.below Xb⟩;unfold qJ;by_cases G:zd (Za l) t=0
 ·rw[if_neg (by rw[G];decide)];cases A:zh (Za l) [kI] S with
  |none =>
   rw[Option.bind_none,Option.map_none];unfold kI at A;go_enter Tryz.func146,Tryz.ntmps146;go_wp2_with (first
    |(go_fit (F.knowsY t M G);rintro e w1 I;obtain⟨H,rfl,v,y,T,D⟩:=I.ok';(have d:=F.next H T D);(have R:=d.alloc (.cells #[.string ⟨#[73]⟩] 9)))
    |(go_fit (d.takeON J ⟨#[73]⟩ (Qac _) _ (by simp) A);rintro e w2 I;obtain⟨U,rfl⟩:=I.no'))
   exact And.intro rfl (R.stop U rfl)
  |some P =>
   rw[Option.bind_some];have f:=Qj A J;cases E:zK P with
   |none =>
    rw[Option.bind_none,Option.map_none];unfold kI at A;go_enter Tryz.func146,Tryz.ntmps146;go_wp2_with (first
     |(go_fit (F.knowsY t M G);rintro e w1 I;obtain⟨H,rfl,v,y,T,D⟩:=I.ok';(have d:=F.next H T D);(have R:=d.alloc (.cells #[.string ⟨#[73]⟩] 9)))
     |(go_fit (d.takeOY J ⟨#[73]⟩ (Qac _) _ (by simp) A);rintro e w2 I;obtain⟨U,rfl,lv2,sv2,z,aA⟩:=I.ok';(have T2:=R.next U z aA))
     |(go_fit (T2.refN f E);rintro e w3 I;obtain⟨aB,rfl⟩:=I.no'))
    exact And.intro rfl (T2.stop aB rfl)
   |some p =>
    obtain⟨k,V⟩:=p;rw[Option.bind_some];dsimp only;obtain⟨hp,r⟩:=Qa7 E;obtain⟨o,_⟩:=qae hp f;obtain⟨X,b,_⟩:=ZM o;have N:=ZP b .n;rw[show Qo Kd.n=[78] from rfl]at N;have O:=qz b;rw[O]at r;cases X with
    |n =>
     rw[Xj rfl]at N;rw[qek O];exact Qej w0 w B l base ws sb qb Zb lv sv L S J xb xv F t k M G P V A E N
    |t=>cases r
    |ty x =>
     rw[Xi (by intro h;cases h)]at N;have C:0<k.size:=by
      have h1:(lst k).length=k.size:=rfl;have h2:lst k=Zf x:=b.symm;rw[<-h1,h2];cases x<;>simp[Zf]
     have Z:=Zb3 (k:=k) (x:=x) b C;cases x with
     |i=>cases r
     |j=>cases r
     |cl c =>
      rw[Qek O];exact zek w0 w B l base ws sb qb Zb lv sv L S J xb xv F t k M G P V A E N C Z
     |ar e =>
      obtain⟨q,_,hs1⟩:=zaa b;have D:=zdl b o;have s:Zo (k.extract 1 k.size)=.ty e:=qz (x:=.ty e) q;rw[zel O s];cases m:Zx (Za l) (Zo (k.extract 1 k.size)) (Zo t) with
      |false =>
       rw[Bool.false_and,if_neg (by decide)];exact Zek w0 w B l base ws sb qb Zb lv sv L S J xb xv F t k M G P V A E N C Z (by omega) D m
      |true =>
       rw[Bool.true_and];obtain⟨Y,hY,_⟩:=ZM G;have a:∀wx,_:=fun wx=>zN (k.extract 1 k.size) (.ty e) wx q
       have g:∀wx,_:=fun wx=>zN t Y wx hY
       rw[show Zt (.ty e)=zm e from rfl]at a;rw[qz hY];cases hu:zm e<;>cases hv:Zt Y<;>rw[hu]at a<;>rw[hv]at g
       ·exact Zea w0 w B l base ws sb qb Zb lv sv L S J xb xv F t k M G P V A E N C Z (by omega) D m a g
       ·exact zea w0 w B l base ws sb qb Zb lv sv L S J xb xv F t k M G P V A E N C Z (by omega) D m a g
       ·exact Qd9 w0 w B l base ws sb qb Zb lv sv L S J xb xv F t k M G P V A E N C Z (by omega) D m a g
       ·exact qd9 w0 w B l base ws sb qb Zb lv sv L S J xb xv F t k M G P V A E N C Z (by omega) D m a g
 ·rw[if_pos G,Option.map_none];go_enter Tryz.func146,Tryz.ntmps146;go_wp2_with (first
   |(go_fit (F.knowsN t M G);rintro e w1 I;obtain⟨H,rfl⟩:=I.no'))
  exact And.intro rfl (F.stop H rfl)
set_option maxRecDepth 512
def knK{α:Type}(cs:List Qb)(t:Str)(o:Option α):Option α:=if zd cs t≠0 then none else o
theorem Qa5{α:Type}{cs:List Qb}{t:Str}{o:Option α}(h:¬zd cs t=0):knK cs t o=none:=by unfold knK;rw[if_pos h]
theorem QW{α:Type}{cs:List Qb}{t:Str}{o:Option α}(h:¬¬zd cs t=0):knK cs t o=o:=by unfold knK;rw[if_neg h]
def zX(k:Str):Bool:=(k.toList==[78])||Lib.hasPrefix k.toList [91]
def Zbb(cs:List Qb)(cls:Str)(L S:List Str):Option (List Str×List Str):=if (qh cs cls).face=true then none else Zv L S (Zd cls)
def zP(cs:List Qb)(qb:Str)(x:Ins)(L S:List Str):Option (List Str×List Str) :=
 if x.op=15 then knK cs (Zd x.cls) (Zbb cs x.cls L S)
 else if x.op=16 then (zG cs x.cls x.name).bind fun t=>(zh cs [Zd x.cls] S).bind fun S1=>Zv L S1 t
 else if x.op=17 then (zG cs x.cls x.name).bind fun t=>(zh cs [t,Zd x.cls] S).map fun S1=>(L,S1)
 else if x.op=18 then knK cs x.type ((zh cs [kI] S).bind fun S1=>Zv L S1 (ZF x.type))
 else if x.op=19 then (zK S).bind fun p=>if zX p.1=true then Zv L p.2 kI else none
 else if x.op=20 then (qJ cs x.type S).bind fun S1=>Zv L S1 x.type
 else if x.op=21 then knK cs x.type ((zh cs [x.type] S).bind fun S1=>(qJ cs x.type S1).map fun S2=>(L,S2))
 else if x.op=22 then knK cs x.type ((zK S).bind fun p=>Zv L p.2 x.type)
 else if x.op=23 then knK cs x.type ((zK S).bind fun p=>Zv L p.2 kI)
 else if x.op=24 then qam cs qb x.cls x.name x.type false L S
 else if x.op=25 then qam cs qb x.cls x.name x.type true L S
 else some (L,S)
theorem Zbx{cs:List Qb}{t:Str}{S C:List Str}(h:qJ cs t S=some C)(D:Qm cs S):Qm cs C:=by
 unfold qJ at h;split at h
 ·cases h
 ·cases A:zh cs [kI] S with
  |none=>rw[A]at h;cases h
  |some E =>
   rw[A,Option.bind_some]at h;cases B:zK E with
   |none=>rw[B]at h;cases h
   |some p =>
    obtain⟨k,F⟩:=p;rw[B,Option.bind_some]at h;dsimp only at h;split at h
    ·injection h with h
     subst h;exact(qae (Qa7 B).1 (Qj A D)).2
    ·cases h
variable {w0 w:World} {B:Nat} {l:List Qb} {base:Nat} {ws:World} {lv0 sv0:Value} {sb:Nat} {qb Zb:Str} {xb:Nat} {xv:List Value} {wx:World} {lv sv:Value} {L S:List Str}
theorem SA.arrayN(T:SA w0 w B l base ws lv0 sv0 sb qb Zb xb xv wx lv sv L S)(A:Qm (Za l) S)(t:Str)(C:t.size<=maxLen)(D:qJ (Za l) t S=none):Calls Tryz.prog 146 #[.pointer (some ⟨sb,0,none⟩),.string t] wx (qf base wx sb B qb Zb lv sv none):=by
 have h:=zcv w0 w B l base wx T.env sb qb Zb lv sv L S T.step A xb xv T.box T.apart t C;rw[D]at h;exact h
theorem SA.arrayY(T:SA w0 w B l base ws lv0 sv0 sb qb Zb xb xv wx lv sv L S)(C:Qm (Za l) S)(t:Str)(D:t.size<=maxLen){A:List Str}(E:qJ (Za l) t S=some A):Calls Tryz.prog 146 #[.pointer (some ⟨sb,0,none⟩),.string t] wx (qf base wx sb B qb Zb lv sv (some (.tuple #[],L,A))):=by
 have h:=zcv w0 w B l base wx T.env sb qb Zb lv sv L S T.step C xb xv T.box T.apart t D;rw[E]at h;exact h
theorem SA.fieldN(T:SA w0 w B l base ws lv0 sv0 sb qb Zb xb xv wx lv sv L S)(D a b:Int)(C cls A:Str)(E:cls.size<=1048576)(F:zG (Za l) cls A=none):Calls Tryz.prog 144 #[.pointer (some ⟨sb,0,none⟩),.agg #[.int .i64 D,.int .i64 a,.int .i64 b,.string C,.string cls,.string A]] wx (qf base wx sb B qb Zb lv sv none):=by
 have h:=Zcl w0 w B l base wx T.env sb qb Zb lv sv L S T.step D a b C cls A E;rw[F]at h;exact h
theorem SA.fieldY(T:SA w0 w B l base ws lv0 sv0 sb qb Zb xb xv wx lv sv L S)(D a b:Int)(C cls A:Str)(E:cls.size<=1048576){t:Str}(F:zG (Za l) cls A=some t):Calls Tryz.prog 144 #[.pointer (some ⟨sb,0,none⟩),.agg #[.int .i64 D,.int .i64 a,.int .i64 b,.string C,.string cls,.string A]] wx (qf base wx sb B qb Zb lv sv (some (.string t,L,S))):=by
 have h:=Zcl w0 w B l base wx T.env sb qb Zb lv sv L S T.step D a b C cls A E;rw[F]at h;exact h
theorem Zao{cs:List Qb}{c n t:Str}(h:zG cs c n=some t):zd cs (Zd c)=0/\zd cs t=0:=by
 unfold zG at h;split at h
 ·cases h
 ·rename_i B;refine⟨Decidable.not_not.1 B,?_⟩;cases A:zam cs c n with
  |none=>rw[A]at h;cases h
  |some p =>
   obtain⟨d,f⟩:=p;rw[A]at h;dsimp only at h;split at h
   ·rename_i C;injection h with h
    subst h;exact C
   ·cases h
set_option maxRecDepth 100000
theorem zdN(w0 w:World)(B:Nat)(l:List Qb)(base:Nat)(ws:World)(q:Env w0 w B l base ws)(sb:Nat)(qb Zb:Str)(lv sv:Value)(L S:List Str)(h:Qi base ws sb B qb Zb lv sv L S)(P:Qm (Za l) S)(a b:Int)(C cls A:Str)(_hty:C.size<=1048576)(M:cls.size<=1048576)(_hfr:qb.size<=maxLen):
 Calls Tryz.prog 102 #[.pointer (some ⟨sb,0,none⟩),.agg #[.int .i64 16,.int .i64 a,.int .i64 b,.string C,.string cls,.string A]] ws (qf base ws sb B qb Zb lv sv (Qn ((zG (Za l) cls A).bind fun t=>(zh (Za l) [Zd cls] S).bind fun o=>Zv L o t))):=by
 have F:SA w0 w B l base ws lv sv sb qb Zb ws.heap.size [.int .i64 16,.int .i64 a,.int .i64 b,.string C,.string cls,.string A] (ws.alloc (.cells #[.int .i64 16,.int .i64 a,.int .i64 b,.string C,.string cls,.string A] 24)) lv sv L S:=SA.new q h _;obtain⟨T,U,V,X,Y,Z⟩:=F.cells;obtain⟨x,D⟩:∃r,Qn ((zG (Za l) cls A).bind fun t=>(zh (Za l) [Zd cls] S).bind fun o=>Zv L o t)=r:=⟨_,rfl⟩;have N:=Xh D;rw[D];have R:Hid (∀wx,_):=fun wx=>QX cls wx (Xf M (by decide))
 have G:(Zd cls).size<=maxLen:=by rw[Zam];exact Xf (Nat.add_le_add_right M 2) (by decide)
 clear D q h;go_enter Tryz.func102,Tryz.ntmps102;go_wp2_with (first
  |(go_at_call 144;rcases hq0:zG (Za l) cls A with _|p;(with_reducible refine(F.fieldN 16 a b C cls A M hq0).mono ?_);(rintro e w1 E;obtain⟨J,rfl⟩:=E.no';exact And.intro rfl (F.stop J (N.out.symm.trans (Qd (qu hq0)))));(with_reducible refine(F.fieldY 16 a b C cls A M hq0).mono ?_);rintro e w1 E;obtain⟨c,rfl,y,z,d,f⟩:=E.ok';(have O:=F.next c d f);obtain⟨T,U,V,X,Y,Z⟩:=O.cells)
  |(go_at_call 139;(have H:=O.alloc (.cells #[.string (Zd cls)] 9));rcases hq1:zh (Za l) [(Zd cls)] S with _|S2;(with_reducible refine(O.takeON P (Zd cls) G _ (by simp) hq1).mono ?_);(rintro e w2 E;obtain⟨J,rfl⟩:=E.no';exact And.intro rfl (H.stop J (N.out.symm.trans (Qd ((Qe hq0).trans (qu hq1))))));(with_reducible refine(O.takeOY P (Zd cls) G _ (by simp) hq1).mono ?_);rintro e w2 E;obtain⟨g,rfl,aA,aB,i,j⟩:=E.ok';(have I:=H.next g i j);(have v:=Qj hq1 P);obtain⟨T,U,V,X,Y,Z⟩:=I.cells)
  |(go_at_call 136;rcases hq2:ZK S2 p with _|S3;(with_reducible refine(I.putN p hq2).mono ?_);(rintro e w3 E;obtain⟨J,rfl⟩:=E.no';exact And.intro rfl (I.stop J (N.out.symm.trans (Qd ((Qe hq0).trans ((Qe hq1).trans (ZE hq2)))))));(with_reducible refine(I.putY p hq2).mono ?_);rintro e w3 E;obtain⟨k,rfl,aC,aD,m,n⟩:=E.ok';(have s:=I.next k m n);obtain⟨T,U,V,X,Y,Z⟩:=s.cells)
  |(go_fit (R.out _);rintro e wq⟨rfl,rfl⟩))
 go_end0;exact s.done (N.out.symm.trans (Zl ((Qe hq0).trans ((Qe hq1).trans (zD hq2)))))
theorem ZdN(w0 w:World)(B:Nat)(l:List Qb)(base:Nat)(ws:World)(p:Env w0 w B l base ws)(sb:Nat)(qb Zb:Str)(lv sv:Value)(L S:List Str)(h:Qi base ws sb B qb Zb lv sv L S)(P:Qm (Za l) S)(a b:Int)(A cls D:Str)(R:A.size<=1048576)(_hc:cls.size<=1048576)(_hfr:qb.size<=maxLen):
 Calls Tryz.prog 102 #[.pointer (some ⟨sb,0,none⟩),.agg #[.int .i64 18,.int .i64 a,.int .i64 b,.string A,.string cls,.string D]] ws (qf base ws sb B qb Zb lv sv (Qn (knK (Za l) A ((zh (Za l) [kI] S).bind fun o=>Zv L o (ZF A))))):=by
 have G:SA w0 w B l base ws lv sv sb qb Zb ws.heap.size [.int .i64 18,.int .i64 a,.int .i64 b,.string A,.string cls,.string D] (ws.alloc (.cells #[.int .i64 18,.int .i64 a,.int .i64 b,.string A,.string cls,.string D] 24)) lv sv L S:=SA.new p h _;obtain⟨T,U,V,X,Y,Z⟩:=G.cells;obtain⟨v,E⟩:∃r,Qn (knK (Za l) A ((zh (Za l) [kI] S).bind fun o=>Zv L o (ZF A)))=r:=⟨_,rfl⟩;have N:=Xh E;rw[E];have H:A.size<=maxLen:=Xf R (by decide);unfold kI at *;have q:(⟨#[91]⟩:Str)++A=ZF A:=rfl;clear E p h;go_enter Tryz.func102,Tryz.ntmps102;go_wp2_with (first
  |(go_at_call 143;by_cases C:¬zd (Za l) A=0;(with_reducible refine(G.knowsN A H C).mono ?_);(rintro e w1 F;obtain⟨M,rfl⟩:=F.no';exact And.intro rfl (G.stop M (N.out.symm.trans (Qd (Qa5 C)))));(with_reducible refine(G.knowsY A H (Decidable.not_not.1 C)).mono ?_);rintro e w1 F;obtain⟨c,rfl,x,y,d,f⟩:=F.ok';(have O:=G.next c d f);obtain⟨T,U,V,X,Y,Z⟩:=O.cells)
  |(go_at_call 139;(have I:=O.alloc (.cells #[.string ⟨#[73]⟩] 9));rcases hq1:zh (Za l) [⟨#[73]⟩] S with _|S2;(with_reducible refine(O.takeON P ⟨#[73]⟩ (Qac _) _ (by simp) hq1).mono ?_);(rintro e w2 F;obtain⟨M,rfl⟩:=F.no';exact And.intro rfl (I.stop M (N.out.symm.trans (Qd ((QW C).trans (qu hq1))))));(with_reducible refine(O.takeOY P ⟨#[73]⟩ (Qac _) _ (by simp) hq1).mono ?_);rintro e w2 F;obtain⟨g,rfl,z,aA,i,j⟩:=F.ok';(have J:=I.next g i j);(have t:=Qj hq1 P);obtain⟨T,U,V,X,Y,Z⟩:=J.cells)
  |(go_at_call 136;rcases hq2:ZK S2 (ZF A) with _|S3;(with_reducible refine(J.putN (ZF A) hq2).mono ?_);(rintro e w3 F;obtain⟨M,rfl⟩:=F.no';exact And.intro rfl (J.stop M (N.out.symm.trans (Qd ((QW C).trans ((Qe hq1).trans (ZE hq2)))))));(with_reducible refine(J.putY (ZF A) hq2).mono ?_);rintro e w3 F;obtain⟨k,rfl,aB,aC,m,n⟩:=F.ok';(have s:=J.next k m n);obtain⟨T,U,V,X,Y,Z⟩:=s.cells))
 go_end0;exact s.done (N.out.symm.trans (Zl ((QW C).trans ((Qe hq1).trans (zD hq2)))))
theorem qdN(w0 w:World)(B:Nat)(l:List Qb)(base:Nat)(ws:World)(Y:Env w0 w B l base ws)(sb:Nat)(qb Zb:Str)(lv sv:Value)(L S:List Str)(h:Qi base ws sb B qb Zb lv sv L S)(J:Qm (Za l) S)(a b:Int)(A cls C:Str)(M:A.size<=1048576)(_hc:cls.size<=1048576)(_hfr:qb.size<=maxLen):
 Calls Tryz.prog 102 #[.pointer (some ⟨sb,0,none⟩),.agg #[.int .i64 20,.int .i64 a,.int .i64 b,.string A,.string cls,.string C]] ws (qf base ws sb B qb Zb lv sv (Qn ((qJ (Za l) A S).bind fun I=>Zv L I A))):=by
 have F:SA w0 w B l base ws lv sv sb qb Zb ws.heap.size [.int .i64 20,.int .i64 a,.int .i64 b,.string A,.string cls,.string C] (ws.alloc (.cells #[.int .i64 20,.int .i64 a,.int .i64 b,.string A,.string cls,.string C] 24)) lv sv L S:=SA.new Y h _;obtain⟨c,d,f,g,i,j⟩:=F.cells;obtain⟨m,D⟩:∃r,Qn ((qJ (Za l) A S).bind fun I=>Zv L I A)=r:=⟨_,rfl⟩;have N:=Xh D;rw[D];have G:A.size<=maxLen:=Xf M (by decide);clear D Y h;go_enter Tryz.func102,Tryz.ntmps102;go_wp2_with (first
  |(go_at_call 146;rcases hq0:qJ (Za l) A S with _|I;(with_reducible refine(F.arrayN J A G hq0).mono ?_);(rintro e s E;obtain⟨O,rfl⟩:=E.no';exact And.intro rfl (F.stop O (N.out.symm.trans (Qd (qu hq0)))));(with_reducible refine(F.arrayY J A G hq0).mono ?_);rintro e s E;obtain⟨P,rfl,n,o,R,T⟩:=E.ok';(have H:=F.next P R T);(have k:=Zbx hq0 J);obtain⟨c,d,f,g,i,j⟩:=H.cells)
  |(go_at_call 136;rcases hq1:ZK I A with _|v;(with_reducible refine(H.putN A hq1).mono ?_);(rintro e t E;obtain⟨O,rfl⟩:=E.no';exact And.intro rfl (H.stop O (N.out.symm.trans (Qd ((Qe hq0).trans (ZE hq1))))));(with_reducible refine(H.putY A hq1).mono ?_);rintro e t E;obtain⟨U,rfl,p,q,V,X⟩:=E.ok';(have Z:=H.next U V X);obtain⟨c,d,f,g,i,j⟩:=Z.cells))
 go_end0;exact Z.done (N.out.symm.trans (Zl ((Qe hq0).trans (zD hq1))))
theorem QdN(w0 w:World)(B:Nat)(l:List Qb)(base:Nat)(ws:World)(s:Env w0 w B l base ws)(sb:Nat)(qb Zb:Str)(lv sv:Value)(L S:List Str)(h:Qi base ws sb B qb Zb lv sv L S)(T:Qm (Za l) S)(a b:Int)(A cls E:Str)(U:A.size<=1048576)(_hc:cls.size<=1048576)(_hfr:qb.size<=maxLen):
 Calls Tryz.prog 102 #[.pointer (some ⟨sb,0,none⟩),.agg #[.int .i64 21,.int .i64 a,.int .i64 b,.string A,.string cls,.string E]] ws (qf base ws sb B qb Zb lv sv (Qn (knK (Za l) A ((zh (Za l) [A] S).bind fun q=>(qJ (Za l) A q).map fun O=>(L,O))))):=by
 have I:SA w0 w B l base ws lv sv sb qb Zb ws.heap.size [.int .i64 21,.int .i64 a,.int .i64 b,.string A,.string cls,.string E] (ws.alloc (.cells #[.int .i64 21,.int .i64 a,.int .i64 b,.string A,.string cls,.string E] 24)) lv sv L S:=SA.new s h _;obtain⟨V,X,Y,Z,c,d⟩:=I.cells;obtain⟨x,F⟩:∃r,Qn (knK (Za l) A ((zh (Za l) [A] S).bind fun q=>(qJ (Za l) A q).map fun O=>(L,O)))=r:=⟨_,rfl⟩;have P:=Xh F;rw[F];have C:A.size<=maxLen:=Xf U (by decide);clear F s h;go_enter Tryz.func102,Tryz.ntmps102;go_wp2_with (first
  |(go_at_call 143;by_cases D:¬zd (Za l) A=0;(with_reducible refine(I.knowsN A C D).mono ?_);(rintro e w1 G;obtain⟨N,rfl⟩:=G.no';exact And.intro rfl (I.stop N (P.out.symm.trans (Qd (Qa5 D)))));(with_reducible refine(I.knowsY A C (Decidable.not_not.1 D)).mono ?_);rintro e w1 G;obtain⟨f,rfl,y,z,g,i⟩:=G.ok';(have R:=I.next f g i);obtain⟨V,X,Y,Z,c,d⟩:=R.cells)
  |(go_at_call 139;(have J:=R.alloc (.cells #[.string A] 9));rcases hq1:zh (Za l) [A] S with _|O;(with_reducible refine(R.takeON T A C _ (by simp) hq1).mono ?_);(rintro e w2 G;obtain⟨N,rfl⟩:=G.no';exact And.intro rfl (J.stop N (P.out.symm.trans (Qd ((QW D).trans (qu hq1))))));(with_reducible refine(R.takeOY T A C _ (by simp) hq1).mono ?_);rintro e w2 G;obtain⟨j,rfl,aA,aB,k,m⟩:=G.ok';(have M:=J.next j k m);(have H:=Qj hq1 T);obtain⟨V,X,Y,Z,c,d⟩:=M.cells)
  |(go_at_call 146;rcases hq2:qJ (Za l) A O with _|S3;(with_reducible refine(M.arrayN H A C hq2).mono ?_);(rintro e w3 G;obtain⟨N,rfl⟩:=G.no';exact And.intro rfl (M.stop N (P.out.symm.trans (Qd ((QW D).trans ((Qe hq1).trans (zaH hq2)))))));(with_reducible refine(M.arrayY H A C hq2).mono ?_);rintro e w3 G;obtain⟨n,rfl,aC,aD,o,p⟩:=G.ok';(have t:=M.next n o p);(have v:=Zbx hq2 H);obtain⟨V,X,Y,Z,c,d⟩:=t.cells))
 go_end0;exact t.done (P.out.symm.trans (Zl ((QW D).trans ((Qe hq1).trans (Z6 hq2)))))
theorem zdO(w0 w:World)(B:Nat)(l:List Qb)(base:Nat)(ws:World)(n:Env w0 w B l base ws)(sb:Nat)(qb Zb:Str)(lv sv:Value)(L S:List Str)(h:Qi base ws sb B qb Zb lv sv L S)(O:Qm (Za l) S)(a b:Int)(A cls D:Str)(P:A.size<=1048576)(_hc:cls.size<=1048576)(_hfr:qb.size<=maxLen):
 Calls Tryz.prog 102 #[.pointer (some ⟨sb,0,none⟩),.agg #[.int .i64 22,.int .i64 a,.int .i64 b,.string A,.string cls,.string D]] ws (qf base ws sb B qb Zb lv sv (Qn (knK (Za l) A ((zK S).bind fun p=>Zv L p.2 A)))):=by
 have G:SA w0 w B l base ws lv sv sb qb Zb ws.heap.size [.int .i64 22,.int .i64 a,.int .i64 b,.string A,.string cls,.string D] (ws.alloc (.cells #[.int .i64 22,.int .i64 a,.int .i64 b,.string A,.string cls,.string D] 24)) lv sv L S:=SA.new n h _;obtain⟨R,T,U,V,X,Y⟩:=G.cells;obtain⟨s,E⟩:∃r,Qn (knK (Za l) A ((zK S).bind fun p=>Zv L p.2 A))=r:=⟨_,rfl⟩;have N:=Xh E;rw[E];have H:A.size<=maxLen:=Xf P (by decide);clear E n h;go_enter Tryz.func102,Tryz.ntmps102;go_wp2_with (first
  |(go_at_call 143;by_cases C:¬zd (Za l) A=0;(with_reducible refine(G.knowsN A H C).mono ?_);(rintro e w1 F;obtain⟨M,rfl⟩:=F.no';exact And.intro rfl (G.stop M (N.out.symm.trans (Qd (Qa5 C)))));(with_reducible refine(G.knowsY A H (Decidable.not_not.1 C)).mono ?_);rintro e w1 F;obtain⟨Z,rfl,t,v,c,d⟩:=F.ok';(have I:=G.next Z c d);obtain⟨R,T,U,V,X,Y⟩:=I.cells)
  |(go_at_call 141;rcases hq1:zK S with _|⟨k1,S2⟩;(with_reducible refine(I.refN O hq1).mono ?_);(rintro e w2 F;obtain⟨M,rfl⟩:=F.no';exact And.intro rfl (I.stop M (N.out.symm.trans (Qd ((QW C).trans (qu hq1))))));(with_reducible refine(I.refY O hq1).mono ?_);rintro e w2 F;obtain⟨f,rfl,x,y,g,i⟩:=F.ok';(have J:=I.next f g i);(have q:=(qae (Qa7 hq1).1 O).2);obtain⟨R,T,U,V,X,Y⟩:=J.cells)
  |(go_at_call 136;rcases hq2:ZK S2 A with _|S3;(with_reducible refine(J.putN A hq2).mono ?_);(rintro e w3 F;obtain⟨M,rfl⟩:=F.no';exact And.intro rfl (J.stop M (N.out.symm.trans (Qd ((QW C).trans ((Qe hq1).trans (ZE hq2)))))));(with_reducible refine(J.putY A hq2).mono ?_);rintro e w3 F;obtain⟨j,rfl,z,aA,k,m⟩:=F.ok';(have o:=J.next j k m);obtain⟨R,T,U,V,X,Y⟩:=o.cells))
 go_end0;exact o.done (N.out.symm.trans (Zl ((QW C).trans ((Qe hq1).trans (zD hq2)))))
set_option maxRecDepth 512
theorem SA.boxed{w0 w:World}{B:Nat}{l:List Qb}{base:Nat}{ws:World}{lv0 sv0:Value}{sb:Nat}{qb Zb:Str}{xb:Nat}{xv:List Value}{wx:World}{lv sv:Value}{L S:List Str}(T:SA w0 w B l base ws lv0 sv0 sb qb Zb xb xv wx lv sv L S)(E:ws.heap.size<=xb)(A:base<=xb)(j:Nat)(u:Value):SA w0 w B l base ws lv0 sv0 sb qb Zb xb (xv.set j u) (wx.setCell ⟨xb,j,none⟩ u) lv sv L S :=
 ⟨⟨T.env.map0,T.env.le,T.env.below.setCell (p:=⟨xb,j,none⟩) (Xf T.env.le A) u⟩,T.step.aside T.apart j u,T.box.put j u,T.apart,T.below.setCell (p:=⟨xb,j,none⟩) A u,⟨T.kp.1,fun g D C=>⟨(Xk wx ⟨xb,j,none⟩ g u (by show g≠xb;omega)).trans (T.kp.2 g D C).1,(T.kp.2 g D C).2⟩⟩⟩
theorem Zc1(w0 w:World)(B:Nat)(l:List Qb)(base:Nat)(ws:World)(H:Env w0 w B l base ws)(sb:Nat)(qb Zb:Str)(lv sv:Value)(L S:List Str)(h:Qi base ws sb B qb Zb lv sv L S)(J:Qm (Za l) S)(G a b:Int)(A cls C:Str)(static:Bool)(I:cls.size<=1048576)(D:qb.size<=maxLen)(E:A.size<=1048576):
 Calls Tryz.prog 147 #[.pointer (some ⟨sb,0,none⟩),.agg #[.int .i64 G,.int .i64 a,.int .i64 b,.string A,.string cls,.string C],.bool static] ws (qf base ws sb B qb Zb lv sv (Qn (qam (Za l) qb cls C A static L S))):=by
 unfold qam;by_cases F:Zz (Za l) qb cls C A static=0
 ·rw[if_neg (by rw[F];decide)];cases static with
  |true=>exact Zeo w0 w B l base ws H sb qb Zb lv sv L S h J G a b A cls C I D E F
  |false=>exact qeo w0 w B l base ws H sb qb Zb lv sv L S h J G a b A cls C I D E F
 ·rw[if_pos F];exact Zec w0 w B l base ws H sb qb Zb lv sv L S h G a b A cls C static I D F
theorem SA.callN{w0 w:World}{B:Nat}{l:List Qb}{base:Nat}{ws:World}{lv0 sv0:Value}{sb:Nat}{qb Zb:Str}{xb:Nat}{xv:List Value}{wx:World}{lv sv:Value}{L S:List Str}(T:SA w0 w B l base ws lv0 sv0 sb qb Zb xb xv wx lv sv L S)(G:Qm (Za l) S)(F a b:Int)(A cls C:Str)(static:Bool)(H:cls.size<=1048576)(D:qb.size<=maxLen)(E:A.size<=1048576)(I:qam (Za l) qb cls C A static L S=none):
 Calls Tryz.prog 147 #[.pointer (some ⟨sb,0,none⟩),.agg #[.int .i64 F,.int .i64 a,.int .i64 b,.string A,.string cls,.string C],.bool static] wx (qf base wx sb B qb Zb lv sv none):=by
 have h:=Zc1 w0 w B l base wx T.env sb qb Zb lv sv L S T.step G F a b A cls C static H D E;rw[I]at h;exact h
theorem SA.callY{w0 w:World}{B:Nat}{l:List Qb}{base:Nat}{ws:World}{lv0 sv0:Value}{sb:Nat}{qb Zb:Str}{xb:Nat}{xv:List Value}{wx:World}{lv sv:Value}{L S:List Str}(T:SA w0 w B l base ws lv0 sv0 sb qb Zb xb xv wx lv sv L S)(I:Qm (Za l) S)(F a b:Int)(A cls C:Str)(static:Bool)(J:cls.size<=1048576)(D:qb.size<=maxLen)(E:A.size<=1048576){G H:List Str}(M:qam (Za l) qb cls C A static L S=some (G,H)):
 Calls Tryz.prog 147 #[.pointer (some ⟨sb,0,none⟩),.agg #[.int .i64 F,.int .i64 a,.int .i64 b,.string A,.string cls,.string C],.bool static] wx (qf base wx sb B qb Zb lv sv (some (.tuple #[],G,H))):=by
 have h:=Zc1 w0 w B l base wx T.env sb qb Zb lv sv L S T.step I F a b A cls C static J D E;rw[M]at h;exact h
set_option maxRecDepth 100000
theorem Zdl(w0 w:World)(B:Nat)(l:List Qb)(base:Nat)(ws:World)(I:Env w0 w B l base ws)(sb:Nat)(qb Zb:Str)(lv sv:Value)(L S:List Str)(h:Qi base ws sb B qb Zb lv sv L S)(_hS:Qm (Za l) S)(a b:Int)(A cls C:Str)(_hty:A.size<=1048576)(J:cls.size<=1048576)(_hfr:qb.size<=maxLen)(M:¬zd (Za l) (Zd cls)=0):
 Calls Tryz.prog 102 #[.pointer (some ⟨sb,0,none⟩),.agg #[.int .i64 15,.int .i64 a,.int .i64 b,.string A,.string cls,.string C]] ws (qf base ws sb B qb Zb lv sv (Qn (knK (Za l) (Zd cls) (Zbb (Za l) cls L S)))):=by
 have E:SA w0 w B l base ws lv sv sb qb Zb ws.heap.size [.int .i64 15,.int .i64 a,.int .i64 b,.string A,.string cls,.string C] (ws.alloc (.cells #[.int .i64 15,.int .i64 a,.int .i64 b,.string A,.string cls,.string C] 24)) lv sv L S:=SA.new I h _;obtain⟨R,T,U,V,X,Y⟩:=E.cells;obtain⟨O,D⟩:∃r,Qn (knK (Za l) (Zd cls) (Zbb (Za l) cls L S))=r:=⟨_,rfl⟩;have N:=Xh D;rw[D];have F:Hid (∀wx,_):=fun wx=>QX cls wx (Xf J (by decide))
 have G:(Zd cls).size<=maxLen:=by rw[Zam];exact Xf (Nat.add_le_add_right J 2) (by decide)
 clear D I h;go_enter Tryz.func102,Tryz.ntmps102;go_wp2_with (first
  |(go_fit (E.knowsN (Zd cls) G M);rintro e Z P;obtain⟨H,rfl⟩:=P.no')
  |(go_fit (F.out _);rintro e c⟨rfl,rfl⟩))
 exact And.intro rfl (E.stop H (N.out.symm.trans (Qd (Qa5 M))))
theorem qdl(w0 w:World)(B:Nat)(l:List Qb)(base:Nat)(ws:World)(O:Env w0 w B l base ws)(sb:Nat)(qb Zb:Str)(lv sv:Value)(L S:List Str)(h:Qi base ws sb B qb Zb lv sv L S)(_hS:Qm (Za l) S)(a b:Int)(A cls C:Str)(_hty:A.size<=1048576)(R:cls.size<=1048576)(_hfr:qb.size<=maxLen)(Z:zd (Za l) (Zd cls)=0)(D:(qh (Za l) cls).face=true):
 Calls Tryz.prog 102 #[.pointer (some ⟨sb,0,none⟩),.agg #[.int .i64 15,.int .i64 a,.int .i64 b,.string A,.string cls,.string C]] ws (qf base ws sb B qb Zb lv sv (Qn (knK (Za l) (Zd cls) (Zbb (Za l) cls L S)))):=by
 have P:SA w0 w B l base ws lv sv sb qb Zb ws.heap.size [.int .i64 15,.int .i64 a,.int .i64 b,.string A,.string cls,.string C] (ws.alloc (.cells #[.int .i64 15,.int .i64 a,.int .i64 b,.string A,.string cls,.string C] 24)) lv sv L S:=SA.new O h _;obtain⟨o,p,q,s,t,x⟩:=P.cells;obtain⟨y,E⟩:∃r,Qn (knK (Za l) (Zd cls) (Zbb (Za l) cls L S))=r:=⟨_,rfl⟩;have j:=Xh E;rw[E];have T:Hid (∀wx,_):=fun wx=>QX cls wx (Xf R (by decide))
 have U:(Zd cls).size<=maxLen:=by rw[Zam];exact Xf (Nat.add_le_add_right R 2) (by decide)
 obtain⟨z,kf,pd,kd,pm,km,_,_,_,H⟩:=O.map0.map.look3 O.map0.right.nodup cls (Xf R (by decide));have k:Hid (∀L S,Zbb (Za l) cls L S=none):=Xh (fun L S=>by unfold Zbb;rw[D];rfl);unfold qh at D;unfold Qz at H;generalize (Qc (Za l) cls).getD zg=N at *;have m:∀g:World,(Instr.field 36 (.agg #[.string N.name,.string N.super,.slice z N.faces.length kf,.bool true,.slice pd N.fields.length kd,.slice pm N.methods.length km]) 3).run Tryz.prog g=.ok (.bool true) g:=fun _=>by kernel_rfl
 have n:Hid (∀wx,_):=fun wx=>qB wx
 clear E O h;go_enter Tryz.func102,Tryz.ntmps102;go_upto_region 4 with(first
  |(go_fit (P.knowsY (Zd cls) U Z);rintro e w1 f;obtain⟨I,rfl,lv1,sv1,J,M⟩:=f.ok';(have V:=P.next I J M);obtain⟨o,p,q,s,t,x⟩:=V.cells)
  |(go_fit (T.out _);rintro e wq⟨rfl,rfl⟩))
 have G:=Xh (V.over Xb.drew);have X:=And.intro G.out.env.below (And.intro (G.out.step.blk.cell 0) G.out.cells.2.2.2.2.1);clear P V I J M f;refine wp_region_held_drew (S:=fun w'=>Below w.heap.size w w'/\w'.cell? ⟨sb,0,none⟩=some (.map (some B))/\w'.cell? ⟨ws.heap.size,4,none⟩=some (.string cls)) (by kernel_rfl) X (fun hHeld=>?_);change wpAnyH _ _ _ _ _ 10 _ _ _;iterate 6 ((first|(refine tkN rfl rfl hHeld ?_)|(refine tkY (v:=?_) rfl rfl hHeld ?_ ?_;rotate_left;focus (intro w F;(obtain⟨Y,c,d⟩:=F);go_simp;all_goals with_reducible rfl)));try simp only[Act.put,Xa,Xc,Xd])
 change wpAnyH _ _ _ _ _ 4 _ _ _;iterate 1 ((first|(refine tkN rfl rfl hHeld ?_)|(refine tkY (v:=?_) rfl rfl hHeld ?_ ?_;rotate_left;focus (intro w F;(obtain⟨Y,c,d⟩:=F;have hl:=(H _ Y).2);go_simp;all_goals with_reducible rfl)));(try simp only[Act.put]);(try simp only[Xa]);(try simp only[Xd]);(try simp only[Xc]))
 change wpAnyH _ _ _ _ _ 3 _ _ _;iterate 2 ((first|(refine tkN rfl rfl hHeld ?_)|(refine tkY (v:=?_) rfl rfl hHeld ?_ ?_;rotate_left;focus (intro w F;(obtain⟨Y,c,d⟩:=F);go_simp;all_goals with_reducible rfl)));(try simp only[Act.put]);(try simp only[Xa]);(try simp only[Xd]);(try simp only[Xc]))
 refine wpAnyH_ready (rs:=[9]) (fuel:=0) (by kernel_rfl) (by simp) ?_;refine AllReadyH.cons (i:=9) rfl (fun K hK=>?_) AllReadyH.nil;go_simp;refine(n.out _).mono ?_;rintro e wq⟨rfl,rfl⟩;exact And.intro rfl (G.out.stop Xb (j.out.symm.trans (Qd ((QW (Decidable.not_not.2 Z)).trans (k.out _ _)))))
theorem Qdl(w0 w:World)(B:Nat)(l:List Qb)(base:Nat)(ws:World)(T:Env w0 w B l base ws)(sb:Nat)(qb Zb:Str)(lv sv:Value)(L S:List Str)(h:Qi base ws sb B qb Zb lv sv L S)(_hS:Qm (Za l) S)(a b:Int)(C cls D:Str)(_hty:C.size<=1048576)(V:cls.size<=1048576)(_hfr:qb.size<=maxLen)(X:zd (Za l) (Zd cls)=0)(E:(qh (Za l) cls).face=false):
 Calls Tryz.prog 102 #[.pointer (some ⟨sb,0,none⟩),.agg #[.int .i64 15,.int .i64 a,.int .i64 b,.string C,.string cls,.string D]] ws (qf base ws sb B qb Zb lv sv (Qn (knK (Za l) (Zd cls) (Zbb (Za l) cls L S)))):=by
 have U:SA w0 w B l base ws lv sv sb qb Zb ws.heap.size [.int .i64 15,.int .i64 a,.int .i64 b,.string C,.string cls,.string D] (ws.alloc (.cells #[.int .i64 15,.int .i64 a,.int .i64 b,.string C,.string cls,.string D] 24)) lv sv L S:=SA.new T h _;obtain⟨m,n,o,p,q,s⟩:=U.cells;obtain⟨res,F⟩:∃r,Qn (knK (Za l) (Zd cls) (Zbb (Za l) cls L S))=r:=⟨_,rfl⟩;have j:=Xh F;rw[F];have J:Hid (∀wx,_):=fun wx=>QX cls wx (Xf V (by decide))
 have Y:(Zd cls).size<=maxLen:=by rw[Zam];exact Xf (Nat.add_le_add_right V 2) (by decide)
 obtain⟨pf,kf,pd,kd,pm,km,_,_,_,M⟩:=T.map0.map.look3 T.map0.right.nodup cls (Xf V (by decide));have k:Hid (∀L S,Zbb (Za l) cls L S=Zv L S (Zd cls)):=Xh (fun L S=>by unfold Zbb;rw[E];rfl);unfold qh at E;unfold Qz at M;generalize (Qc (Za l) cls).getD zg=R at *;have hfd:∀wz:World,(Instr.field 36 (.agg #[.string R.name,.string R.super,.slice pf R.faces.length kf,.bool false,.slice pd R.fields.length kd,.slice pm R.methods.length km]) 3).run Tryz.prog wz=.ok (.bool false) wz:=fun _=>by kernel_rfl
 have HT:Hid (∀wx,_):=fun wx=>ZI wx
 clear F T h;go_enter Tryz.func102,Tryz.ntmps102;go_upto_region 4 with(first
  |(go_fit (U.knowsY (Zd cls) Y X);rintro e w1 I;obtain⟨N,rfl,lv1,sv1,O,P⟩:=I.ok';(have Z:=U.next N O P);obtain⟨m,n,o,p,q,s⟩:=Z.cells)
  |(go_fit (J.out _);rintro e y⟨rfl,rfl⟩))
 have A:=Xh (Z.over Xb.drew);have H:=And.intro A.out.env.below (And.intro (A.out.step.blk.cell 0) A.out.cells.2.2.2.2.1);clear U Z N O P I;refine wp_region_held_drew (S:=fun w'=>Below w.heap.size w w'/\w'.cell? ⟨sb,0,none⟩=some (.map (some B))/\w'.cell? ⟨ws.heap.size,4,none⟩=some (.string cls)) (by kernel_rfl) H (fun hHeld=>?_);change wpAnyH _ _ _ _ _ 10 _ _ _;iterate 6 ((first|(refine tkN rfl rfl hHeld ?_)|(refine tkY (v:=?_) rfl rfl hHeld ?_ ?_;rotate_left;focus (intro w G;(obtain⟨c,t,x⟩:=G);go_simp;all_goals with_reducible rfl)));try simp only[Act.put,Xa,Xc,Xd])
 change wpAnyH _ _ _ _ _ 4 _ _ _;iterate 1 ((first|(refine tkN rfl rfl hHeld ?_)|(refine tkY (v:=?_) rfl rfl hHeld ?_ ?_;rotate_left;focus (intro w G;(obtain⟨c,t,x⟩:=G;have hl:=(M _ c).2);go_simp;all_goals with_reducible rfl)));(try simp only[Act.put]);(try simp only[Xa]);(try simp only[Xd]);(try simp only[Xc]))
 change wpAnyH _ _ _ _ _ 3 _ _ _;iterate 2 ((first|(refine tkN rfl rfl hHeld ?_)|(refine tkY (v:=?_) rfl rfl hHeld ?_ ?_;rotate_left;focus (intro w G;(obtain⟨c,t,x⟩:=G);go_simp;all_goals with_reducible rfl)));(try simp only[Act.put]);(try simp only[Xa]);(try simp only[Xd]);(try simp only[Xc]))
 refine wpAnyH_ready (rs:=[9]) (fuel:=0) (by kernel_rfl) (by simp) ?_;refine AllReadyH.cons (i:=9) rfl (fun K z=>?_) AllReadyH.nil;go_simp;refine(HT.out _).mono ?_;rintro e y⟨rfl,rfl⟩;refine z.out _ _ H (fun _=>?_);clear z K;try dsimp only[Act.put]
 refine wpAnyH_done (by kernel_rfl) ?_ _;obtain⟨m,n,o,p,q,s⟩:=A.out.cells;clear hHeld H;go_wp2_with (first
  |(go_fit (J.out _);rintro e y⟨rfl,rfl⟩)
  |(go_at_call 136;rcases hq1:ZK S (Zd cls) with _|S2;(with_reducible refine(A.out.putN (Zd cls) hq1).mono ?_);(rintro e w2 I;obtain⟨hB,rfl⟩:=I.no';exact And.intro rfl (A.out.stop hB (j.out.symm.trans (Qd ((QW (Decidable.not_not.2 X)).trans ((k.out _ _).trans (ZE hq1)))))));(with_reducible refine(A.out.putY (Zd cls) hq1).mono ?_);rintro e w2 I;obtain⟨d,rfl,lv2,sv2,f,g⟩:=I.ok';(have T2:=A.out.next d f g)))
 go_end0;exact T2.done (j.out.symm.trans (Zl ((QW (Decidable.not_not.2 X)).trans ((k.out _ _).trans (zD hq1)))))
theorem ZdO(w0 w:World)(B:Nat)(l:List Qb)(base:Nat)(ws:World)(k:Env w0 w B l base ws)(sb:Nat)(qb Zb:Str)(lv sv:Value)(L S:List Str)(h:Qi base ws sb B qb Zb lv sv L S)(m:Qm (Za l) S)(a b:Int)(C cls A:Str)(_hty:C.size<=1048576)(Z:cls.size<=1048576)(_hfr:qb.size<=maxLen):
 Calls Tryz.prog 102 #[.pointer (some ⟨sb,0,none⟩),.agg #[.int .i64 17,.int .i64 a,.int .i64 b,.string C,.string cls,.string A]] ws (qf base ws sb B qb Zb lv sv (Qn ((zG (Za l) cls A).bind fun t=>(zh (Za l) [t,Zd cls] S).map fun j=>(L,j)))):=by
 have c:SA w0 w B l base ws lv sv sb qb Zb ws.heap.size [.int .i64 17,.int .i64 a,.int .i64 b,.string C,.string cls,.string A] (ws.alloc (.cells #[.int .i64 17,.int .i64 a,.int .i64 b,.string C,.string cls,.string A] 24)) lv sv L S:=SA.new k h _;obtain⟨y,z,i2,i3,i4,i5⟩:=c.cells;obtain⟨res,F⟩:∃r,Qn ((zG (Za l) cls A).bind fun t=>(zh (Za l) [t,Zd cls] S).map fun j=>(L,j))=r:=⟨_,rfl⟩;have d:=Xh F;rw[F];have f:Hid (∀wx,_):=fun wx=>QX cls wx (Xf Z (by decide))
 have M:(Zd cls).size<=maxLen:=by rw[Zam];exact Xf (Nat.add_le_add_right Z 2) (by decide)
 clear F k h;go_enter Tryz.func102,Tryz.ntmps102;go_upto_region 11 with fail;have D:=Xh (c.over Xb.drew);clear c y z i2 i3 i4 i5;refine wp_region_held_drew (S:=fun w'=>w'.cell? ⟨ws.heap.size,0,none⟩=some (.int .i64 17)/\w'.cell? ⟨ws.heap.size,1,none⟩=some (.int .i64 a)/\w'.cell? ⟨ws.heap.size,2,none⟩=some (.int .i64 b)/\w'.cell? ⟨ws.heap.size,3,none⟩=some (.string C)/\w'.cell? ⟨ws.heap.size,4,none⟩=some (.string cls)/\w'.cell? ⟨ws.heap.size,5,none⟩=some (.string A)) (by kernel_rfl) D.out.cells (fun hHeld=>?_);change wpAnyH _ _ _ _ _ 9 _ _ _;iterate 3 ((first|(refine tkN rfl rfl hHeld ?_)|(refine tkY (v:=?_) rfl rfl hHeld ?_ ?_;rotate_left;focus (intro w G;(obtain⟨n,o,p,q,s,x⟩:=G);go_simp;all_goals with_reducible rfl)));(try simp only[Act.put]);(try simp only[Xa]);(try simp only[Xd]);(try simp only[Xc]))
 refine tkI (i:=4) (fuel:=5) (v:=?_) rfl (by kernel_rfl) (by kernel_rfl) (by kernel_rfl) (fun _ _ _ h=>h) (by rfl) hHeld ?_ ?_;rotate_left;focus (intro w G;(obtain⟨n,o,p,q,s,x⟩:=G);go_simp;all_goals with_reducible rfl);(try simp only[Act.put]);(try simp only[Xa]);(try simp only[Xd]);(try simp only[Xc])
 refine tkI (i:=5) (fuel:=4) (v:=?_) rfl (by kernel_rfl) (by kernel_rfl) (by kernel_rfl) (fun _ _ _ h=>h) (by rfl) hHeld ?_ ?_;rotate_left;focus (intro w G;(obtain⟨n,o,p,q,s,x⟩:=G);go_simp;all_goals with_reducible rfl);(try simp only[Act.put]);(try simp only[Xa]);(try simp only[Xd]);(try simp only[Xc])
 refine wpAnyH_ready (rs:=[3]) (fuel:=3) (by kernel_rfl) (by simp) ?_;refine AllReadyH.cons (i:=3) rfl (fun K H=>?_) AllReadyH.nil;go_simp;rcases hq0:zG (Za l) cls A with _|Y
 ·refine(D.out.fieldN 17 a b C cls A Z hq0).mono ?_;rintro e w2 I;obtain⟨g,rfl⟩:=I.no';exact And.intro rfl (D.out.stop g (d.out.symm.trans (Qd (qu hq0))))
 ·have N:Y.size<=maxLen:=Xf (ZU (Zao hq0).2) (by decide);refine(D.out.fieldY 17 a b C cls A Z hq0).mono ?_;rintro e w2 I;obtain⟨P,rfl,lv2,sv2,R,T⟩:=I.ok';have E:=Xh (D.out.next P R T);clear P R T I;refine H.out _ _ E.out.cells (fun _=>?_);clear H K;try dsimp only[Act.put]
  refine wpAnyH_ready (rs:=[6]) (fuel:=2) (by kernel_rfl) (by simp) ?_;refine AllReadyH.cons (i:=6) rfl (fun K H=>?_) AllReadyH.nil;go_simp;refine(f.out _).mono ?_;rintro e wq⟨rfl,rfl⟩;refine H.out _ _ E.out.cells (fun _=>?_);clear H K;try dsimp only[Act.put]
  refine wpAnyH_ready (rs:=[7]) (fuel:=1) (by kernel_rfl) (by simp) ?_;refine AllReadyH.cons (i:=7) rfl (fun K H=>?_) AllReadyH.nil;go_simp;have J:=Xh (E.out.alloc (.cells #[.string Y,.string (Zd cls)] 9));refine H.out _ _ J.out.cells (fun _=>?_);clear H K;try dsimp only[Act.put]
  refine wpAnyH_ready (rs:=[8]) (fuel:=0) (by kernel_rfl) (by simp) ?_;refine AllReadyH.cons (i:=8) rfl (fun K H=>?_) AllReadyH.nil;go_simp;rcases hq1:zh (Za l) [Y,Zd cls] S with _|S2
  ·refine(E.out.takeTN m Y (Zd cls) N M _ rfl hq1).mono ?_;rintro e w3 I;obtain⟨g,rfl⟩:=I.no';exact And.intro rfl (J.out.stop g (d.out.symm.trans (Qd ((Qe hq0).trans (zaH hq1)))))
  ·refine(E.out.takeTY m Y (Zd cls) N M _ rfl hq1).mono ?_;rintro e w3 I;obtain⟨U,rfl,lv3,sv3,V,X⟩:=I.ok';have O:=Xh (J.out.next U V X);clear U V X I;refine H.out _ _ O.out.cells (fun _=>?_);clear H K;refine wpAnyH_done (by kernel_rfl) ?_ _;clear hHeld;go_wp2_with fail;go_end0;exact O.out.done (d.out.symm.trans (Zl ((Qe hq0).trans (Z6 hq1))))
theorem zdm(w0 w:World)(B:Nat)(l:List Qb)(base:Nat)(ws:World)(H:Env w0 w B l base ws)(sb:Nat)(qb Zb:Str)(lv sv:Value)(L S:List Str)(h:Qi base ws sb B qb Zb lv sv L S)(I:Qm (Za l) S)(a b:Int)(A cls C:Str)(_hty:A.size<=1048576)(_hc:cls.size<=1048576)(_hfr:qb.size<=maxLen)(E:zK S=none):
 Calls Tryz.prog 102 #[.pointer (some ⟨sb,0,none⟩),.agg #[.int .i64 19,.int .i64 a,.int .i64 b,.string A,.string cls,.string C]] ws (qf base ws sb B qb Zb lv sv (Qn ((zK S).bind fun p=>if zX p.1=true then Zv L p.2 kI else none))):=by
 have F:SA w0 w B l base ws lv sv sb qb Zb ws.heap.size [.int .i64 19,.int .i64 a,.int .i64 b,.string A,.string cls,.string C] (ws.alloc (.cells #[.int .i64 19,.int .i64 a,.int .i64 b,.string A,.string cls,.string C] 24)) lv sv L S:=SA.new H h _;obtain⟨O,P,R,T,U,V⟩:=F.cells;obtain⟨M,D⟩:∃r,Qn ((zK S).bind fun p=>if zX p.1=true then Zv L p.2 kI else none)=r:=⟨_,rfl⟩;have J:=Xh D;rw[D];clear D H h;go_enter Tryz.func102,Tryz.ntmps102;go_wp2_with (first
  |(go_fit (F.refN I E);rintro e X N;obtain⟨G,rfl⟩:=N.no'))
 exact And.intro rfl (F.stop G (J.out.symm.trans (Qd (qu E))))
theorem Zdm(w0 w:World)(B:Nat)(l:List Qb)(base:Nat)(ws:World)(T:Env w0 w B l base ws)(sb:Nat)(qb Zb:Str)(lv sv:Value)(L S:List Str)(h:Qi base ws sb B qb Zb lv sv L S)(X:Qm (Za l) S)(a b:Int)(A cls C:Str)(_hty:A.size<=1048576)(_hc:cls.size<=1048576)(_hfr:qb.size<=maxLen)(k:Str)(U:List Str)(E:zK S=some (k,U))(Y:(k.toList==[78])=true):
 Calls Tryz.prog 102 #[.pointer (some ⟨sb,0,none⟩),.agg #[.int .i64 19,.int .i64 a,.int .i64 b,.string A,.string cls,.string C]] ws (qf base ws sb B qb Zb lv sv (Qn ((zK S).bind fun p=>if zX p.1=true then Zv L p.2 kI else none))):=by
 have I:SA w0 w B l base ws lv sv sb qb Zb ws.heap.size [.int .i64 19,.int .i64 a,.int .i64 b,.string A,.string cls,.string C] (ws.alloc (.cells #[.int .i64 19,.int .i64 a,.int .i64 b,.string A,.string cls,.string C] 24)) lv sv L S:=SA.new T h _;obtain⟨d,f,g,i,j,m⟩:=I.cells;obtain⟨n,D⟩:∃r,Qn ((zK S).bind fun p=>if zX p.1=true then Zv L p.2 kI else none)=r:=⟨_,rfl⟩;have V:=Xh D;rw[D];have Z:Hid (∀wx,_):=fun wx=>ZI wx
 have F:zX k=true:=by unfold zX;rw[Y];rfl
 unfold kI at *;clear D T h;go_enter Tryz.func102,Tryz.ntmps102;go_wp2_with (first
  |(go_fit (I.refY X E);rintro e y H;obtain⟨J,rfl,o,q,M,N⟩:=H.ok';(have G:=I.next J M N);obtain⟨d,f,g,i,j,m⟩:=G.cells)
  |(go_fit (Z.out _);rintro e z⟨rfl,rfl⟩)
  |(go_at_call 136;rcases hq1:ZK U ⟨#[73]⟩ with _|S2;(with_reducible refine(G.putN ⟨#[73]⟩ hq1).mono ?_);(rintro e x H;obtain⟨s,rfl⟩:=H.no';exact And.intro rfl (G.stop s (V.out.symm.trans (Qd ((Qe E).trans ((if_pos F).trans (ZE hq1)))))));(with_reducible refine(G.putY ⟨#[73]⟩ hq1).mono ?_);rintro e x H;obtain⟨O,rfl,t,v,P,R⟩:=H.ok';(have c:=G.next O P R)))
 go_end0;exact c.done (V.out.symm.trans (Zl ((Qe E).trans ((if_pos F).trans (zD hq1)))))
theorem qdm(w0 w:World)(B:Nat)(l:List Qb)(base:Nat)(ws:World)(T:Env w0 w B l base ws)(sb:Nat)(qb Zb:Str)(lv sv:Value)(L S:List Str)(h:Qi base ws sb B qb Zb lv sv L S)(Z:Qm (Za l) S)(a b:Int)(A cls C:Str)(_hty:A.size<=1048576)(_hc:cls.size<=1048576)(_hfr:qb.size<=maxLen)(k:Str)(U:List Str)(E:zK S=some (k,U))(c:(k.toList==[78])=false)(V:Lib.hasPrefix k.toList [91]=true):
 Calls Tryz.prog 102 #[.pointer (some ⟨sb,0,none⟩),.agg #[.int .i64 19,.int .i64 a,.int .i64 b,.string A,.string cls,.string C]] ws (qf base ws sb B qb Zb lv sv (Qn ((zK S).bind fun p=>if zX p.1=true then Zv L p.2 kI else none))):=by
 have I:SA w0 w B l base ws lv sv sb qb Zb ws.heap.size [.int .i64 19,.int .i64 a,.int .i64 b,.string A,.string cls,.string C] (ws.alloc (.cells #[.int .i64 19,.int .i64 a,.int .i64 b,.string A,.string cls,.string C] 24)) lv sv L S:=SA.new T h _;obtain⟨g,i,j,m,n,o⟩:=I.cells;obtain⟨q,D⟩:∃r,Qn ((zK S).bind fun p=>if zX p.1=true then Zv L p.2 kI else none)=r:=⟨_,rfl⟩;have X:=Xh D;rw[D];have d:Hid (∀wx,_):=fun wx=>ZI wx
 have Y:Hid (∀wx,_):=fun wx=>zz k ⟨#[91]⟩ wx
 rw[<-ByteArray.toList_eq,show(⟨#[91]⟩:Str).data.toList=[91] from rfl,V]at Y;have F:zX k=true:=by unfold zX;rw[c,V];rfl
 unfold kI at *;clear D T h;go_enter Tryz.func102,Tryz.ntmps102;go_wp2_with (first
  |(go_fit (I.refY Z E);rintro e w1 H;obtain⟨J,rfl,s,t,M,N⟩:=H.ok';(have G:=I.next J M N);obtain⟨g,i,j,m,n,o⟩:=G.cells)
  |(go_fit (Y.out _);rintro e z⟨rfl,rfl⟩)
  |(go_fit (d.out _);rintro e z⟨rfl,rfl⟩)
  |(go_at_call 136;rcases hq1:ZK U ⟨#[73]⟩ with _|S2;(with_reducible refine(G.putN ⟨#[73]⟩ hq1).mono ?_);(rintro e w2 H;obtain⟨v,rfl⟩:=H.no';exact And.intro rfl (G.stop v (X.out.symm.trans (Qd ((Qe E).trans ((if_pos F).trans (ZE hq1)))))));(with_reducible refine(G.putY ⟨#[73]⟩ hq1).mono ?_);rintro e w2 H;obtain⟨O,rfl,x,y,P,R⟩:=H.ok';(have f:=G.next O P R)))
 go_end0;exact f.done (X.out.symm.trans (Zl ((Qe E).trans ((if_pos F).trans (zD hq1)))))
theorem Qdm(w0 w:World)(B:Nat)(l:List Qb)(base:Nat)(ws:World)(M:Env w0 w B l base ws)(sb:Nat)(qb Zb:Str)(lv sv:Value)(L S:List Str)(h:Qi base ws sb B qb Zb lv sv L S)(R:Qm (Za l) S)(a b:Int)(A cls C:Str)(_hty:A.size<=1048576)(_hc:cls.size<=1048576)(_hfr:qb.size<=maxLen)(k:Str)(T:List Str)(E:zK S=some (k,T))(U:(k.toList==[78])=false)(N:Lib.hasPrefix k.toList [91]=false):
 Calls Tryz.prog 102 #[.pointer (some ⟨sb,0,none⟩),.agg #[.int .i64 19,.int .i64 a,.int .i64 b,.string A,.string cls,.string C]] ws (qf base ws sb B qb Zb lv sv (Qn ((zK S).bind fun p=>if zX p.1=true then Zv L p.2 kI else none))):=by
 have F:SA w0 w B l base ws lv sv sb qb Zb ws.heap.size [.int .i64 19,.int .i64 a,.int .i64 b,.string A,.string cls,.string C] (ws.alloc (.cells #[.int .i64 19,.int .i64 a,.int .i64 b,.string A,.string cls,.string C] 24)) lv sv L S:=SA.new M h _;obtain⟨Y,Z,c,d,f,g⟩:=F.cells;obtain⟨i,D⟩:∃r,Qn ((zK S).bind fun p=>if zX p.1=true then Zv L p.2 kI else none)=r:=⟨_,rfl⟩;have V:=Xh D;rw[D];have X:Hid (∀wx,_):=fun wx=>qB wx
 have O:Hid (∀wx,_):=fun wx=>zz k ⟨#[91]⟩ wx
 rw[<-ByteArray.toList_eq,show(⟨#[91]⟩:Str).data.toList=[91] from rfl,N]at O;have G:zX k=false:=by unfold zX;rw[U,N];rfl
 unfold kI at *;clear D M h;go_enter Tryz.func102,Tryz.ntmps102;go_wp2_with (first
  |(go_fit (F.refY R E);rintro e q n;obtain⟨H,rfl,j,m,I,J⟩:=n.ok';(have P:=F.next H I J);obtain⟨Y,Z,c,d,f,g⟩:=P.cells)
  |(go_fit (O.out _);rintro e o⟨rfl,rfl⟩)
  |(go_fit (X.out _);rintro e o⟨rfl,rfl⟩))
 exact And.intro rfl (P.stop Xb (V.out.symm.trans (Qd ((Qe E).trans (if_neg (by rw[G];decide))))))
theorem zdn(w0 w:World)(B:Nat)(l:List Qb)(base:Nat)(ws:World)(I:Env w0 w B l base ws)(sb:Nat)(qb Zb:Str)(lv sv:Value)(L S:List Str)(h:Qi base ws sb B qb Zb lv sv L S)(_hS:Qm (Za l) S)(a b:Int)(A cls C:Str)(E:A.size<=1048576)(_hc:cls.size<=1048576)(_hfr:qb.size<=maxLen)(J:¬zd (Za l) A=0):
 Calls Tryz.prog 102 #[.pointer (some ⟨sb,0,none⟩),.agg #[.int .i64 23,.int .i64 a,.int .i64 b,.string A,.string cls,.string C]] ws (qf base ws sb B qb Zb lv sv (Qn (knK (Za l) A ((zK S).bind fun p=>Zv L p.2 kI)))):=by
 have F:SA w0 w B l base ws lv sv sb qb Zb ws.heap.size [.int .i64 23,.int .i64 a,.int .i64 b,.string A,.string cls,.string C] (ws.alloc (.cells #[.int .i64 23,.int .i64 a,.int .i64 b,.string A,.string cls,.string C] 24)) lv sv L S:=SA.new I h _;obtain⟨P,R,T,U,V,X⟩:=F.cells;obtain⟨N,D⟩:∃r,Qn (knK (Za l) A ((zK S).bind fun p=>Zv L p.2 kI))=r:=⟨_,rfl⟩;have M:=Xh D;rw[D];have G:A.size<=maxLen:=Xf E (by decide);clear D I h;go_enter Tryz.func102,Tryz.ntmps102;go_wp2_with (first
  |(go_fit (F.knowsN A G J);rintro e Y O;obtain⟨H,rfl⟩:=O.no'))
 exact And.intro rfl (F.stop H (M.out.symm.trans (Qd (Qa5 J))))
theorem Zdn(w0 w:World)(B:Nat)(l:List Qb)(base:Nat)(ws:World)(R:Env w0 w B l base ws)(sb:Nat)(qb Zb:Str)(lv sv:Value)(L S:List Str)(h:Qi base ws sb B qb Zb lv sv L S)(U:Qm (Za l) S)(a b:Int)(A cls C:Str)(F:A.size<=1048576)(_hc:cls.size<=1048576)(_hfr:qb.size<=maxLen)(T:zd (Za l) A=0)(E:zK S=none):
 Calls Tryz.prog 102 #[.pointer (some ⟨sb,0,none⟩),.agg #[.int .i64 23,.int .i64 a,.int .i64 b,.string A,.string cls,.string C]] ws (qf base ws sb B qb Zb lv sv (Qn (knK (Za l) A ((zK S).bind fun p=>Zv L p.2 kI)))):=by
 have G:SA w0 w B l base ws lv sv sb qb Zb ws.heap.size [.int .i64 23,.int .i64 a,.int .i64 b,.string A,.string cls,.string C] (ws.alloc (.cells #[.int .i64 23,.int .i64 a,.int .i64 b,.string A,.string cls,.string C] 24)) lv sv L S:=SA.new R h _;obtain⟨X,Y,Z,c,d,f⟩:=G.cells;obtain⟨g,D⟩:∃r,Qn (knK (Za l) A ((zK S).bind fun p=>Zv L p.2 kI))=r:=⟨_,rfl⟩;have V:=Xh D;rw[D];have H:A.size<=maxLen:=Xf F (by decide);clear D R h;go_enter Tryz.func102,Tryz.ntmps102;go_wp2_with (first
  |(go_fit (G.knowsY A H T);rintro e k P;obtain⟨J,rfl,i,j,M,N⟩:=P.ok';(have I:=G.next J M N);obtain⟨X,Y,Z,c,d,f⟩:=I.cells)
  |(go_fit (I.refN U E);rintro e m P;obtain⟨O,rfl⟩:=P.no'))
 exact And.intro rfl (I.stop O (V.out.symm.trans (Qd ((QW (Decidable.not_not.2 T)).trans (qu E)))))
theorem qdn(w0 w:World)(B:Nat)(l:List Qb)(base:Nat)(ws:World)(g:Env w0 w B l base ws)(sb:Nat)(qb Zb:Str)(lv sv:Value)(L S:List Str)(h:Qi base ws sb B qb Zb lv sv L S)(v:Qm (Za l) S)(a b:Int)(A cls C:Str)(I:A.size<=1048576)(_hc:cls.size<=1048576)(_hfr:qb.size<=maxLen)(J:zd (Za l) A=0)(k:Str)(i:List Str)(E:zK S=some (k,i)):
 Calls Tryz.prog 102 #[.pointer (some ⟨sb,0,none⟩),.agg #[.int .i64 23,.int .i64 a,.int .i64 b,.string A,.string cls,.string C]] ws (qf base ws sb B qb Zb lv sv (Qn (knK (Za l) A ((zK S).bind fun p=>Zv L p.2 kI)))):=by
 have M:SA w0 w B l base ws lv sv sb qb Zb ws.heap.size [.int .i64 23,.int .i64 a,.int .i64 b,.string A,.string cls,.string C] (ws.alloc (.cells #[.int .i64 23,.int .i64 a,.int .i64 b,.string A,.string cls,.string C] 24)) lv sv L S:=SA.new g h _;obtain⟨m,n,o,q,s,t⟩:=M.cells;obtain⟨y,D⟩:∃r,Qn (knK (Za l) A ((zK S).bind fun p=>Zv L p.2 kI))=r:=⟨_,rfl⟩;have j:=Xh D;rw[D];have N:A.size<=maxLen:=Xf I (by decide);have G:=h.low;have O:=h.blk.lt;unfold kI at *;clear D g h;go_enter Tryz.func102,Tryz.ntmps102;go_upto_region 32 with(first
  |(go_fit (M.knowsY A N J);rintro e w1 F;obtain⟨T,rfl,z,aA,U,V⟩:=F.ok';(have P:=M.next T U V);obtain⟨m,n,o,q,s,t⟩:=P.cells)
  |(go_fit (P.refY v E);rintro e w2 F;obtain⟨X,rfl,aB,aC,Y,Z⟩:=F.ok';(have R:=P.next X Y Z);obtain⟨m,n,o,q,s,t⟩:=R.cells))
 have H:=R.boxed Xl (Xf G (Nat.le_of_lt O)) 3 (.string ⟨#[73]⟩);have f3:=R.box.frozen 3;have j3:(w2.setCell ⟨ws.heap.size,3,none⟩ (.string ⟨#[73]⟩)).cell? ⟨ws.heap.size,3,none⟩=some (.string ⟨#[73]⟩):=H.box.cell 3;go_wp2_with (first
  |(go_at_call 136;rcases hq2:ZK i ⟨#[73]⟩ with _|S2;(with_reducible refine(H.putN ⟨#[73]⟩ hq2).mono ?_);(rintro e w4 F;obtain⟨hB,rfl⟩:=F.no';exact And.intro rfl (H.stop hB (j.out.symm.trans (Qd ((QW (Decidable.not_not.2 J)).trans ((Qe E).trans (ZE hq2)))))));(with_reducible refine(H.putY ⟨#[73]⟩ hq2).mono ?_);rintro e w4 F;obtain⟨c,rfl,lv4,sv4,d,f⟩:=F.ok';(have x:=H.next c d f)))
 go_end0;exact x.done (j.out.symm.trans (Zl ((QW (Decidable.not_not.2 J)).trans ((Qe E).trans (zD hq2)))))
theorem qdO(w0 w:World)(B:Nat)(l:List Qb)(base:Nat)(ws:World)(N:Env w0 w B l base ws)(sb:Nat)(qb Zb:Str)(lv sv:Value)(L S:List Str)(h:Qi base ws sb B qb Zb lv sv L S)(O:Qm (Za l) S)(a b:Int)(A cls C:Str)(E:A.size<=1048576)(P:cls.size<=1048576)(F:qb.size<=maxLen):
 Calls Tryz.prog 102 #[.pointer (some ⟨sb,0,none⟩),.agg #[.int .i64 24,.int .i64 a,.int .i64 b,.string A,.string cls,.string C]] ws (qf base ws sb B qb Zb lv sv (Qn (qam (Za l) qb cls C A false L S))):=by
 have G:SA w0 w B l base ws lv sv sb qb Zb ws.heap.size [.int .i64 24,.int .i64 a,.int .i64 b,.string A,.string cls,.string C] (ws.alloc (.cells #[.int .i64 24,.int .i64 a,.int .i64 b,.string A,.string cls,.string C] 24)) lv sv L S:=SA.new N h _;obtain⟨c,d,f,g,i,j⟩:=G.cells;obtain⟨U,D⟩:∃r,Qn (qam (Za l) qb cls C A false L S)=r:=⟨_,rfl⟩;have R:=Xh D;rw[D];clear D N h;go_enter Tryz.func102,Tryz.ntmps102;go_wp2_with (first
  |(go_at_call 147;rcases hq0:qam (Za l) qb cls C A false L S with _|⟨k,m⟩;(with_reducible refine(G.callN O 24 a b A cls C false P F E hq0).mono ?_);(rintro e Z M;obtain⟨V,rfl⟩:=M.no';exact And.intro rfl (G.stop V (R.out.symm.trans (Qd hq0))));(with_reducible refine(G.callY O 24 a b A cls C false P F E hq0).mono ?_);rintro e Z M;obtain⟨H,rfl,X,Y,I,J⟩:=M.ok';(have T:=G.next H I J)))
 go_end0;exact T.done (R.out.symm.trans (Zl hq0))
theorem QdO(w0 w:World)(B:Nat)(l:List Qb)(base:Nat)(ws:World)(N:Env w0 w B l base ws)(sb:Nat)(qb Zb:Str)(lv sv:Value)(L S:List Str)(h:Qi base ws sb B qb Zb lv sv L S)(O:Qm (Za l) S)(a b:Int)(A cls C:Str)(E:A.size<=1048576)(P:cls.size<=1048576)(F:qb.size<=maxLen):
 Calls Tryz.prog 102 #[.pointer (some ⟨sb,0,none⟩),.agg #[.int .i64 25,.int .i64 a,.int .i64 b,.string A,.string cls,.string C]] ws (qf base ws sb B qb Zb lv sv (Qn (qam (Za l) qb cls C A true L S))):=by
 have G:SA w0 w B l base ws lv sv sb qb Zb ws.heap.size [.int .i64 25,.int .i64 a,.int .i64 b,.string A,.string cls,.string C] (ws.alloc (.cells #[.int .i64 25,.int .i64 a,.int .i64 b,.string A,.string cls,.string C] 24)) lv sv L S:=SA.new N h _;obtain⟨c,d,f,g,i,j⟩:=G.cells;obtain⟨U,D⟩:∃r,Qn (qam (Za l) qb cls C A true L S)=r:=⟨_,rfl⟩;have R:=Xh D;rw[D];clear D N h;go_enter Tryz.func102,Tryz.ntmps102;go_wp2_with (first
  |(go_at_call 147;rcases hq0:qam (Za l) qb cls C A true L S with _|⟨k,m⟩;(with_reducible refine(G.callN O 25 a b A cls C true P F E hq0).mono ?_);(rintro e Z M;obtain⟨V,rfl⟩:=M.no';exact And.intro rfl (G.stop V (R.out.symm.trans (Qd hq0))));(with_reducible refine(G.callY O 25 a b A cls C true P F E hq0).mono ?_);rintro e Z M;obtain⟨H,rfl,X,Y,I,J⟩:=M.ok';(have T:=G.next H I J)))
 go_end0;exact T.done (R.out.symm.trans (Zl hq0))
theorem qcF(w0 w:World)(B:Nat)(l:List Qb)(base:Nat)(ws:World)(F:Env w0 w B l base ws)(sb:Nat)(qb Zb:Str)(lv sv:Value)(L S:List Str)(h:Qi base ws sb B qb Zb lv sv L S)(A a b:Int)(C cls D:Str)(_hty:C.size<=1048576)(_hc:cls.size<=1048576)(_hfr:qb.size<=maxLen)(H:(A==15)=false)(I:(A==16)=false)(J:(A==17)=false)(M:(A==18)=false)(N:(A==19)=false)(O:(A==20)=false)(P:(A==21)=false)(R:(A==22)=false)(T:(A==23)=false)(U:(A==24)=false)(V:(A==25)=false):
 Calls Tryz.prog 102 #[.pointer (some ⟨sb,0,none⟩),.agg #[.int .i64 A,.int .i64 a,.int .i64 b,.string C,.string cls,.string D]] ws (qf base ws sb B qb Zb lv sv (Qn (some (L,S)))):=by
 have G:SA w0 w B l base ws lv sv sb qb Zb ws.heap.size [.int .i64 A,.int .i64 a,.int .i64 b,.string C,.string cls,.string D] (ws.alloc (.cells #[.int .i64 A,.int .i64 a,.int .i64 b,.string C,.string cls,.string D] 24)) lv sv L S:=SA.new F h _;obtain⟨Z,c,d,e,f,g⟩:=G.cells;obtain⟨Y,E⟩:∃r,Qn (some (L,S))=r:=⟨_,rfl⟩;have X:=Xh E;rw[E];clear E F h;go_enter Tryz.func102,Tryz.ntmps102;go_wp2_with fail;go_end0;exact G.done (X.out.symm.trans (Zl rfl))
set_option maxRecDepth 512
theorem ZaT(cs:List Qb)(qb:Str)(a b:Int)(A cls B:Str)(L S:List Str):
 zP cs qb ⟨15,a,b,A,cls,B⟩ L S=knK cs (Zd cls) (Zbb cs cls L S)
 /\zP cs qb ⟨16,a,b,A,cls,B⟩ L S=((zG cs cls B).bind fun t=>(zh cs [Zd cls] S).bind fun C=>Zv L C t)
 /\zP cs qb ⟨17,a,b,A,cls,B⟩ L S=((zG cs cls B).bind fun t=>(zh cs [t,Zd cls] S).map fun C=>(L,C))
 /\zP cs qb ⟨18,a,b,A,cls,B⟩ L S=knK cs A ((zh cs [kI] S).bind fun C=>Zv L C (ZF A))
 /\zP cs qb ⟨19,a,b,A,cls,B⟩ L S=((zK S).bind fun p=>if zX p.1=true then Zv L p.2 kI else none)
 /\zP cs qb ⟨20,a,b,A,cls,B⟩ L S=((qJ cs A S).bind fun C=>Zv L C A)
 /\zP cs qb ⟨21,a,b,A,cls,B⟩ L S=knK cs A ((zh cs [A] S).bind fun C=>(qJ cs A C).map fun D=>(L,D))
 /\zP cs qb ⟨22,a,b,A,cls,B⟩ L S=knK cs A ((zK S).bind fun p=>Zv L p.2 A)
 /\zP cs qb ⟨23,a,b,A,cls,B⟩ L S=knK cs A ((zK S).bind fun p=>Zv L p.2 kI)
 /\zP cs qb ⟨24,a,b,A,cls,B⟩ L S=qam cs qb cls B A false L S
 /\zP cs qb ⟨25,a,b,A,cls,B⟩ L S=qam cs qb cls B A true L S :=
 ⟨rfl,rfl,rfl,rfl,rfl,rfl,rfl,rfl,rfl,rfl,rfl⟩
theorem zaj{cs:List Qb}{qb:Str}{x:Ins}{L S:List Str}(h:x.op≠15/\x.op≠16/\x.op≠17/\x.op≠18/\x.op≠19/\x.op≠20/\x.op≠21/\x.op≠22/\x.op≠23/\x.op≠24/\x.op≠25):zP cs qb x L S=some (L,S):=by
 obtain⟨C,D,E,F,G,H,I,J,M,A,B⟩:=h;unfold zP;rw[if_neg C,if_neg D,if_neg E,if_neg F,if_neg G,if_neg H,if_neg I,if_neg J,if_neg M,if_neg A,if_neg B]
theorem Qdn(w0 w:World)(B:Nat)(l:List Qb)(base:Nat)(ws:World)(G:Env w0 w B l base ws)(sb:Nat)(qb Zb:Str)(lv sv:Value)(L S:List Str)(h:Qi base ws sb B qb Zb lv sv L S)(x:Ins)(H:15<=x.op/\x.op<=25->Qm (Za l) S)(D:x.type.size<=1048576)(F:x.cls.size<=1048576)(E:qb.size<=maxLen):
 Calls Tryz.prog 102 #[.pointer (some ⟨sb,0,none⟩),ZW x] ws (qf base ws sb B qb Zb lv sv (Qn (zP (Za l) qb x L S))):=by
 obtain⟨I,a,b,A,cls,C⟩:=x;replace D:A.size<=1048576:=D;replace F:cls.size<=1048576:=F;unfold ZW;dsimp only at H ⊢;obtain⟨g,i,j,m,n,o,q,r,s,t,v⟩:=ZaT (Za l) qb a b A cls C L S;by_cases N:I=15
 ·subst N;rw[g];by_cases O:zd (Za l) (Zd cls)=0
  ·cases J:(qh (Za l) cls).face with
   |true=>exact qdl w0 w B l base ws G sb qb Zb lv sv L S h (H (by omega)) a b A cls C D F E O J
   |false=>exact Qdl w0 w B l base ws G sb qb Zb lv sv L S h (H (by omega)) a b A cls C D F E O J
  ·exact Zdl w0 w B l base ws G sb qb Zb lv sv L S h (H (by omega)) a b A cls C D F E O
 by_cases P:I=16
 ·subst P;rw[i];exact zdN w0 w B l base ws G sb qb Zb lv sv L S h (H (by omega)) a b A cls C D F E
 by_cases R:I=17
 ·subst R;rw[j];exact ZdO w0 w B l base ws G sb qb Zb lv sv L S h (H (by omega)) a b A cls C D F E
 by_cases T:I=18
 ·subst T;rw[m];exact ZdN w0 w B l base ws G sb qb Zb lv sv L S h (H (by omega)) a b A cls C D F E
 by_cases U:I=19
 ·subst U;rw[n];cases M:zK S with
  |none =>
   have:=zdm w0 w B l base ws G sb qb Zb lv sv L S h (H (by omega)) a b A cls C D F E M;rw[M]at this;exact this
  |some p =>
   obtain⟨k,e⟩:=p;rw[<-M];cases f:(k.toList==[78]) with
   |true=>exact Zdm w0 w B l base ws G sb qb Zb lv sv L S h (H (by omega)) a b A cls C D F E k e M f
   |false =>
    cases y:Lib.hasPrefix k.toList [91] with
    |true=>exact qdm w0 w B l base ws G sb qb Zb lv sv L S h (H (by omega)) a b A cls C D F E k e M f y
    |false=>exact Qdm w0 w B l base ws G sb qb Zb lv sv L S h (H (by omega)) a b A cls C D F E k e M f y
 by_cases V:I=20
 ·subst V;rw[o];exact qdN w0 w B l base ws G sb qb Zb lv sv L S h (H (by omega)) a b A cls C D F E
 by_cases X:I=21
 ·subst X;rw[q];exact QdN w0 w B l base ws G sb qb Zb lv sv L S h (H (by omega)) a b A cls C D F E
 by_cases Y:I=22
 ·subst Y;rw[r];exact zdO w0 w B l base ws G sb qb Zb lv sv L S h (H (by omega)) a b A cls C D F E
 by_cases Z:I=23
 ·subst Z;rw[s];by_cases O:zd (Za l) A=0
  ·cases M:zK S with
   |none =>
    have:=Zdn w0 w B l base ws G sb qb Zb lv sv L S h (H (by omega)) a b A cls C D F E O M;rw[M]at this;exact this
   |some p =>
    obtain⟨k,e⟩:=p;rw[<-M];exact qdn w0 w B l base ws G sb qb Zb lv sv L S h (H (by omega)) a b A cls C D F E O k e M
  ·exact zdn w0 w B l base ws G sb qb Zb lv sv L S h (H (by omega)) a b A cls C D F E O
 by_cases c:I=24
 ·subst c;rw[t];exact qdO w0 w B l base ws G sb qb Zb lv sv L S h (H (by omega)) a b A cls C D F E
 by_cases d:I=25
 ·subst d;rw[v];exact QdO w0 w B l base ws G sb qb Zb lv sv L S h (H (by omega)) a b A cls C D F E
 rw[zaj ⟨N,P,R,T,U,V,X,Y,Z,c,d⟩];exact qcF w0 w B l base ws G sb qb Zb lv sv L S h I a b A cls C D F E (by simpa using N) (by simpa using P) (by simpa using R) (by simpa using T) (by simpa using U) (by simpa using V) (by simpa using X) (by simpa using Y) (by simpa using Z) (by simpa using c) (by simpa using d)
def zp(cs:List Qb)(qb Zb:Str)(x:Ins)(L S:List Str):Option (List Str×List Str):=(qN cs Zb x L S).bind fun p=>zP cs qb x p.1 p.2
theorem zdo(cs:List Qb)(qb Zb:Str)(x:Ins)(L S:List Str):((qN cs Zb x L S).bind fun _=>zp cs qb Zb x L S)=zp cs qb Zb x L S:=by
 cases h:qN cs Zb x L S with
 |none=>unfold zp;rw[h];rfl
 |some p=>rfl
theorem qc1{cs:List Qb}{f:Frm}(h:Qx cs f=0):Qm cs f.stack:=(qw h).2.2.2
theorem zck(w0 w:World)(B:Nat)(l:List Qb)(R:zy w0 w B l)(qb Zb:Str)(x:Ins)(f:Frm)(G H:Value)(X:zk w G H f)(T:Qx (Za l) f=0)(I:qaL x)(Y:x.op=4\/x.op=5->0<=x.a)(J:qb.size<=maxLen)(Z:Zb.size<=maxLen):
 Calls Tryz.prog 54 #[.map (some B),.string qb,.string Zb,ZW x,.agg #[G,H]] w (Za6 w (zp (Za l) qb Zb x f.locals f.stack)):=by
 have U:=qc1 T;obtain⟨e,V,_,_⟩:=qw T;rw[<-zdo];have M:x.type.size<=maxLen:=Xf I.type (by decide);obtain⟨E,a,b,A,cls,C⟩:=x;refine Zdo w B qb Zb E a b A cls C f G H X (by omega) (by omega) _ _ (fun base wx sb lv sv N O D=>?_) (fun L S F base wx sb lv sv N O D=>?_)
 ·exact(QdH w0 w B l base wx ⟨R,N,O⟩ sb qb Zb lv sv f.locals f.stack D U ⟨E,a,b,A,cls,C⟩ M Z Y).mono fun _ _ h=>h.post
 ·have c:zp (Za l) qb Zb ⟨E,a,b,A,cls,C⟩ f.locals f.stack=zP (Za l) qb ⟨E,a,b,A,cls,C⟩ L S:=by unfold zp;rw[F];rfl
  rw[c];refine(Qdn w0 w B l base wx ⟨R,N,O⟩ sb qb Zb lv sv L S D ⟨E,a,b,A,cls,C⟩ (fun P=>?_) I.type I.cls J).mono fun _ _ h=>h.post
  have d:qN (Za l) Zb ⟨E,a,b,A,cls,C⟩ f.locals f.stack=some (f.locals,f.stack):=Q6 (by dsimp only at P ⊢;omega);rw[d]at F;injection F with F
  injection F with _ V
  exact V▸U
theorem ZaY{x:Ins}(h:Zi x=0)(B:x.op=4\/x.op=5):0<=x.a:=by
 unfold Zi at h;split at h
 ·cases h
 ·split at h
  ·cases h
  ·split at h
   ·cases h
   ·rename_i A;unfold qM at A;rw[if_neg (by omega),if_pos B]at A;simp at A;omega
end Go.Proofs.YtlmfmioljeppfaaGreatDoor
