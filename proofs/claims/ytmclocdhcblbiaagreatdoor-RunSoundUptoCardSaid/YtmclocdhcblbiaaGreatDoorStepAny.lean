/- Lemmas; conditions: as each states. -/
import Derived.Test.YtmclocdhcblbiaaGreatDoorCall
set_option maxHeartbeats 4000000
namespace Go.Proofs.YtmclocdhcblbiaaGreatDoor
open Go.RowKit Go.Shelf Go.Lib
def Za6(cs:List qa)(k t:Str):Bool:=match qr k with
 |.n=>true
 |.ty (.ar e)=>zQ cs (.ty e) (qr t)&&(qm e==zz (qr t))
 |_=>false
def ZN(cs:List qa)(t:Str)(S:List Str):Option (List Str) :=
 if Qg cs t≠0 then none else (Qf cs [kI] S).bind fun S1=>(ZM S1).bind fun p=>if Za6 cs p.1 t then some p.2 else none
set_option maxRecDepth 100000
theorem Qfa(w0 w:World)(B:Nat)(l:List qa)(base:Nat)(ws:World)(sb:Nat)(qb Zb:Str)(lv sv:Value)(L S:List Str)(T:ql (Za l) S)(xb:Nat)(xv:List Value)(U:SA w0 w B l base ws lv sv sb qb Zb xb xv ws lv sv L S)(t k:Str)(g:t.size<=maxLen)(h:Qg (Za l) t=0)(b c:List Str)(A:Qf (Za l) [kI] S=some b)(D:ZM b=some (k,c))(x:(k.toList==[78])=true):
 Calls Tryz.prog 174 #[.pointer (some ⟨sb,0,none⟩),.string t] ws (Zf base ws sb B qb Zb lv sv (some (.tuple #[],L,c))):=by
 unfold kI at *;have j:Hid (∀wx,_):=fun wx=>qG wx
 go_enter Tryz.func174,Tryz.ntmps174;go_upto_region 3 with(first
  |(go_fit (U.knowsY t g h);rintro e y C;obtain⟨G,rfl,m,n,H,I⟩:=C.ok';(have V:=U.next G H I);(have E:=V.alloc (.cells #[.string ⟨#[73]⟩] 9)))
  |(go_fit (V.takeOY T ⟨#[73]⟩ (Zai _) _ (by simp) A);rintro e z C;obtain⟨J,rfl,o,p,M,N⟩:=C.ok';(have X:=E.next J M N);(have F:=Qh A T))
  |(go_fit (X.refY F D);rintro e s C;obtain⟨O,rfl,q,r,P,R⟩:=C.ok'))
 have Y:=(X.next O P R).over Xb.drew;have Z:=Xh Y;have d:s.drew.cell? ⟨sb,0,none⟩=some (.map (some B)):=Y.step.blk.cell 0;clear U V E X Y G J O H M P I N R C A D F T;refine wp_region_held_drew (S:=fun w'=>w'.cell? ⟨sb,0,none⟩=some (.map (some B))) (by kernel_rfl) d (fun hHeld=>?_);change wpAnyH _ _ _ _ _ 26 _ _ _;iterate 25 ((first|(refine tkN rfl rfl hHeld ?_)|(refine tkY (v:=?_) rfl rfl hHeld ?_ ?_;rotate_left;focus (intro w a;((try dsimp only at a));go_simp;all_goals with_reducible rfl)));try simp only[Act.put,Xa,Xc,Xd])
 refine wpAnyH_ready (rs:=[25]) (fuel:=0) (by kernel_rfl) (by simp) ?_;refine AllReadyH.cons (i:=25) rfl (fun K f=>?_) AllReadyH.nil;go_simp;refine(j.out _).mono ?_;rintro e wq⟨rfl,rfl⟩;refine f.out _ _ d (fun hHeld=>?_);clear f K;try dsimp only[Act.put]
 refine wpAnyH_done (by kernel_rfl) ?_ _;clear hHeld;go_wp2_with fail;go_end0;exact Z.out.done rfl
theorem zfb(w0 w:World)(B:Nat)(l:List qa)(base:Nat)(ws:World)(sb:Nat)(qb Zb:Str)(lv sv:Value)(L S:List Str)(T:ql (Za l) S)(xb:Nat)(xv:List Value)(U:SA w0 w B l base ws lv sv sb qb Zb xb xv ws lv sv L S)(t k:Str)(c:t.size<=maxLen)(d:Qg (Za l) t=0)(b f:List Str)(A:Qf (Za l) [kI] S=some b)(D:ZM b=some (k,f))(x:(k.toList==[78])=false)(g:0<k.size)(y:(((k[0]'g).toNat:Int)==91)=false):
 Calls Tryz.prog 174 #[.pointer (some ⟨sb,0,none⟩),.string t] ws (Zf base ws sb B qb Zb lv sv none):=by
 unfold kI at *;have h:Hid (∀wx,_):=fun wx=>zx wx
 go_enter Tryz.func174,Tryz.ntmps174;go_upto_region 3 with(first
  |(go_fit (U.knowsY t c d);rintro e z C;obtain⟨G,rfl,m,n,H,I⟩:=C.ok';(have V:=U.next G H I);(have E:=V.alloc (.cells #[.string ⟨#[73]⟩] 9)))
  |(go_fit (V.takeOY T ⟨#[73]⟩ (Zai _) _ (by simp) A);rintro e w2 C;obtain⟨J,rfl,o,p,M,N⟩:=C.ok';(have X:=E.next J M N);(have F:=Qh A T))
  |(go_fit (X.refY F D);rintro e s C;obtain⟨O,rfl,q,r,P,R⟩:=C.ok'))
 have Y:=(X.next O P R).over Xb.drew;have Z:=Xh Y;have j:s.drew.cell? ⟨sb,0,none⟩=some (.map (some B)):=Y.step.blk.cell 0;clear U V E X Y G J O H M P I N R C A D F T;refine wp_region_held_drew (S:=fun w'=>w'.cell? ⟨sb,0,none⟩=some (.map (some B))) (by kernel_rfl) j (fun hHeld=>?_);change wpAnyH _ _ _ _ _ 26 _ _ _;iterate 25 ((first|(refine tkN rfl rfl hHeld ?_)|(refine tkY (v:=?_) rfl rfl hHeld ?_ ?_;rotate_left;focus (intro w a;((try dsimp only at a));go_simp;all_goals with_reducible rfl)));try simp only[Act.put,Xa,Xc,Xd])
 refine wpAnyH_ready (rs:=[25]) (fuel:=0) (by kernel_rfl) (by simp) ?_;refine AllReadyH.cons (i:=25) rfl (fun K hK=>?_) AllReadyH.nil;go_simp;refine(h.out _).mono ?_;rintro e wq⟨rfl,rfl⟩;exact And.intro rfl (Z.out.stop Xb rfl)
theorem Zfb(w0 w:World)(B:Nat)(l:List qa)(base:Nat)(ws:World)(sb:Nat)(qb Zb:Str)(lv sv:Value)(L S:List Str)(X:ql (Za l) S)(xb:Nat)(xv:List Value)(Y:SA w0 w B l base ws lv sv sb qb Zb xb xv ws lv sv L S)(t k:Str)(m:t.size<=maxLen)(g:Qg (Za l) t=0)(h n:List Str)(A:Qf (Za l) [kI] S=some h)(E:ZM h=some (k,n))(hn:(k.toList==[78])=false)(o:0<k.size)(hf:(((k[0]'o).toNat:Int)==91)=true)(h1:(1:Int)<=(k.size:Int))(Z:Qg (Za l) (k.extract 1 k.size)=0)(p:zQ (Za l) (qr (k.extract 1 k.size)) (qr t)=false):
 Calls Tryz.prog 174 #[.pointer (some ⟨sb,0,none⟩),.string t] ws (Zf base ws sb B qb Zb lv sv none):=by
 unfold kI at *;have q:Hid (∀wx,_):=fun wx=>zx wx
 go_enter Tryz.func174,Tryz.ntmps174;go_upto_region 3 with(first
  |(go_fit (Y.knowsY t m g);rintro e w1 D;obtain⟨J,rfl,s,x,M,N⟩:=D.ok';(have a:=Y.next J M N);(have F:=a.alloc (.cells #[.string ⟨#[73]⟩] 9)))
  |(go_fit (a.takeOY X ⟨#[73]⟩ (Zai _) _ (by simp) A);rintro e w2 D;obtain⟨O,rfl,y,z,P,R⟩:=D.ok';(have b:=F.next O P R);(have G:=Qh A X))
  |(go_fit (b.refY G E);rintro e w3 D;obtain⟨T,rfl,aA,aB,U,V⟩:=D.ok'))
 have c:=(b.next T U V).over Xb.drew;have H:=Xh c;have r:w3.drew.cell? ⟨sb,0,none⟩=some (.map (some B)):=c.step.blk.cell 0;clear Y a F b c J O T M P U N R V D A E G X;have j:=Xh (ZaD w0 _ B l H.out.env.map (k.extract 1 k.size) t Z g);rw[p]at j;refine wp_region_held_drew (S:=fun w'=>w'.cell? ⟨sb,0,none⟩=some (.map (some B))) (by kernel_rfl) r (fun hHeld=>?_);change wpAnyH _ _ _ _ _ 26 _ _ _;iterate 14 ((first|(refine tkN rfl rfl hHeld ?_)|(refine tkY (v:=?_) rfl rfl hHeld ?_ ?_;rotate_left;focus (intro w C;((try dsimp only at C));go_simp;all_goals with_reducible rfl)));try simp only[Act.put,Xa,Xc,Xd])
 refine wpAnyH_ready (rs:=[14]) (fuel:=11) (by kernel_rfl) (by simp) ?_;refine AllReadyH.cons (i:=14) rfl (fun K f=>?_) AllReadyH.nil;go_simp;refine j.out.mono ?_;rintro e w5⟨rfl,d⟩;have I:=Xh (H.out.over d);refine f.out _ _ (I.out.step.blk.cell 0) (fun hHeld=>?_);clear f K;try dsimp only[Act.put]
 change wpAnyH _ _ _ _ _ 11 _ _ _;iterate 10 ((first|(refine tkN rfl rfl hHeld ?_)|(refine tkY (v:=?_) rfl rfl hHeld ?_ ?_;rotate_left;focus (intro w C;((try dsimp only at C));go_simp;all_goals with_reducible rfl)));try simp only[Act.put,Xa,Xc,Xd])
 refine wpAnyH_ready (rs:=[25]) (fuel:=0) (by kernel_rfl) (by simp) ?_;refine AllReadyH.cons (i:=25) rfl (fun K f=>?_) AllReadyH.nil;go_simp;refine(q.out _).mono ?_;rintro e wq⟨rfl,rfl⟩;exact And.intro rfl (I.out.stop Xb rfl)
theorem zeY(w0 w:World)(B:Nat)(l:List qa)(base:Nat)(ws:World)(sb:Nat)(qb Zb:Str)(lv sv:Value)(L S:List Str)(a:ql (Za l) S)(xb:Nat)(xv:List Value)(b:SA w0 w B l base ws lv sv sb qb Zb xb xv ws lv sv L S)(t k:Str)(q:t.size<=maxLen)(m:Qg (Za l) t=0)(n o:List Str)(E:Qf (Za l) [kI] S=some n)(G:ZM n=some (k,o))(hn:(k.toList==[78])=false)(r:0<k.size)(hf:(((k[0]'r).toNat:Int)==91)=true)(h1:(1:Int)<=(k.size:Int))(c:Qg (Za l) (k.extract 1 k.size)=0)(s:zQ (Za l) (qr (k.extract 1 k.size)) (qr t)=true)(H:∀wx,Calls Tryz.prog 51 #[.string (k.extract 1 k.size)] wx fun e w'=>e=.returned (.bool true)/\wx=w')(I:∀wx,Calls Tryz.prog 51 #[.string t] wx fun e w'=>e=.returned (.bool true)/\wx=w'):
 Calls Tryz.prog 174 #[.pointer (some ⟨sb,0,none⟩),.string t] ws (Zf base ws sb B qb Zb lv sv (some (.tuple #[],L,o))):=by
 unfold kI at *;have x:Hid (∀wx,_):=fun wx=>qG wx
 have y:=Xh H;have z:=Xh I;clear H I;go_enter Tryz.func174,Tryz.ntmps174;go_upto_region 3 with(first
  |(go_fit (b.knowsY t q m);rintro e w1 F;obtain⟨O,rfl,lv1,sv1,P,R⟩:=F.ok';(have d:=b.next O P R);(have J:=d.alloc (.cells #[.string ⟨#[73]⟩] 9)))
  |(go_fit (d.takeOY a ⟨#[73]⟩ (Zai _) _ (by simp) E);rintro e w2 F;obtain⟨T,rfl,lv2,sv2,U,V⟩:=F.ok';(have f:=J.next T U V);(have M:=Qh E a))
  |(go_fit (f.refY M G);rintro e w3 F;obtain⟨X,rfl,lv3,sv3,Y,Z⟩:=F.ok'))
 have g:=(f.next X Y Z).over Xb.drew;have N:=Xh g;have q3:w3.drew.cell? ⟨sb,0,none⟩=some (.map (some B)):=g.step.blk.cell 0;clear b d J f g O T X P U Y R V Z F E G M a;have p:=Xh (ZaD w0 _ B l N.out.env.map (k.extract 1 k.size) t c m);rw[s]at p;refine wp_region_held_drew (S:=fun w'=>w'.cell? ⟨sb,0,none⟩=some (.map (some B))) (by kernel_rfl) q3 (fun hHeld=>?_);change wpAnyH _ _ _ _ _ 26 _ _ _;iterate 14 ((first|(refine tkN rfl rfl hHeld ?_)|(refine tkY (v:=?_) rfl rfl hHeld ?_ ?_;rotate_left;focus (intro w A;((try dsimp only at A));go_simp;all_goals with_reducible rfl)));try simp only[Act.put,Xa,Xc,Xd])
 refine wpAnyH_ready (rs:=[14]) (fuel:=11) (by kernel_rfl) (by simp) ?_;refine AllReadyH.cons (i:=14) rfl (fun K D=>?_) AllReadyH.nil;go_simp;refine p.out.mono ?_;rintro e w5⟨rfl,j⟩;have C:=Xh (N.out.over j);refine D.out _ _ (C.out.step.blk.cell 0) (fun hHeld=>?_);clear D K;try dsimp only[Act.put]
 change wpAnyH _ _ _ _ _ 11 _ _ _;iterate 4 ((first|(refine tkN rfl rfl hHeld ?_)|(refine tkY (v:=?_) rfl rfl hHeld ?_ ?_;rotate_left;focus (intro w A;((try dsimp only at A));go_simp;all_goals with_reducible rfl)));try simp only[Act.put,Xa,Xc,Xd])
 refine tkI (i:=20) (fuel:=6) (v:=?_) rfl (by kernel_rfl) (by kernel_rfl) (by kernel_rfl) (fun _ _ _ h=>h) (by rfl) hHeld ?_ ?_;rotate_left;focus (intro w A;((try dsimp only at A));go_simp;all_goals with_reducible rfl);(try simp only[Act.put]);(try simp only[Xa]);(try simp only[Xd]);(try simp only[Xc])
 refine wpAnyH_ready (rs:=[19]) (fuel:=5) (by kernel_rfl) (by simp) ?_;refine AllReadyH.cons (i:=19) rfl (fun K D=>?_) AllReadyH.nil;go_simp;refine(y.out _).mono ?_;rintro e wr⟨rfl,rfl⟩;refine D.out _ _ (C.out.step.blk.cell 0) (fun hHeld=>?_);clear D K;try dsimp only[Act.put]
 refine wpAnyH_ready (rs:=[21]) (fuel:=4) (by kernel_rfl) (by simp) ?_;refine AllReadyH.cons (i:=21) rfl (fun K D=>?_) AllReadyH.nil;go_simp;refine(z.out _).mono ?_;rintro e wr⟨rfl,rfl⟩;refine D.out _ _ (C.out.step.blk.cell 0) (fun hHeld=>?_);clear D K;try dsimp only[Act.put]
 change wpAnyH _ _ _ _ _ 4 _ _ _;iterate 3 ((first|(refine tkN rfl rfl hHeld ?_)|(refine tkY (v:=?_) rfl rfl hHeld ?_ ?_;rotate_left;focus (intro w A;((try dsimp only at A));go_simp;all_goals with_reducible rfl)));(try simp only[Act.put]);(try simp only[Xa]);(try simp only[Xd]);(try simp only[Xc]))
 refine wpAnyH_ready (rs:=[25]) (fuel:=0) (by kernel_rfl) (by simp) ?_;refine AllReadyH.cons (i:=25) rfl (fun K D=>?_) AllReadyH.nil;go_simp;refine(x.out _).mono ?_;rintro e wq⟨rfl,rfl⟩;refine D.out _ _ (C.out.step.blk.cell 0) (fun hHeld=>?_);clear D K;try dsimp only[Act.put]
 refine wpAnyH_done (by kernel_rfl) ?_ _;clear hHeld;go_wp2_with fail;go_end0;exact C.out.done rfl
theorem ZeY(w0 w:World)(B:Nat)(l:List qa)(base:Nat)(ws:World)(sb:Nat)(qb Zb:Str)(lv sv:Value)(L S:List Str)(a:ql (Za l) S)(xb:Nat)(xv:List Value)(b:SA w0 w B l base ws lv sv sb qb Zb xb xv ws lv sv L S)(t k:Str)(p:t.size<=maxLen)(m:Qg (Za l) t=0)(n q:List Str)(E:Qf (Za l) [kI] S=some n)(G:ZM n=some (k,q))(hn:(k.toList==[78])=false)(r:0<k.size)(hf:(((k[0]'r).toNat:Int)==91)=true)(h1:(1:Int)<=(k.size:Int))(c:Qg (Za l) (k.extract 1 k.size)=0)(s:zQ (Za l) (qr (k.extract 1 k.size)) (qr t)=true)(H:∀wx,Calls Tryz.prog 51 #[.string (k.extract 1 k.size)] wx fun e w'=>e=.returned (.bool true)/\wx=w')(I:∀wx,Calls Tryz.prog 51 #[.string t] wx fun e w'=>e=.returned (.bool false)/\wx=w'):
 Calls Tryz.prog 174 #[.pointer (some ⟨sb,0,none⟩),.string t] ws (Zf base ws sb B qb Zb lv sv none):=by
 unfold kI at *;have x:Hid (∀wx,_):=fun wx=>zx wx
 have y:=Xh H;have z:=Xh I;clear H I;go_enter Tryz.func174,Tryz.ntmps174;go_upto_region 3 with(first
  |(go_fit (b.knowsY t p m);rintro e w1 F;obtain⟨O,rfl,lv1,sv1,P,R⟩:=F.ok';(have d:=b.next O P R);(have J:=d.alloc (.cells #[.string ⟨#[73]⟩] 9)))
  |(go_fit (d.takeOY a ⟨#[73]⟩ (Zai _) _ (by simp) E);rintro e w2 F;obtain⟨T,rfl,lv2,sv2,U,V⟩:=F.ok';(have f:=J.next T U V);(have M:=Qh E a))
  |(go_fit (f.refY M G);rintro e w3 F;obtain⟨X,rfl,lv3,sv3,Y,Z⟩:=F.ok'))
 have g:=(f.next X Y Z).over Xb.drew;have N:=Xh g;have q3:w3.drew.cell? ⟨sb,0,none⟩=some (.map (some B)):=g.step.blk.cell 0;clear b d J f g O T X P U Y R V Z F E G M a;have o:=Xh (ZaD w0 _ B l N.out.env.map (k.extract 1 k.size) t c m);rw[s]at o;refine wp_region_held_drew (S:=fun w'=>w'.cell? ⟨sb,0,none⟩=some (.map (some B))) (by kernel_rfl) q3 (fun hHeld=>?_);change wpAnyH _ _ _ _ _ 26 _ _ _;iterate 14 ((first|(refine tkN rfl rfl hHeld ?_)|(refine tkY (v:=?_) rfl rfl hHeld ?_ ?_;rotate_left;focus (intro w A;((try dsimp only at A));go_simp;all_goals with_reducible rfl)));try simp only[Act.put,Xa,Xc,Xd])
 refine wpAnyH_ready (rs:=[14]) (fuel:=11) (by kernel_rfl) (by simp) ?_;refine AllReadyH.cons (i:=14) rfl (fun K D=>?_) AllReadyH.nil;go_simp;refine o.out.mono ?_;rintro e w5⟨rfl,j⟩;have C:=Xh (N.out.over j);refine D.out _ _ (C.out.step.blk.cell 0) (fun hHeld=>?_);clear D K;try dsimp only[Act.put]
 change wpAnyH _ _ _ _ _ 11 _ _ _;iterate 4 ((first|(refine tkN rfl rfl hHeld ?_)|(refine tkY (v:=?_) rfl rfl hHeld ?_ ?_;rotate_left;focus (intro w A;((try dsimp only at A));go_simp;all_goals with_reducible rfl)));try simp only[Act.put,Xa,Xc,Xd])
 refine tkI (i:=20) (fuel:=6) (v:=?_) rfl (by kernel_rfl) (by kernel_rfl) (by kernel_rfl) (fun _ _ _ h=>h) (by rfl) hHeld ?_ ?_;rotate_left;focus (intro w A;((try dsimp only at A));go_simp;all_goals with_reducible rfl);(try simp only[Act.put]);(try simp only[Xa]);(try simp only[Xd]);(try simp only[Xc])
 refine wpAnyH_ready (rs:=[19]) (fuel:=5) (by kernel_rfl) (by simp) ?_;refine AllReadyH.cons (i:=19) rfl (fun K D=>?_) AllReadyH.nil;go_simp;refine(y.out _).mono ?_;rintro e wr⟨rfl,rfl⟩;refine D.out _ _ (C.out.step.blk.cell 0) (fun hHeld=>?_);clear D K;try dsimp only[Act.put]
 refine wpAnyH_ready (rs:=[21]) (fuel:=4) (by kernel_rfl) (by simp) ?_;refine AllReadyH.cons (i:=21) rfl (fun K D=>?_) AllReadyH.nil;go_simp;refine(z.out _).mono ?_;rintro e wr⟨rfl,rfl⟩;refine D.out _ _ (C.out.step.blk.cell 0) (fun hHeld=>?_);clear D K;try dsimp only[Act.put]
 change wpAnyH _ _ _ _ _ 4 _ _ _;iterate 3 ((first|(refine tkN rfl rfl hHeld ?_)|(refine tkY (v:=?_) rfl rfl hHeld ?_ ?_;rotate_left;focus (intro w A;((try dsimp only at A));go_simp;all_goals with_reducible rfl)));(try simp only[Act.put]);(try simp only[Xa]);(try simp only[Xd]);(try simp only[Xc]))
 refine wpAnyH_ready (rs:=[25]) (fuel:=0) (by kernel_rfl) (by simp) ?_;refine AllReadyH.cons (i:=25) rfl (fun K D=>?_) AllReadyH.nil;go_simp;refine(x.out _).mono ?_;rintro e wq⟨rfl,rfl⟩;exact And.intro rfl (C.out.stop Xb rfl)
theorem qeY(w0 w:World)(B:Nat)(l:List qa)(base:Nat)(ws:World)(sb:Nat)(qb Zb:Str)(lv sv:Value)(L S:List Str)(a:ql (Za l) S)(xb:Nat)(xv:List Value)(b:SA w0 w B l base ws lv sv sb qb Zb xb xv ws lv sv L S)(t k:Str)(p:t.size<=maxLen)(m:Qg (Za l) t=0)(n q:List Str)(E:Qf (Za l) [kI] S=some n)(G:ZM n=some (k,q))(hn:(k.toList==[78])=false)(r:0<k.size)(hf:(((k[0]'r).toNat:Int)==91)=true)(h1:(1:Int)<=(k.size:Int))(c:Qg (Za l) (k.extract 1 k.size)=0)(s:zQ (Za l) (qr (k.extract 1 k.size)) (qr t)=true)(H:∀wx,Calls Tryz.prog 51 #[.string (k.extract 1 k.size)] wx fun e w'=>e=.returned (.bool false)/\wx=w')(I:∀wx,Calls Tryz.prog 51 #[.string t] wx fun e w'=>e=.returned (.bool true)/\wx=w'):
 Calls Tryz.prog 174 #[.pointer (some ⟨sb,0,none⟩),.string t] ws (Zf base ws sb B qb Zb lv sv none):=by
 unfold kI at *;have x:Hid (∀wx,_):=fun wx=>zx wx
 have y:=Xh H;have z:=Xh I;clear H I;go_enter Tryz.func174,Tryz.ntmps174;go_upto_region 3 with(first
  |(go_fit (b.knowsY t p m);rintro e w1 F;obtain⟨O,rfl,lv1,sv1,P,R⟩:=F.ok';(have d:=b.next O P R);(have J:=d.alloc (.cells #[.string ⟨#[73]⟩] 9)))
  |(go_fit (d.takeOY a ⟨#[73]⟩ (Zai _) _ (by simp) E);rintro e w2 F;obtain⟨T,rfl,lv2,sv2,U,V⟩:=F.ok';(have f:=J.next T U V);(have M:=Qh E a))
  |(go_fit (f.refY M G);rintro e w3 F;obtain⟨X,rfl,lv3,sv3,Y,Z⟩:=F.ok'))
 have g:=(f.next X Y Z).over Xb.drew;have N:=Xh g;have q3:w3.drew.cell? ⟨sb,0,none⟩=some (.map (some B)):=g.step.blk.cell 0;clear b d J f g O T X P U Y R V Z F E G M a;have o:=Xh (ZaD w0 _ B l N.out.env.map (k.extract 1 k.size) t c m);rw[s]at o;refine wp_region_held_drew (S:=fun w'=>w'.cell? ⟨sb,0,none⟩=some (.map (some B))) (by kernel_rfl) q3 (fun hHeld=>?_);change wpAnyH _ _ _ _ _ 26 _ _ _;iterate 14 ((first|(refine tkN rfl rfl hHeld ?_)|(refine tkY (v:=?_) rfl rfl hHeld ?_ ?_;rotate_left;focus (intro w A;((try dsimp only at A));go_simp;all_goals with_reducible rfl)));try simp only[Act.put,Xa,Xc,Xd])
 refine wpAnyH_ready (rs:=[14]) (fuel:=11) (by kernel_rfl) (by simp) ?_;refine AllReadyH.cons (i:=14) rfl (fun K D=>?_) AllReadyH.nil;go_simp;refine o.out.mono ?_;rintro e w5⟨rfl,j⟩;have C:=Xh (N.out.over j);refine D.out _ _ (C.out.step.blk.cell 0) (fun hHeld=>?_);clear D K;try dsimp only[Act.put]
 change wpAnyH _ _ _ _ _ 11 _ _ _;iterate 4 ((first|(refine tkN rfl rfl hHeld ?_)|(refine tkY (v:=?_) rfl rfl hHeld ?_ ?_;rotate_left;focus (intro w A;((try dsimp only at A));go_simp;all_goals with_reducible rfl)));try simp only[Act.put,Xa,Xc,Xd])
 refine tkI (i:=20) (fuel:=6) (v:=?_) rfl (by kernel_rfl) (by kernel_rfl) (by kernel_rfl) (fun _ _ _ h=>h) (by rfl) hHeld ?_ ?_;rotate_left;focus (intro w A;((try dsimp only at A));go_simp;all_goals with_reducible rfl);(try simp only[Act.put]);(try simp only[Xa]);(try simp only[Xd]);(try simp only[Xc])
 refine wpAnyH_ready (rs:=[19]) (fuel:=5) (by kernel_rfl) (by simp) ?_;refine AllReadyH.cons (i:=19) rfl (fun K D=>?_) AllReadyH.nil;go_simp;refine(y.out _).mono ?_;rintro e wr⟨rfl,rfl⟩;refine D.out _ _ (C.out.step.blk.cell 0) (fun hHeld=>?_);clear D K;try dsimp only[Act.put]
 refine wpAnyH_ready (rs:=[21]) (fuel:=4) (by kernel_rfl) (by simp) ?_;refine AllReadyH.cons (i:=21) rfl (fun K D=>?_) AllReadyH.nil;go_simp;refine(z.out _).mono ?_;rintro e wr⟨rfl,rfl⟩;refine D.out _ _ (C.out.step.blk.cell 0) (fun hHeld=>?_);clear D K;try dsimp only[Act.put]
 change wpAnyH _ _ _ _ _ 4 _ _ _;iterate 3 ((first|(refine tkN rfl rfl hHeld ?_)|(refine tkY (v:=?_) rfl rfl hHeld ?_ ?_;rotate_left;focus (intro w A;((try dsimp only at A));go_simp;all_goals with_reducible rfl)));(try simp only[Act.put]);(try simp only[Xa]);(try simp only[Xd]);(try simp only[Xc]))
 refine wpAnyH_ready (rs:=[25]) (fuel:=0) (by kernel_rfl) (by simp) ?_;refine AllReadyH.cons (i:=25) rfl (fun K D=>?_) AllReadyH.nil;go_simp;refine(x.out _).mono ?_;rintro e wq⟨rfl,rfl⟩;exact And.intro rfl (C.out.stop Xb rfl)
theorem QeY(w0 w:World)(B:Nat)(l:List qa)(base:Nat)(ws:World)(sb:Nat)(qb Zb:Str)(lv sv:Value)(L S:List Str)(a:ql (Za l) S)(xb:Nat)(xv:List Value)(b:SA w0 w B l base ws lv sv sb qb Zb xb xv ws lv sv L S)(t k:Str)(q:t.size<=maxLen)(m:Qg (Za l) t=0)(n o:List Str)(E:Qf (Za l) [kI] S=some n)(G:ZM n=some (k,o))(hn:(k.toList==[78])=false)(r:0<k.size)(hf:(((k[0]'r).toNat:Int)==91)=true)(h1:(1:Int)<=(k.size:Int))(c:Qg (Za l) (k.extract 1 k.size)=0)(s:zQ (Za l) (qr (k.extract 1 k.size)) (qr t)=true)(H:∀wx,Calls Tryz.prog 51 #[.string (k.extract 1 k.size)] wx fun e w'=>e=.returned (.bool false)/\wx=w')(I:∀wx,Calls Tryz.prog 51 #[.string t] wx fun e w'=>e=.returned (.bool false)/\wx=w'):
 Calls Tryz.prog 174 #[.pointer (some ⟨sb,0,none⟩),.string t] ws (Zf base ws sb B qb Zb lv sv (some (.tuple #[],L,o))):=by
 unfold kI at *;have x:Hid (∀wx,_):=fun wx=>qG wx
 have y:=Xh H;have z:=Xh I;clear H I;go_enter Tryz.func174,Tryz.ntmps174;go_upto_region 3 with(first
  |(go_fit (b.knowsY t q m);rintro e w1 F;obtain⟨O,rfl,lv1,sv1,P,R⟩:=F.ok';(have d:=b.next O P R);(have J:=d.alloc (.cells #[.string ⟨#[73]⟩] 9)))
  |(go_fit (d.takeOY a ⟨#[73]⟩ (Zai _) _ (by simp) E);rintro e w2 F;obtain⟨T,rfl,lv2,sv2,U,V⟩:=F.ok';(have f:=J.next T U V);(have M:=Qh E a))
  |(go_fit (f.refY M G);rintro e w3 F;obtain⟨X,rfl,lv3,sv3,Y,Z⟩:=F.ok'))
 have g:=(f.next X Y Z).over Xb.drew;have N:=Xh g;have q3:w3.drew.cell? ⟨sb,0,none⟩=some (.map (some B)):=g.step.blk.cell 0;clear b d J f g O T X P U Y R V Z F E G M a;have p:=Xh (ZaD w0 _ B l N.out.env.map (k.extract 1 k.size) t c m);rw[s]at p;refine wp_region_held_drew (S:=fun w'=>w'.cell? ⟨sb,0,none⟩=some (.map (some B))) (by kernel_rfl) q3 (fun hHeld=>?_);change wpAnyH _ _ _ _ _ 26 _ _ _;iterate 14 ((first|(refine tkN rfl rfl hHeld ?_)|(refine tkY (v:=?_) rfl rfl hHeld ?_ ?_;rotate_left;focus (intro w A;((try dsimp only at A));go_simp;all_goals with_reducible rfl)));try simp only[Act.put,Xa,Xc,Xd])
 refine wpAnyH_ready (rs:=[14]) (fuel:=11) (by kernel_rfl) (by simp) ?_;refine AllReadyH.cons (i:=14) rfl (fun K D=>?_) AllReadyH.nil;go_simp;refine p.out.mono ?_;rintro e w5⟨rfl,j⟩;have C:=Xh (N.out.over j);refine D.out _ _ (C.out.step.blk.cell 0) (fun hHeld=>?_);clear D K;try dsimp only[Act.put]
 change wpAnyH _ _ _ _ _ 11 _ _ _;iterate 4 ((first|(refine tkN rfl rfl hHeld ?_)|(refine tkY (v:=?_) rfl rfl hHeld ?_ ?_;rotate_left;focus (intro w A;((try dsimp only at A));go_simp;all_goals with_reducible rfl)));try simp only[Act.put,Xa,Xc,Xd])
 refine tkI (i:=20) (fuel:=6) (v:=?_) rfl (by kernel_rfl) (by kernel_rfl) (by kernel_rfl) (fun _ _ _ h=>h) (by rfl) hHeld ?_ ?_;rotate_left;focus (intro w A;((try dsimp only at A));go_simp;all_goals with_reducible rfl);(try simp only[Act.put]);(try simp only[Xa]);(try simp only[Xd]);(try simp only[Xc])
 refine wpAnyH_ready (rs:=[19]) (fuel:=5) (by kernel_rfl) (by simp) ?_;refine AllReadyH.cons (i:=19) rfl (fun K D=>?_) AllReadyH.nil;go_simp;refine(y.out _).mono ?_;rintro e wr⟨rfl,rfl⟩;refine D.out _ _ (C.out.step.blk.cell 0) (fun hHeld=>?_);clear D K;try dsimp only[Act.put]
 refine wpAnyH_ready (rs:=[21]) (fuel:=4) (by kernel_rfl) (by simp) ?_;refine AllReadyH.cons (i:=21) rfl (fun K D=>?_) AllReadyH.nil;go_simp;refine(z.out _).mono ?_;rintro e wr⟨rfl,rfl⟩;refine D.out _ _ (C.out.step.blk.cell 0) (fun hHeld=>?_);clear D K;try dsimp only[Act.put]
 change wpAnyH _ _ _ _ _ 4 _ _ _;iterate 3 ((first|(refine tkN rfl rfl hHeld ?_)|(refine tkY (v:=?_) rfl rfl hHeld ?_ ?_;rotate_left;focus (intro w A;((try dsimp only at A));go_simp;all_goals with_reducible rfl)));(try simp only[Act.put]);(try simp only[Xa]);(try simp only[Xd]);(try simp only[Xc]))
 refine wpAnyH_ready (rs:=[25]) (fuel:=0) (by kernel_rfl) (by simp) ?_;refine AllReadyH.cons (i:=25) rfl (fun K D=>?_) AllReadyH.nil;go_simp;refine(x.out _).mono ?_;rintro e wq⟨rfl,rfl⟩;refine D.out _ _ (C.out.step.blk.cell 0) (fun hHeld=>?_);clear D K;try dsimp only[Act.put]
 refine wpAnyH_done (by kernel_rfl) ?_ _;clear hHeld;go_wp2_with fail;go_end0;exact C.out.done rfl
set_option maxRecDepth 512
theorem QaW{x:Ty}:qd x≠[78]/\qd x≠[84]:=by cases x<;>simp[qd]
theorem QbS{cs:List qa}{k:Str}{x:Ty}(C:qd x=lst k)(A:ZaI x=true)(B:ZD x<=3)(D:zN cs x=true):Qg cs k=0:=by
 unfold Qg;rw[<-C,if_neg (by rintro(h|h);exact QaW.1 h;exact QaW.2 h),Qbe A B,if_neg (by decide),zcx A B];rcases Qb3 x D with h|h
 ·rw[h];rfl
 ·rw[if_pos h];split<;>rfl
theorem qcv{cs:List qa}{k:Str}{x:Ty}(A:qd x=lst k)(h:Qg cs k=0):za0 k x/\zN cs x=true:=by
 have C:za0 k x:=by
  unfold Qg at h;rw[if_neg (by rw[<-A];rintro(h|h);exact QaW.1 h;exact QaW.2 h)]at h;split at h
  ·cases h
  ·rename_i F;obtain⟨y,B⟩:=qX (t:=k) (by simpa using F);have:=Zbe (B.text.trans A.symm);subst this;exact B
 obtain⟨X,D,E⟩:=zR h;have:X=.ty x:=zbb (D.trans A.symm);subst this;exact⟨C,E⟩
theorem zd1{cs:List qa}{k:Str}{e:Ty}(A:qd (.ar e)=lst k)(h:Qg cs k=0):Qg cs (k.extract 1 k.size)=0:=by
 obtain⟨B,D⟩:=qcv A h;have C:=B.deep;exact QbS (qaC A).1 B.name (by unfold ZD at C;omega) D
theorem Zau{S A:List Str}{k:Str}(h:ZM S=some (k,A)):zB S=some (k,A)/\ZaS (qr k)=true:=by
 unfold ZM at h;cases B:zB S with
 |none=>rw[B]at h;cases h
 |some p =>
  obtain⟨F,G⟩:=p;rw[B,Option.bind_some]at h;dsimp only at h;split at h
  ·rename_i C;injection h with h
   injection h with D E
   subst D E;exact⟨rfl,C⟩
  ·cases h
theorem qfb{cs:List qa}{k t:Str}(h:qr k=.n):Za6 cs k t=true:=by unfold Za6;rw[h]
theorem Qfb{cs:List qa}{k t c:Str}(h:qr k=.ty (.cl c)):Za6 cs k t=false:=by unfold Za6;rw[h]
theorem zfc{cs:List qa}{k t m:Str}{e:Ty}(h:qr k=.ty (.ar e))(g:qr m=.ty e):Za6 cs k t=(zQ cs (qr m) (qr t)&&(qm e==zz (qr t))):=by unfold Za6;rw[h,g]
set_option maxRecDepth 100000
theorem Qc0(w0 w:World)(B:Nat)(l:List qa)(base:Nat)(ws:World)(hE:Env w0 w B l base ws)(sb:Nat)(qb Zb:Str)(lv sv:Value)(L S:List Str)(h:qh base ws sb B qb Zb lv sv L S)(J:ql (Za l) S)(xb:Nat)(xv:List Value)(hb:Blk ws xb 34 xv)(hx:Za2 sb lv sv xb)(t:Str)(M:t.size<=maxLen):
 Calls Tryz.prog 174 #[.pointer (some ⟨sb,0,none⟩),.string t] ws (Zf base ws sb B qb Zb lv sv ((ZN (Za l) t S).map fun S'=>(.tuple #[],L,S'))):=by
 have F:SA w0 w B l base ws lv sv sb qb Zb xb xv ws lv sv L S:=⟨hE,h,hb,hx,Xb,Kp.below Xb⟩;unfold ZN;by_cases G:Qg (Za l) t=0
 ·rw[if_neg (by rw[G];decide)];cases A:Qf (Za l) [kI] S with
  |none =>
   rw[Option.bind_none,Option.map_none];unfold kI at A;go_enter Tryz.func174,Tryz.ntmps174;go_wp2_with (first
    |(go_fit (F.knowsY t M G);rintro e w1 I;obtain⟨H,rfl,v,y,T,D⟩:=I.ok';(have d:=F.next H T D);(have R:=d.alloc (.cells #[.string ⟨#[73]⟩] 9)))
    |(go_fit (d.takeON J ⟨#[73]⟩ (Zai _) _ (by simp) A);rintro e w2 I;obtain⟨U,rfl⟩:=I.no'))
   exact And.intro rfl (R.stop U rfl)
  |some P =>
   rw[Option.bind_some];have f:=Qh A J;cases E:ZM P with
   |none =>
    rw[Option.bind_none,Option.map_none];unfold kI at A;go_enter Tryz.func174,Tryz.ntmps174;go_wp2_with (first
     |(go_fit (F.knowsY t M G);rintro e w1 I;obtain⟨H,rfl,v,y,T,D⟩:=I.ok';(have d:=F.next H T D);(have R:=d.alloc (.cells #[.string ⟨#[73]⟩] 9)))
     |(go_fit (d.takeOY J ⟨#[73]⟩ (Zai _) _ (by simp) A);rintro e w2 I;obtain⟨U,rfl,lv2,sv2,z,aA⟩:=I.ok';(have T2:=R.next U z aA))
     |(go_fit (T2.refN f E);rintro e w3 I;obtain⟨aB,rfl⟩:=I.no'))
    exact And.intro rfl (T2.stop aB rfl)
   |some p =>
    obtain⟨k,V⟩:=p;rw[Option.bind_some];dsimp only;obtain⟨hp,r⟩:=Zau E;obtain⟨o,_⟩:=Qak hp f;obtain⟨X,b,_⟩:=zR o;have N:=qaq b .n;rw[show zp Kd.n=[78] from rfl]at N;have O:=zK b;rw[O]at r;cases X with
    |n =>
     rw[Xj rfl]at N;rw[qfb O];exact Qfa w0 w B l base ws sb qb Zb lv sv L S J xb xv F t k M G P V A E N
    |t=>cases r
    |ty x =>
     rw[Xi (by intro h;cases h)]at N;have C:0<k.size:=by
      have h1:(lst k).length=k.size:=rfl;have h2:lst k=qd x:=b.symm;rw[<-h1,h2];cases x<;>simp[qd]
     have Z:=zb2 (k:=k) (x:=x) b C;cases x with
     |i=>cases r
     |j=>cases r
     |cl c =>
      rw[Qfb O];exact zfb w0 w B l base ws sb qb Zb lv sv L S J xb xv F t k M G P V A E N C Z
     |ar e =>
      obtain⟨q,_,hs1⟩:=qaC b;have D:=zd1 b o;have s:qr (k.extract 1 k.size)=.ty e:=zK (x:=.ty e) q;rw[zfc O s];cases m:zQ (Za l) (qr (k.extract 1 k.size)) (qr t) with
      |false =>
       rw[Bool.false_and,if_neg (by decide)];exact Zfb w0 w B l base ws sb qb Zb lv sv L S J xb xv F t k M G P V A E N C Z (by omega) D m
      |true =>
       rw[Bool.true_and];obtain⟨Y,hY,_⟩:=zR G;have a:∀wx,_:=fun wx=>qK (k.extract 1 k.size) (.ty e) wx q
       have g:∀wx,_:=fun wx=>qK t Y wx hY
       rw[show zz (.ty e)=qm e from rfl]at a;rw[zK hY];cases hu:qm e<;>cases hv:zz Y<;>rw[hu]at a<;>rw[hv]at g
       ·exact QeY w0 w B l base ws sb qb Zb lv sv L S J xb xv F t k M G P V A E N C Z (by omega) D m a g
       ·exact qeY w0 w B l base ws sb qb Zb lv sv L S J xb xv F t k M G P V A E N C Z (by omega) D m a g
       ·exact ZeY w0 w B l base ws sb qb Zb lv sv L S J xb xv F t k M G P V A E N C Z (by omega) D m a g
       ·exact zeY w0 w B l base ws sb qb Zb lv sv L S J xb xv F t k M G P V A E N C Z (by omega) D m a g
 ·rw[if_pos G,Option.map_none];go_enter Tryz.func174,Tryz.ntmps174;go_wp2_with (first
   |(go_fit (F.knowsN t M G);rintro e w1 I;obtain⟨H,rfl⟩:=I.no'))
  exact And.intro rfl (F.stop H rfl)
set_option maxRecDepth 512
def knK{α:Type}(cs:List qa)(t:Str)(o:Option α):Option α:=if Qg cs t≠0 then none else o
theorem ZcF{α:Type}{cs:List qa}{t:Str}{o:Option α}(h:¬Qg cs t=0):knK cs t o=none:=by unfold knK;rw[if_pos h]
theorem qae{α:Type}{cs:List qa}{t:Str}{o:Option α}(h:¬¬Qg cs t=0):knK cs t o=o:=by unfold knK;rw[if_neg h]
def Qaq(k:Str):Bool:=(k.toList==[78])||Lib.hasPrefix k.toList [91]
def zbo(cs:List qa)(cls:Str)(L S:List Str):Option (List Str×List Str):=if (Ze cs cls).face=true then none else zr L S (Qc cls)
def ZH(cs:List qa)(qb:Str)(x:Ins)(L S:List Str):Option (List Str×List Str) :=
 if x.op=15 then knK cs (Qc x.cls) (zbo cs x.cls L S)
 else if x.op=16 then (qL cs x.cls x.name).bind fun t=>(Qf cs [Qc x.cls] S).bind fun S1=>zr L S1 t
 else if x.op=17 then (qL cs x.cls x.name).bind fun t=>(Qf cs [t,Qc x.cls] S).map fun S1=>(L,S1)
 else if x.op=18 then knK cs x.type ((Qf cs [kI] S).bind fun S1=>zr L S1 (Z1 x.type))
 else if x.op=19 then (ZM S).bind fun p=>if Qaq p.1=true then zr L p.2 kI else none
 else if x.op=20 then (ZN cs x.type S).bind fun S1=>zr L S1 x.type
 else if x.op=21 then knK cs x.type ((Qf cs [x.type] S).bind fun S1=>(ZN cs x.type S1).map fun S2=>(L,S2))
 else if x.op=22 then knK cs x.type ((ZM S).bind fun p=>zr L p.2 x.type)
 else if x.op=23 then knK cs x.type ((ZM S).bind fun p=>zr L p.2 kI)
 else if x.op=24 then Zap cs qb x.cls x.name x.type false L S
 else if x.op=25 then Zap cs qb x.cls x.name x.type true L S
 else some (L,S)
theorem qbX{cs:List qa}{t:Str}{S C:List Str}(h:ZN cs t S=some C)(D:ql cs S):ql cs C:=by
 unfold ZN at h;split at h
 ·cases h
 ·cases A:Qf cs [kI] S with
  |none=>rw[A]at h;cases h
  |some E =>
   rw[A,Option.bind_some]at h;cases B:ZM E with
   |none=>rw[B]at h;cases h
   |some p =>
    obtain⟨k,F⟩:=p;rw[B,Option.bind_some]at h;dsimp only at h;split at h
    ·injection h with h
     subst h;exact(Qak (Zau B).1 (Qh A D)).2
    ·cases h
variable {w0 w:World} {B:Nat} {l:List qa} {base:Nat} {ws:World} {lv0 sv0:Value} {sb:Nat} {qb Zb:Str} {xb:Nat} {xv:List Value} {wx:World} {lv sv:Value} {L S:List Str}
theorem SA.arrayN(T:SA w0 w B l base ws lv0 sv0 sb qb Zb xb xv wx lv sv L S)(A:ql (Za l) S)(t:Str)(C:t.size<=maxLen)(D:ZN (Za l) t S=none):Calls Tryz.prog 174 #[.pointer (some ⟨sb,0,none⟩),.string t] wx (Zf base wx sb B qb Zb lv sv none):=by
 have h:=Qc0 w0 w B l base wx T.env sb qb Zb lv sv L S T.step A xb xv T.box T.apart t C;rw[D]at h;exact h
theorem SA.arrayY(T:SA w0 w B l base ws lv0 sv0 sb qb Zb xb xv wx lv sv L S)(C:ql (Za l) S)(t:Str)(D:t.size<=maxLen){A:List Str}(E:ZN (Za l) t S=some A):Calls Tryz.prog 174 #[.pointer (some ⟨sb,0,none⟩),.string t] wx (Zf base wx sb B qb Zb lv sv (some (.tuple #[],L,A))):=by
 have h:=Qc0 w0 w B l base wx T.env sb qb Zb lv sv L S T.step C xb xv T.box T.apart t D;rw[E]at h;exact h
theorem SA.fieldN(T:SA w0 w B l base ws lv0 sv0 sb qb Zb xb xv wx lv sv L S)(D a b:Int)(C cls A:Str)(E:cls.size<=1048576)(F:qL (Za l) cls A=none):Calls Tryz.prog 173 #[.pointer (some ⟨sb,0,none⟩),.agg #[.int .i64 D,.int .i64 a,.int .i64 b,.string C,.string cls,.string A]] wx (Zf base wx sb B qb Zb lv sv none):=by
 have h:=QcN w0 w B l base wx T.env sb qb Zb lv sv L S T.step D a b C cls A E;rw[F]at h;exact h
theorem SA.fieldY(T:SA w0 w B l base ws lv0 sv0 sb qb Zb xb xv wx lv sv L S)(D a b:Int)(C cls A:Str)(E:cls.size<=1048576){t:Str}(F:qL (Za l) cls A=some t):Calls Tryz.prog 173 #[.pointer (some ⟨sb,0,none⟩),.agg #[.int .i64 D,.int .i64 a,.int .i64 b,.string C,.string cls,.string A]] wx (Zf base wx sb B qb Zb lv sv (some (.string t,L,S))):=by
 have h:=QcN w0 w B l base wx T.env sb qb Zb lv sv L S T.step D a b C cls A E;rw[F]at h;exact h
theorem zbT{cs:List qa}{c n t:Str}(h:qL cs c n=some t):Qg cs (Qc c)=0/\Qg cs t=0:=by
 unfold qL at h;split at h
 ·cases h
 ·rename_i B;refine⟨Decidable.not_not.1 B,?_⟩;cases A:qaH cs c n with
  |none=>rw[A]at h;cases h
  |some p =>
   obtain⟨d,f⟩:=p;rw[A]at h;dsimp only at h;split at h
   ·rename_i C;injection h with h
    subst h;exact C
   ·cases h
set_option maxRecDepth 100000
theorem QeB(w0 w:World)(B:Nat)(l:List qa)(base:Nat)(ws:World)(q:Env w0 w B l base ws)(sb:Nat)(qb Zb:Str)(lv sv:Value)(L S:List Str)(h:qh base ws sb B qb Zb lv sv L S)(P:ql (Za l) S)(a b:Int)(C cls A:Str)(_hty:C.size<=1048576)(M:cls.size<=1048576)(_hfr:qb.size<=maxLen):
 Calls Tryz.prog 139 #[.pointer (some ⟨sb,0,none⟩),.agg #[.int .i64 16,.int .i64 a,.int .i64 b,.string C,.string cls,.string A]] ws (Zf base ws sb B qb Zb lv sv (Zm ((qL (Za l) cls A).bind fun t=>(Qf (Za l) [Qc cls] S).bind fun o=>zr L o t))):=by
 have F:SA w0 w B l base ws lv sv sb qb Zb ws.heap.size [.int .i64 16,.int .i64 a,.int .i64 b,.string C,.string cls,.string A] (ws.alloc (.cells #[.int .i64 16,.int .i64 a,.int .i64 b,.string C,.string cls,.string A] 34)) lv sv L S:=SA.new q h _;obtain⟨T,U,V,X,Y,Z⟩:=F.cells;obtain⟨x,D⟩:∃r,Zm ((qL (Za l) cls A).bind fun t=>(Qf (Za l) [Qc cls] S).bind fun o=>zr L o t)=r:=⟨_,rfl⟩;have N:=Xh D;rw[D];have R:Hid (∀wx,_):=fun wx=>zW cls wx (Xf M (by decide))
 have G:(Qc cls).size<=maxLen:=by rw[Zan];exact Xf (Nat.add_le_add_right M 2) (by decide)
 clear D q h;go_enter Tryz.func139,Tryz.ntmps139;go_wp2_with (first
  |(go_at_call 173;rcases hq0:qL (Za l) cls A with _|p;(with_reducible refine(F.fieldN 16 a b C cls A M hq0).mono ?_);(rintro e w1 E;obtain⟨J,rfl⟩:=E.no';exact And.intro rfl (F.stop J (N.out.symm.trans (Zd (Zq hq0)))));(with_reducible refine(F.fieldY 16 a b C cls A M hq0).mono ?_);rintro e w1 E;obtain⟨c,rfl,y,z,d,f⟩:=E.ok';(have O:=F.next c d f);obtain⟨T,U,V,X,Y,Z⟩:=O.cells)
  |(go_at_call 169;(have H:=O.alloc (.cells #[.string (Qc cls)] 9));rcases hq1:Qf (Za l) [(Qc cls)] S with _|S2;(with_reducible refine(O.takeON P (Qc cls) G _ (by simp) hq1).mono ?_);(rintro e w2 E;obtain⟨J,rfl⟩:=E.no';exact And.intro rfl (H.stop J (N.out.symm.trans (Zd ((Qe hq0).trans (Zq hq1))))));(with_reducible refine(O.takeOY P (Qc cls) G _ (by simp) hq1).mono ?_);rintro e w2 E;obtain⟨g,rfl,aA,aB,i,j⟩:=E.ok';(have I:=H.next g i j);(have v:=Qh hq1 P);obtain⟨T,U,V,X,Y,Z⟩:=I.cells)
  |(go_at_call 166;rcases hq2:QN S2 p with _|S3;(with_reducible refine(I.putN p hq2).mono ?_);(rintro e w3 E;obtain⟨J,rfl⟩:=E.no';exact And.intro rfl (I.stop J (N.out.symm.trans (Zd ((Qe hq0).trans ((Qe hq1).trans (Qz hq2)))))));(with_reducible refine(I.putY p hq2).mono ?_);rintro e w3 E;obtain⟨k,rfl,aC,aD,m,n⟩:=E.ok';(have s:=I.next k m n);obtain⟨T,U,V,X,Y,Z⟩:=s.cells)
  |(go_fit (R.out _);rintro e wq⟨rfl,rfl⟩))
 go_end0;exact s.done (N.out.symm.trans (qj ((Qe hq0).trans ((Qe hq1).trans (Zy hq2)))))
theorem zeC(w0 w:World)(B:Nat)(l:List qa)(base:Nat)(ws:World)(p:Env w0 w B l base ws)(sb:Nat)(qb Zb:Str)(lv sv:Value)(L S:List Str)(h:qh base ws sb B qb Zb lv sv L S)(P:ql (Za l) S)(a b:Int)(A cls D:Str)(R:A.size<=1048576)(_hc:cls.size<=1048576)(_hfr:qb.size<=maxLen):
 Calls Tryz.prog 139 #[.pointer (some ⟨sb,0,none⟩),.agg #[.int .i64 18,.int .i64 a,.int .i64 b,.string A,.string cls,.string D]] ws (Zf base ws sb B qb Zb lv sv (Zm (knK (Za l) A ((Qf (Za l) [kI] S).bind fun o=>zr L o (Z1 A))))):=by
 have G:SA w0 w B l base ws lv sv sb qb Zb ws.heap.size [.int .i64 18,.int .i64 a,.int .i64 b,.string A,.string cls,.string D] (ws.alloc (.cells #[.int .i64 18,.int .i64 a,.int .i64 b,.string A,.string cls,.string D] 34)) lv sv L S:=SA.new p h _;obtain⟨T,U,V,X,Y,Z⟩:=G.cells;obtain⟨v,E⟩:∃r,Zm (knK (Za l) A ((Qf (Za l) [kI] S).bind fun o=>zr L o (Z1 A)))=r:=⟨_,rfl⟩;have N:=Xh E;rw[E];have H:A.size<=maxLen:=Xf R (by decide);unfold kI at *;have q:(⟨#[91]⟩:Str)++A=Z1 A:=rfl;clear E p h;go_enter Tryz.func139,Tryz.ntmps139;go_wp2_with (first
  |(go_at_call 172;by_cases C:¬Qg (Za l) A=0;(with_reducible refine(G.knowsN A H C).mono ?_);(rintro e w1 F;obtain⟨M,rfl⟩:=F.no';exact And.intro rfl (G.stop M (N.out.symm.trans (Zd (ZcF C)))));(with_reducible refine(G.knowsY A H (Decidable.not_not.1 C)).mono ?_);rintro e w1 F;obtain⟨c,rfl,x,y,d,f⟩:=F.ok';(have O:=G.next c d f);obtain⟨T,U,V,X,Y,Z⟩:=O.cells)
  |(go_at_call 169;(have I:=O.alloc (.cells #[.string ⟨#[73]⟩] 9));rcases hq1:Qf (Za l) [⟨#[73]⟩] S with _|S2;(with_reducible refine(O.takeON P ⟨#[73]⟩ (Zai _) _ (by simp) hq1).mono ?_);(rintro e w2 F;obtain⟨M,rfl⟩:=F.no';exact And.intro rfl (I.stop M (N.out.symm.trans (Zd ((qae C).trans (Zq hq1))))));(with_reducible refine(O.takeOY P ⟨#[73]⟩ (Zai _) _ (by simp) hq1).mono ?_);rintro e w2 F;obtain⟨g,rfl,z,aA,i,j⟩:=F.ok';(have J:=I.next g i j);(have t:=Qh hq1 P);obtain⟨T,U,V,X,Y,Z⟩:=J.cells)
  |(go_at_call 166;rcases hq2:QN S2 (Z1 A) with _|S3;(with_reducible refine(J.putN (Z1 A) hq2).mono ?_);(rintro e w3 F;obtain⟨M,rfl⟩:=F.no';exact And.intro rfl (J.stop M (N.out.symm.trans (Zd ((qae C).trans ((Qe hq1).trans (Qz hq2)))))));(with_reducible refine(J.putY (Z1 A) hq2).mono ?_);rintro e w3 F;obtain⟨k,rfl,aB,aC,m,n⟩:=F.ok';(have s:=J.next k m n);obtain⟨T,U,V,X,Y,Z⟩:=s.cells))
 go_end0;exact s.done (N.out.symm.trans (qj ((qae C).trans ((Qe hq1).trans (Zy hq2)))))
theorem ZeC(w0 w:World)(B:Nat)(l:List qa)(base:Nat)(ws:World)(Y:Env w0 w B l base ws)(sb:Nat)(qb Zb:Str)(lv sv:Value)(L S:List Str)(h:qh base ws sb B qb Zb lv sv L S)(J:ql (Za l) S)(a b:Int)(A cls C:Str)(M:A.size<=1048576)(_hc:cls.size<=1048576)(_hfr:qb.size<=maxLen):
 Calls Tryz.prog 139 #[.pointer (some ⟨sb,0,none⟩),.agg #[.int .i64 20,.int .i64 a,.int .i64 b,.string A,.string cls,.string C]] ws (Zf base ws sb B qb Zb lv sv (Zm ((ZN (Za l) A S).bind fun I=>zr L I A))):=by
 have F:SA w0 w B l base ws lv sv sb qb Zb ws.heap.size [.int .i64 20,.int .i64 a,.int .i64 b,.string A,.string cls,.string C] (ws.alloc (.cells #[.int .i64 20,.int .i64 a,.int .i64 b,.string A,.string cls,.string C] 34)) lv sv L S:=SA.new Y h _;obtain⟨c,d,f,g,i,j⟩:=F.cells;obtain⟨m,D⟩:∃r,Zm ((ZN (Za l) A S).bind fun I=>zr L I A)=r:=⟨_,rfl⟩;have N:=Xh D;rw[D];have G:A.size<=maxLen:=Xf M (by decide);clear D Y h;go_enter Tryz.func139,Tryz.ntmps139;go_wp2_with (first
  |(go_at_call 174;rcases hq0:ZN (Za l) A S with _|I;(with_reducible refine(F.arrayN J A G hq0).mono ?_);(rintro e s E;obtain⟨O,rfl⟩:=E.no';exact And.intro rfl (F.stop O (N.out.symm.trans (Zd (Zq hq0)))));(with_reducible refine(F.arrayY J A G hq0).mono ?_);rintro e s E;obtain⟨P,rfl,n,o,R,T⟩:=E.ok';(have H:=F.next P R T);(have k:=qbX hq0 J);obtain⟨c,d,f,g,i,j⟩:=H.cells)
  |(go_at_call 166;rcases hq1:QN I A with _|v;(with_reducible refine(H.putN A hq1).mono ?_);(rintro e t E;obtain⟨O,rfl⟩:=E.no';exact And.intro rfl (H.stop O (N.out.symm.trans (Zd ((Qe hq0).trans (Qz hq1))))));(with_reducible refine(H.putY A hq1).mono ?_);rintro e t E;obtain⟨U,rfl,p,q,V,X⟩:=E.ok';(have Z:=H.next U V X);obtain⟨c,d,f,g,i,j⟩:=Z.cells))
 go_end0;exact Z.done (N.out.symm.trans (qj ((Qe hq0).trans (Zy hq1))))
theorem qeC(w0 w:World)(B:Nat)(l:List qa)(base:Nat)(ws:World)(s:Env w0 w B l base ws)(sb:Nat)(qb Zb:Str)(lv sv:Value)(L S:List Str)(h:qh base ws sb B qb Zb lv sv L S)(T:ql (Za l) S)(a b:Int)(A cls E:Str)(U:A.size<=1048576)(_hc:cls.size<=1048576)(_hfr:qb.size<=maxLen):
 Calls Tryz.prog 139 #[.pointer (some ⟨sb,0,none⟩),.agg #[.int .i64 21,.int .i64 a,.int .i64 b,.string A,.string cls,.string E]] ws (Zf base ws sb B qb Zb lv sv (Zm (knK (Za l) A ((Qf (Za l) [A] S).bind fun q=>(ZN (Za l) A q).map fun O=>(L,O))))):=by
 have I:SA w0 w B l base ws lv sv sb qb Zb ws.heap.size [.int .i64 21,.int .i64 a,.int .i64 b,.string A,.string cls,.string E] (ws.alloc (.cells #[.int .i64 21,.int .i64 a,.int .i64 b,.string A,.string cls,.string E] 34)) lv sv L S:=SA.new s h _;obtain⟨V,X,Y,Z,c,d⟩:=I.cells;obtain⟨x,F⟩:∃r,Zm (knK (Za l) A ((Qf (Za l) [A] S).bind fun q=>(ZN (Za l) A q).map fun O=>(L,O)))=r:=⟨_,rfl⟩;have P:=Xh F;rw[F];have C:A.size<=maxLen:=Xf U (by decide);clear F s h;go_enter Tryz.func139,Tryz.ntmps139;go_wp2_with (first
  |(go_at_call 172;by_cases D:¬Qg (Za l) A=0;(with_reducible refine(I.knowsN A C D).mono ?_);(rintro e w1 G;obtain⟨N,rfl⟩:=G.no';exact And.intro rfl (I.stop N (P.out.symm.trans (Zd (ZcF D)))));(with_reducible refine(I.knowsY A C (Decidable.not_not.1 D)).mono ?_);rintro e w1 G;obtain⟨f,rfl,y,z,g,i⟩:=G.ok';(have R:=I.next f g i);obtain⟨V,X,Y,Z,c,d⟩:=R.cells)
  |(go_at_call 169;(have J:=R.alloc (.cells #[.string A] 9));rcases hq1:Qf (Za l) [A] S with _|O;(with_reducible refine(R.takeON T A C _ (by simp) hq1).mono ?_);(rintro e w2 G;obtain⟨N,rfl⟩:=G.no';exact And.intro rfl (J.stop N (P.out.symm.trans (Zd ((qae D).trans (Zq hq1))))));(with_reducible refine(R.takeOY T A C _ (by simp) hq1).mono ?_);rintro e w2 G;obtain⟨j,rfl,aA,aB,k,m⟩:=G.ok';(have M:=J.next j k m);(have H:=Qh hq1 T);obtain⟨V,X,Y,Z,c,d⟩:=M.cells)
  |(go_at_call 174;rcases hq2:ZN (Za l) A O with _|S3;(with_reducible refine(M.arrayN H A C hq2).mono ?_);(rintro e w3 G;obtain⟨N,rfl⟩:=G.no';exact And.intro rfl (M.stop N (P.out.symm.trans (Zd ((qae D).trans ((Qe hq1).trans (zaV hq2)))))));(with_reducible refine(M.arrayY H A C hq2).mono ?_);rintro e w3 G;obtain⟨n,rfl,aC,aD,o,p⟩:=G.ok';(have t:=M.next n o p);(have v:=qbX hq2 H);obtain⟨V,X,Y,Z,c,d⟩:=t.cells))
 go_end0;exact t.done (P.out.symm.trans (qj ((qae D).trans ((Qe hq1).trans (zad hq2)))))
theorem QeC(w0 w:World)(B:Nat)(l:List qa)(base:Nat)(ws:World)(n:Env w0 w B l base ws)(sb:Nat)(qb Zb:Str)(lv sv:Value)(L S:List Str)(h:qh base ws sb B qb Zb lv sv L S)(O:ql (Za l) S)(a b:Int)(A cls D:Str)(P:A.size<=1048576)(_hc:cls.size<=1048576)(_hfr:qb.size<=maxLen):
 Calls Tryz.prog 139 #[.pointer (some ⟨sb,0,none⟩),.agg #[.int .i64 22,.int .i64 a,.int .i64 b,.string A,.string cls,.string D]] ws (Zf base ws sb B qb Zb lv sv (Zm (knK (Za l) A ((ZM S).bind fun p=>zr L p.2 A)))):=by
 have G:SA w0 w B l base ws lv sv sb qb Zb ws.heap.size [.int .i64 22,.int .i64 a,.int .i64 b,.string A,.string cls,.string D] (ws.alloc (.cells #[.int .i64 22,.int .i64 a,.int .i64 b,.string A,.string cls,.string D] 34)) lv sv L S:=SA.new n h _;obtain⟨R,T,U,V,X,Y⟩:=G.cells;obtain⟨s,E⟩:∃r,Zm (knK (Za l) A ((ZM S).bind fun p=>zr L p.2 A))=r:=⟨_,rfl⟩;have N:=Xh E;rw[E];have H:A.size<=maxLen:=Xf P (by decide);clear E n h;go_enter Tryz.func139,Tryz.ntmps139;go_wp2_with (first
  |(go_at_call 172;by_cases C:¬Qg (Za l) A=0;(with_reducible refine(G.knowsN A H C).mono ?_);(rintro e w1 F;obtain⟨M,rfl⟩:=F.no';exact And.intro rfl (G.stop M (N.out.symm.trans (Zd (ZcF C)))));(with_reducible refine(G.knowsY A H (Decidable.not_not.1 C)).mono ?_);rintro e w1 F;obtain⟨Z,rfl,t,v,c,d⟩:=F.ok';(have I:=G.next Z c d);obtain⟨R,T,U,V,X,Y⟩:=I.cells)
  |(go_at_call 171;rcases hq1:ZM S with _|⟨k1,S2⟩;(with_reducible refine(I.refN O hq1).mono ?_);(rintro e w2 F;obtain⟨M,rfl⟩:=F.no';exact And.intro rfl (I.stop M (N.out.symm.trans (Zd ((qae C).trans (Zq hq1))))));(with_reducible refine(I.refY O hq1).mono ?_);rintro e w2 F;obtain⟨f,rfl,x,y,g,i⟩:=F.ok';(have J:=I.next f g i);(have q:=(Qak (Zau hq1).1 O).2);obtain⟨R,T,U,V,X,Y⟩:=J.cells)
  |(go_at_call 166;rcases hq2:QN S2 A with _|S3;(with_reducible refine(J.putN A hq2).mono ?_);(rintro e w3 F;obtain⟨M,rfl⟩:=F.no';exact And.intro rfl (J.stop M (N.out.symm.trans (Zd ((qae C).trans ((Qe hq1).trans (Qz hq2)))))));(with_reducible refine(J.putY A hq2).mono ?_);rintro e w3 F;obtain⟨j,rfl,z,aA,k,m⟩:=F.ok';(have o:=J.next j k m);obtain⟨R,T,U,V,X,Y⟩:=o.cells))
 go_end0;exact o.done (N.out.symm.trans (qj ((qae C).trans ((Qe hq1).trans (Zy hq2)))))
set_option maxRecDepth 512
theorem SA.boxed{w0 w:World}{B:Nat}{l:List qa}{base:Nat}{ws:World}{lv0 sv0:Value}{sb:Nat}{qb Zb:Str}{xb:Nat}{xv:List Value}{wx:World}{lv sv:Value}{L S:List Str}(T:SA w0 w B l base ws lv0 sv0 sb qb Zb xb xv wx lv sv L S)(E:ws.heap.size<=xb)(A:base<=xb)(j:Nat)(u:Value):SA w0 w B l base ws lv0 sv0 sb qb Zb xb (xv.set j u) (wx.setCell ⟨xb,j,none⟩ u) lv sv L S :=
 ⟨⟨T.env.map0,T.env.le,T.env.below.setCell (p:=⟨xb,j,none⟩) (Xf T.env.le A) u⟩,T.step.aside T.apart j u,T.box.put j u,T.apart,T.below.setCell (p:=⟨xb,j,none⟩) A u,⟨T.kp.1,fun g D C=>⟨(Xk wx ⟨xb,j,none⟩ g u (by show g≠xb;omega)).trans (T.kp.2 g D C).1,(T.kp.2 g D C).2⟩⟩⟩
theorem ZdE(w0 w:World)(B:Nat)(l:List qa)(base:Nat)(ws:World)(I:Env w0 w B l base ws)(sb:Nat)(qb Zb:Str)(lv sv:Value)(L S:List Str)(h:qh base ws sb B qb Zb lv sv L S)(M:ql (Za l) S)(H a b:Int)(C cls D:Str)(A:Bool)(J:cls.size<=1048576)(E:qb.size<=maxLen)(F:C.size<=1048576):
 Calls Tryz.prog 175 #[.pointer (some ⟨sb,0,none⟩),.agg #[.int .i64 H,.int .i64 a,.int .i64 b,.string C,.string cls,.string D],.bool A] ws (Zf base ws sb B qb Zb lv sv (Zm (Zap (Za l) qb cls D C A L S))):=by
 unfold Zap;by_cases G:ZJ (Za l) qb cls D C A=0
 ·rw[if_neg (by rw[G];decide)];cases A with
  |true=>exact qff w0 w B l base ws I sb qb Zb lv sv L S h M H a b C cls D J E F G
  |false=>exact Qff w0 w B l base ws I sb qb Zb lv sv L S h M H a b C cls D J E F G
 ·rw[if_pos G];exact qe0 w0 w B l base ws I sb qb Zb lv sv L S h H a b C cls D A J E G
theorem SA.callN{w0 w:World}{B:Nat}{l:List qa}{base:Nat}{ws:World}{lv0 sv0:Value}{sb:Nat}{qb Zb:Str}{xb:Nat}{xv:List Value}{wx:World}{lv sv:Value}{L S:List Str}(T:SA w0 w B l base ws lv0 sv0 sb qb Zb xb xv wx lv sv L S)(H:ql (Za l) S)(G a b:Int)(C cls D:Str)(A:Bool)(I:cls.size<=1048576)(E:qb.size<=maxLen)(F:C.size<=1048576)(J:Zap (Za l) qb cls D C A L S=none):
 Calls Tryz.prog 175 #[.pointer (some ⟨sb,0,none⟩),.agg #[.int .i64 G,.int .i64 a,.int .i64 b,.string C,.string cls,.string D],.bool A] wx (Zf base wx sb B qb Zb lv sv none):=by
 have h:=ZdE w0 w B l base wx T.env sb qb Zb lv sv L S T.step H G a b C cls D A I E F;rw[J]at h;exact h
theorem SA.callY{w0 w:World}{B:Nat}{l:List qa}{base:Nat}{ws:World}{lv0 sv0:Value}{sb:Nat}{qb Zb:Str}{xb:Nat}{xv:List Value}{wx:World}{lv sv:Value}{L S:List Str}(T:SA w0 w B l base ws lv0 sv0 sb qb Zb xb xv wx lv sv L S)(J:ql (Za l) S)(G a b:Int)(C cls D:Str)(A:Bool)(M:cls.size<=1048576)(E:qb.size<=maxLen)(F:C.size<=1048576){H I:List Str}(N:Zap (Za l) qb cls D C A L S=some (H,I)):
 Calls Tryz.prog 175 #[.pointer (some ⟨sb,0,none⟩),.agg #[.int .i64 G,.int .i64 a,.int .i64 b,.string C,.string cls,.string D],.bool A] wx (Zf base wx sb B qb Zb lv sv (some (.tuple #[],H,I))):=by
 have h:=ZdE w0 w B l base wx T.env sb qb Zb lv sv L S T.step J G a b C cls D A M E F;rw[N]at h;exact h
set_option maxRecDepth 100000
theorem Zd1(w0 w:World)(B:Nat)(l:List qa)(base:Nat)(ws:World)(I:Env w0 w B l base ws)(sb:Nat)(qb Zb:Str)(lv sv:Value)(L S:List Str)(h:qh base ws sb B qb Zb lv sv L S)(_hS:ql (Za l) S)(a b:Int)(A cls C:Str)(_hty:A.size<=1048576)(J:cls.size<=1048576)(_hfr:qb.size<=maxLen)(M:¬Qg (Za l) (Qc cls)=0):
 Calls Tryz.prog 139 #[.pointer (some ⟨sb,0,none⟩),.agg #[.int .i64 15,.int .i64 a,.int .i64 b,.string A,.string cls,.string C]] ws (Zf base ws sb B qb Zb lv sv (Zm (knK (Za l) (Qc cls) (zbo (Za l) cls L S)))):=by
 have E:SA w0 w B l base ws lv sv sb qb Zb ws.heap.size [.int .i64 15,.int .i64 a,.int .i64 b,.string A,.string cls,.string C] (ws.alloc (.cells #[.int .i64 15,.int .i64 a,.int .i64 b,.string A,.string cls,.string C] 34)) lv sv L S:=SA.new I h _;obtain⟨R,T,U,V,X,Y⟩:=E.cells;obtain⟨O,D⟩:∃r,Zm (knK (Za l) (Qc cls) (zbo (Za l) cls L S))=r:=⟨_,rfl⟩;have N:=Xh D;rw[D];have F:Hid (∀wx,_):=fun wx=>zW cls wx (Xf J (by decide))
 have G:(Qc cls).size<=maxLen:=by rw[Zan];exact Xf (Nat.add_le_add_right J 2) (by decide)
 clear D I h;go_enter Tryz.func139,Tryz.ntmps139;go_wp2_with (first
  |(go_fit (E.knowsN (Qc cls) G M);rintro e Z P;obtain⟨H,rfl⟩:=P.no')
  |(go_fit (F.out _);rintro e c⟨rfl,rfl⟩))
 exact And.intro rfl (E.stop H (N.out.symm.trans (Zd (ZcF M))))
theorem qd1(w0 w:World)(B:Nat)(l:List qa)(base:Nat)(ws:World)(O:Env w0 w B l base ws)(sb:Nat)(qb Zb:Str)(lv sv:Value)(L S:List Str)(h:qh base ws sb B qb Zb lv sv L S)(_hS:ql (Za l) S)(a b:Int)(A cls C:Str)(_hty:A.size<=1048576)(R:cls.size<=1048576)(_hfr:qb.size<=maxLen)(Z:Qg (Za l) (Qc cls)=0)(D:(Ze (Za l) cls).face=true):
 Calls Tryz.prog 139 #[.pointer (some ⟨sb,0,none⟩),.agg #[.int .i64 15,.int .i64 a,.int .i64 b,.string A,.string cls,.string C]] ws (Zf base ws sb B qb Zb lv sv (Zm (knK (Za l) (Qc cls) (zbo (Za l) cls L S)))):=by
 have P:SA w0 w B l base ws lv sv sb qb Zb ws.heap.size [.int .i64 15,.int .i64 a,.int .i64 b,.string A,.string cls,.string C] (ws.alloc (.cells #[.int .i64 15,.int .i64 a,.int .i64 b,.string A,.string cls,.string C] 34)) lv sv L S:=SA.new O h _;obtain⟨o,p,q,s,t,x⟩:=P.cells;obtain⟨y,E⟩:∃r,Zm (knK (Za l) (Qc cls) (zbo (Za l) cls L S))=r:=⟨_,rfl⟩;have j:=Xh E;rw[E];have T:Hid (∀wx,_):=fun wx=>zW cls wx (Xf R (by decide))
 have U:(Qc cls).size<=maxLen:=by rw[Zan];exact Xf (Nat.add_le_add_right R 2) (by decide)
 obtain⟨z,kf,pd,kd,pm,km,_,_,_,H⟩:=O.map0.map.look3 O.map0.right.nodup cls (Xf R (by decide));have k:Hid (∀L S,zbo (Za l) cls L S=none):=Xh (fun L S=>by unfold zbo;rw[D];rfl);unfold Ze at D;unfold Qv at H;generalize (Qb (Za l) cls).getD qg=N at *;have m:∀g:World,(Instr.field 31 (.agg #[.string N.name,.string N.super,.slice z N.faces.length kf,.bool true,.slice pd N.fields.length kd,.slice pm N.methods.length km]) 3).run Tryz.prog g=.ok (.bool true) g:=fun _=>by kernel_rfl
 have n:Hid (∀wx,_):=fun wx=>zx wx
 clear E O h;go_enter Tryz.func139,Tryz.ntmps139;go_upto_region 4 with(first
  |(go_fit (P.knowsY (Qc cls) U Z);rintro e w1 f;obtain⟨I,rfl,lv1,sv1,J,M⟩:=f.ok';(have V:=P.next I J M);obtain⟨o,p,q,s,t,x⟩:=V.cells)
  |(go_fit (T.out _);rintro e wq⟨rfl,rfl⟩))
 have G:=Xh (V.over Xb.drew);have X:=And.intro G.out.env.below (And.intro (G.out.step.blk.cell 0) G.out.cells.2.2.2.2.1);clear P V I J M f;refine wp_region_held_drew (S:=fun w'=>Below w.heap.size w w'/\w'.cell? ⟨sb,0,none⟩=some (.map (some B))/\w'.cell? ⟨ws.heap.size,4,none⟩=some (.string cls)) (by kernel_rfl) X (fun hHeld=>?_);change wpAnyH _ _ _ _ _ 10 _ _ _;iterate 6 ((first|(refine tkN rfl rfl hHeld ?_)|(refine tkY (v:=?_) rfl rfl hHeld ?_ ?_;rotate_left;focus (intro w F;(obtain⟨Y,c,d⟩:=F);go_simp;all_goals with_reducible rfl)));try simp only[Act.put,Xa,Xc,Xd])
 change wpAnyH _ _ _ _ _ 4 _ _ _;iterate 1 ((first|(refine tkN rfl rfl hHeld ?_)|(refine tkY (v:=?_) rfl rfl hHeld ?_ ?_;rotate_left;focus (intro w F;(obtain⟨Y,c,d⟩:=F;have hl:=(H _ Y).2);go_simp;all_goals with_reducible rfl)));(try simp only[Act.put]);(try simp only[Xa]);(try simp only[Xd]);(try simp only[Xc]))
 change wpAnyH _ _ _ _ _ 3 _ _ _;iterate 2 ((first|(refine tkN rfl rfl hHeld ?_)|(refine tkY (v:=?_) rfl rfl hHeld ?_ ?_;rotate_left;focus (intro w F;(obtain⟨Y,c,d⟩:=F);go_simp;all_goals with_reducible rfl)));(try simp only[Act.put]);(try simp only[Xa]);(try simp only[Xd]);(try simp only[Xc]))
 refine wpAnyH_ready (rs:=[9]) (fuel:=0) (by kernel_rfl) (by simp) ?_;refine AllReadyH.cons (i:=9) rfl (fun K hK=>?_) AllReadyH.nil;go_simp;refine(n.out _).mono ?_;rintro e wq⟨rfl,rfl⟩;exact And.intro rfl (G.out.stop Xb (j.out.symm.trans (Zd ((qae (Decidable.not_not.2 Z)).trans (k.out _ _)))))
theorem Qd1(w0 w:World)(B:Nat)(l:List qa)(base:Nat)(ws:World)(T:Env w0 w B l base ws)(sb:Nat)(qb Zb:Str)(lv sv:Value)(L S:List Str)(h:qh base ws sb B qb Zb lv sv L S)(_hS:ql (Za l) S)(a b:Int)(C cls D:Str)(_hty:C.size<=1048576)(V:cls.size<=1048576)(_hfr:qb.size<=maxLen)(X:Qg (Za l) (Qc cls)=0)(E:(Ze (Za l) cls).face=false):
 Calls Tryz.prog 139 #[.pointer (some ⟨sb,0,none⟩),.agg #[.int .i64 15,.int .i64 a,.int .i64 b,.string C,.string cls,.string D]] ws (Zf base ws sb B qb Zb lv sv (Zm (knK (Za l) (Qc cls) (zbo (Za l) cls L S)))):=by
 have U:SA w0 w B l base ws lv sv sb qb Zb ws.heap.size [.int .i64 15,.int .i64 a,.int .i64 b,.string C,.string cls,.string D] (ws.alloc (.cells #[.int .i64 15,.int .i64 a,.int .i64 b,.string C,.string cls,.string D] 34)) lv sv L S:=SA.new T h _;obtain⟨m,n,o,p,q,s⟩:=U.cells;obtain⟨res,F⟩:∃r,Zm (knK (Za l) (Qc cls) (zbo (Za l) cls L S))=r:=⟨_,rfl⟩;have j:=Xh F;rw[F];have J:Hid (∀wx,_):=fun wx=>zW cls wx (Xf V (by decide))
 have Y:(Qc cls).size<=maxLen:=by rw[Zan];exact Xf (Nat.add_le_add_right V 2) (by decide)
 obtain⟨pf,kf,pd,kd,pm,km,_,_,_,M⟩:=T.map0.map.look3 T.map0.right.nodup cls (Xf V (by decide));have k:Hid (∀L S,zbo (Za l) cls L S=zr L S (Qc cls)):=Xh (fun L S=>by unfold zbo;rw[E];rfl);unfold Ze at E;unfold Qv at M;generalize (Qb (Za l) cls).getD qg=R at *;have hfd:∀wz:World,(Instr.field 31 (.agg #[.string R.name,.string R.super,.slice pf R.faces.length kf,.bool false,.slice pd R.fields.length kd,.slice pm R.methods.length km]) 3).run Tryz.prog wz=.ok (.bool false) wz:=fun _=>by kernel_rfl
 have HT:Hid (∀wx,_):=fun wx=>qG wx
 clear F T h;go_enter Tryz.func139,Tryz.ntmps139;go_upto_region 4 with(first
  |(go_fit (U.knowsY (Qc cls) Y X);rintro e w1 I;obtain⟨N,rfl,lv1,sv1,O,P⟩:=I.ok';(have Z:=U.next N O P);obtain⟨m,n,o,p,q,s⟩:=Z.cells)
  |(go_fit (J.out _);rintro e y⟨rfl,rfl⟩))
 have A:=Xh (Z.over Xb.drew);have H:=And.intro A.out.env.below (And.intro (A.out.step.blk.cell 0) A.out.cells.2.2.2.2.1);clear U Z N O P I;refine wp_region_held_drew (S:=fun w'=>Below w.heap.size w w'/\w'.cell? ⟨sb,0,none⟩=some (.map (some B))/\w'.cell? ⟨ws.heap.size,4,none⟩=some (.string cls)) (by kernel_rfl) H (fun hHeld=>?_);change wpAnyH _ _ _ _ _ 10 _ _ _;iterate 6 ((first|(refine tkN rfl rfl hHeld ?_)|(refine tkY (v:=?_) rfl rfl hHeld ?_ ?_;rotate_left;focus (intro w G;(obtain⟨c,t,x⟩:=G);go_simp;all_goals with_reducible rfl)));try simp only[Act.put,Xa,Xc,Xd])
 change wpAnyH _ _ _ _ _ 4 _ _ _;iterate 1 ((first|(refine tkN rfl rfl hHeld ?_)|(refine tkY (v:=?_) rfl rfl hHeld ?_ ?_;rotate_left;focus (intro w G;(obtain⟨c,t,x⟩:=G;have hl:=(M _ c).2);go_simp;all_goals with_reducible rfl)));(try simp only[Act.put]);(try simp only[Xa]);(try simp only[Xd]);(try simp only[Xc]))
 change wpAnyH _ _ _ _ _ 3 _ _ _;iterate 2 ((first|(refine tkN rfl rfl hHeld ?_)|(refine tkY (v:=?_) rfl rfl hHeld ?_ ?_;rotate_left;focus (intro w G;(obtain⟨c,t,x⟩:=G);go_simp;all_goals with_reducible rfl)));(try simp only[Act.put]);(try simp only[Xa]);(try simp only[Xd]);(try simp only[Xc]))
 refine wpAnyH_ready (rs:=[9]) (fuel:=0) (by kernel_rfl) (by simp) ?_;refine AllReadyH.cons (i:=9) rfl (fun K z=>?_) AllReadyH.nil;go_simp;refine(HT.out _).mono ?_;rintro e y⟨rfl,rfl⟩;refine z.out _ _ H (fun _=>?_);clear z K;try dsimp only[Act.put]
 refine wpAnyH_done (by kernel_rfl) ?_ _;obtain⟨m,n,o,p,q,s⟩:=A.out.cells;clear hHeld H;go_wp2_with (first
  |(go_fit (J.out _);rintro e y⟨rfl,rfl⟩)
  |(go_at_call 166;rcases hq1:QN S (Qc cls) with _|S2;(with_reducible refine(A.out.putN (Qc cls) hq1).mono ?_);(rintro e w2 I;obtain⟨hB,rfl⟩:=I.no';exact And.intro rfl (A.out.stop hB (j.out.symm.trans (Zd ((qae (Decidable.not_not.2 X)).trans ((k.out _ _).trans (Qz hq1)))))));(with_reducible refine(A.out.putY (Qc cls) hq1).mono ?_);rintro e w2 I;obtain⟨d,rfl,lv2,sv2,f,g⟩:=I.ok';(have T2:=A.out.next d f g)))
 go_end0;exact T2.done (j.out.symm.trans (qj ((qae (Decidable.not_not.2 X)).trans ((k.out _ _).trans (Zy hq1)))))
theorem zeD(w0 w:World)(B:Nat)(l:List qa)(base:Nat)(ws:World)(k:Env w0 w B l base ws)(sb:Nat)(qb Zb:Str)(lv sv:Value)(L S:List Str)(h:qh base ws sb B qb Zb lv sv L S)(m:ql (Za l) S)(a b:Int)(C cls A:Str)(_hty:C.size<=1048576)(Z:cls.size<=1048576)(_hfr:qb.size<=maxLen):
 Calls Tryz.prog 139 #[.pointer (some ⟨sb,0,none⟩),.agg #[.int .i64 17,.int .i64 a,.int .i64 b,.string C,.string cls,.string A]] ws (Zf base ws sb B qb Zb lv sv (Zm ((qL (Za l) cls A).bind fun t=>(Qf (Za l) [t,Qc cls] S).map fun j=>(L,j)))):=by
 have c:SA w0 w B l base ws lv sv sb qb Zb ws.heap.size [.int .i64 17,.int .i64 a,.int .i64 b,.string C,.string cls,.string A] (ws.alloc (.cells #[.int .i64 17,.int .i64 a,.int .i64 b,.string C,.string cls,.string A] 34)) lv sv L S:=SA.new k h _;obtain⟨y,z,i2,i3,i4,i5⟩:=c.cells;obtain⟨res,F⟩:∃r,Zm ((qL (Za l) cls A).bind fun t=>(Qf (Za l) [t,Qc cls] S).map fun j=>(L,j))=r:=⟨_,rfl⟩;have d:=Xh F;rw[F];have f:Hid (∀wx,_):=fun wx=>zW cls wx (Xf Z (by decide))
 have M:(Qc cls).size<=maxLen:=by rw[Zan];exact Xf (Nat.add_le_add_right Z 2) (by decide)
 clear F k h;go_enter Tryz.func139,Tryz.ntmps139;go_upto_region 11 with fail;have D:=Xh (c.over Xb.drew);clear c y z i2 i3 i4 i5;refine wp_region_held_drew (S:=fun w'=>w'.cell? ⟨ws.heap.size,0,none⟩=some (.int .i64 17)/\w'.cell? ⟨ws.heap.size,1,none⟩=some (.int .i64 a)/\w'.cell? ⟨ws.heap.size,2,none⟩=some (.int .i64 b)/\w'.cell? ⟨ws.heap.size,3,none⟩=some (.string C)/\w'.cell? ⟨ws.heap.size,4,none⟩=some (.string cls)/\w'.cell? ⟨ws.heap.size,5,none⟩=some (.string A)) (by kernel_rfl) D.out.cells (fun hHeld=>?_);change wpAnyH _ _ _ _ _ 9 _ _ _;iterate 3 ((first|(refine tkN rfl rfl hHeld ?_)|(refine tkY (v:=?_) rfl rfl hHeld ?_ ?_;rotate_left;focus (intro w G;(obtain⟨n,o,p,q,s,x⟩:=G);go_simp;all_goals with_reducible rfl)));(try simp only[Act.put]);(try simp only[Xa]);(try simp only[Xd]);(try simp only[Xc]))
 refine tkI (i:=4) (fuel:=5) (v:=?_) rfl (by kernel_rfl) (by kernel_rfl) (by kernel_rfl) (fun _ _ _ h=>h) (by rfl) hHeld ?_ ?_;rotate_left;focus (intro w G;(obtain⟨n,o,p,q,s,x⟩:=G);go_simp;all_goals with_reducible rfl);(try simp only[Act.put]);(try simp only[Xa]);(try simp only[Xd]);(try simp only[Xc])
 refine tkI (i:=5) (fuel:=4) (v:=?_) rfl (by kernel_rfl) (by kernel_rfl) (by kernel_rfl) (fun _ _ _ h=>h) (by rfl) hHeld ?_ ?_;rotate_left;focus (intro w G;(obtain⟨n,o,p,q,s,x⟩:=G);go_simp;all_goals with_reducible rfl);(try simp only[Act.put]);(try simp only[Xa]);(try simp only[Xd]);(try simp only[Xc])
 refine wpAnyH_ready (rs:=[3]) (fuel:=3) (by kernel_rfl) (by simp) ?_;refine AllReadyH.cons (i:=3) rfl (fun K H=>?_) AllReadyH.nil;go_simp;rcases hq0:qL (Za l) cls A with _|Y
 ·refine(D.out.fieldN 17 a b C cls A Z hq0).mono ?_;rintro e w2 I;obtain⟨g,rfl⟩:=I.no';exact And.intro rfl (D.out.stop g (d.out.symm.trans (Zd (Zq hq0))))
 ·have N:Y.size<=maxLen:=Xf (qad (zbT hq0).2) (by decide);refine(D.out.fieldY 17 a b C cls A Z hq0).mono ?_;rintro e w2 I;obtain⟨P,rfl,lv2,sv2,R,T⟩:=I.ok';have E:=Xh (D.out.next P R T);clear P R T I;refine H.out _ _ E.out.cells (fun _=>?_);clear H K;try dsimp only[Act.put]
  refine wpAnyH_ready (rs:=[6]) (fuel:=2) (by kernel_rfl) (by simp) ?_;refine AllReadyH.cons (i:=6) rfl (fun K H=>?_) AllReadyH.nil;go_simp;refine(f.out _).mono ?_;rintro e wq⟨rfl,rfl⟩;refine H.out _ _ E.out.cells (fun _=>?_);clear H K;try dsimp only[Act.put]
  refine wpAnyH_ready (rs:=[7]) (fuel:=1) (by kernel_rfl) (by simp) ?_;refine AllReadyH.cons (i:=7) rfl (fun K H=>?_) AllReadyH.nil;go_simp;have J:=Xh (E.out.alloc (.cells #[.string Y,.string (Qc cls)] 9));refine H.out _ _ J.out.cells (fun _=>?_);clear H K;try dsimp only[Act.put]
  refine wpAnyH_ready (rs:=[8]) (fuel:=0) (by kernel_rfl) (by simp) ?_;refine AllReadyH.cons (i:=8) rfl (fun K H=>?_) AllReadyH.nil;go_simp;rcases hq1:Qf (Za l) [Y,Qc cls] S with _|S2
  ·refine(E.out.takeTN m Y (Qc cls) N M _ rfl hq1).mono ?_;rintro e w3 I;obtain⟨g,rfl⟩:=I.no';exact And.intro rfl (J.out.stop g (d.out.symm.trans (Zd ((Qe hq0).trans (zaV hq1)))))
  ·refine(E.out.takeTY m Y (Qc cls) N M _ rfl hq1).mono ?_;rintro e w3 I;obtain⟨U,rfl,lv3,sv3,V,X⟩:=I.ok';have O:=Xh (J.out.next U V X);clear U V X I;refine H.out _ _ O.out.cells (fun _=>?_);clear H K;refine wpAnyH_done (by kernel_rfl) ?_ _;clear hHeld;go_wp2_with fail;go_end0;exact O.out.done (d.out.symm.trans (qj ((Qe hq0).trans (zad hq1))))
theorem zd2(w0 w:World)(B:Nat)(l:List qa)(base:Nat)(ws:World)(H:Env w0 w B l base ws)(sb:Nat)(qb Zb:Str)(lv sv:Value)(L S:List Str)(h:qh base ws sb B qb Zb lv sv L S)(I:ql (Za l) S)(a b:Int)(A cls C:Str)(_hty:A.size<=1048576)(_hc:cls.size<=1048576)(_hfr:qb.size<=maxLen)(E:ZM S=none):
 Calls Tryz.prog 139 #[.pointer (some ⟨sb,0,none⟩),.agg #[.int .i64 19,.int .i64 a,.int .i64 b,.string A,.string cls,.string C]] ws (Zf base ws sb B qb Zb lv sv (Zm ((ZM S).bind fun p=>if Qaq p.1=true then zr L p.2 kI else none))):=by
 have F:SA w0 w B l base ws lv sv sb qb Zb ws.heap.size [.int .i64 19,.int .i64 a,.int .i64 b,.string A,.string cls,.string C] (ws.alloc (.cells #[.int .i64 19,.int .i64 a,.int .i64 b,.string A,.string cls,.string C] 34)) lv sv L S:=SA.new H h _;obtain⟨O,P,R,T,U,V⟩:=F.cells;obtain⟨M,D⟩:∃r,Zm ((ZM S).bind fun p=>if Qaq p.1=true then zr L p.2 kI else none)=r:=⟨_,rfl⟩;have J:=Xh D;rw[D];clear D H h;go_enter Tryz.func139,Tryz.ntmps139;go_wp2_with (first
  |(go_fit (F.refN I E);rintro e X N;obtain⟨G,rfl⟩:=N.no'))
 exact And.intro rfl (F.stop G (J.out.symm.trans (Zd (Zq E))))
theorem Zd2(w0 w:World)(B:Nat)(l:List qa)(base:Nat)(ws:World)(T:Env w0 w B l base ws)(sb:Nat)(qb Zb:Str)(lv sv:Value)(L S:List Str)(h:qh base ws sb B qb Zb lv sv L S)(X:ql (Za l) S)(a b:Int)(A cls C:Str)(_hty:A.size<=1048576)(_hc:cls.size<=1048576)(_hfr:qb.size<=maxLen)(k:Str)(U:List Str)(E:ZM S=some (k,U))(Y:(k.toList==[78])=true):
 Calls Tryz.prog 139 #[.pointer (some ⟨sb,0,none⟩),.agg #[.int .i64 19,.int .i64 a,.int .i64 b,.string A,.string cls,.string C]] ws (Zf base ws sb B qb Zb lv sv (Zm ((ZM S).bind fun p=>if Qaq p.1=true then zr L p.2 kI else none))):=by
 have I:SA w0 w B l base ws lv sv sb qb Zb ws.heap.size [.int .i64 19,.int .i64 a,.int .i64 b,.string A,.string cls,.string C] (ws.alloc (.cells #[.int .i64 19,.int .i64 a,.int .i64 b,.string A,.string cls,.string C] 34)) lv sv L S:=SA.new T h _;obtain⟨d,f,g,i,j,m⟩:=I.cells;obtain⟨n,D⟩:∃r,Zm ((ZM S).bind fun p=>if Qaq p.1=true then zr L p.2 kI else none)=r:=⟨_,rfl⟩;have V:=Xh D;rw[D];have Z:Hid (∀wx,_):=fun wx=>qG wx
 have F:Qaq k=true:=by unfold Qaq;rw[Y];rfl
 unfold kI at *;clear D T h;go_enter Tryz.func139,Tryz.ntmps139;go_wp2_with (first
  |(go_fit (I.refY X E);rintro e y H;obtain⟨J,rfl,o,q,M,N⟩:=H.ok';(have G:=I.next J M N);obtain⟨d,f,g,i,j,m⟩:=G.cells)
  |(go_fit (Z.out _);rintro e z⟨rfl,rfl⟩)
  |(go_at_call 166;rcases hq1:QN U ⟨#[73]⟩ with _|S2;(with_reducible refine(G.putN ⟨#[73]⟩ hq1).mono ?_);(rintro e x H;obtain⟨s,rfl⟩:=H.no';exact And.intro rfl (G.stop s (V.out.symm.trans (Zd ((Qe E).trans ((if_pos F).trans (Qz hq1)))))));(with_reducible refine(G.putY ⟨#[73]⟩ hq1).mono ?_);rintro e x H;obtain⟨O,rfl,t,v,P,R⟩:=H.ok';(have c:=G.next O P R)))
 go_end0;exact c.done (V.out.symm.trans (qj ((Qe E).trans ((if_pos F).trans (Zy hq1)))))
theorem qd2(w0 w:World)(B:Nat)(l:List qa)(base:Nat)(ws:World)(T:Env w0 w B l base ws)(sb:Nat)(qb Zb:Str)(lv sv:Value)(L S:List Str)(h:qh base ws sb B qb Zb lv sv L S)(Z:ql (Za l) S)(a b:Int)(A cls C:Str)(_hty:A.size<=1048576)(_hc:cls.size<=1048576)(_hfr:qb.size<=maxLen)(k:Str)(U:List Str)(E:ZM S=some (k,U))(c:(k.toList==[78])=false)(V:Lib.hasPrefix k.toList [91]=true):
 Calls Tryz.prog 139 #[.pointer (some ⟨sb,0,none⟩),.agg #[.int .i64 19,.int .i64 a,.int .i64 b,.string A,.string cls,.string C]] ws (Zf base ws sb B qb Zb lv sv (Zm ((ZM S).bind fun p=>if Qaq p.1=true then zr L p.2 kI else none))):=by
 have I:SA w0 w B l base ws lv sv sb qb Zb ws.heap.size [.int .i64 19,.int .i64 a,.int .i64 b,.string A,.string cls,.string C] (ws.alloc (.cells #[.int .i64 19,.int .i64 a,.int .i64 b,.string A,.string cls,.string C] 34)) lv sv L S:=SA.new T h _;obtain⟨g,i,j,m,n,o⟩:=I.cells;obtain⟨q,D⟩:∃r,Zm ((ZM S).bind fun p=>if Qaq p.1=true then zr L p.2 kI else none)=r:=⟨_,rfl⟩;have X:=Xh D;rw[D];have d:Hid (∀wx,_):=fun wx=>qG wx
 have Y:Hid (∀wx,_):=fun wx=>qu k ⟨#[91]⟩ wx
 rw[<-ByteArray.toList_eq,show(⟨#[91]⟩:Str).data.toList=[91] from rfl,V]at Y;have F:Qaq k=true:=by unfold Qaq;rw[c,V];rfl
 unfold kI at *;clear D T h;go_enter Tryz.func139,Tryz.ntmps139;go_wp2_with (first
  |(go_fit (I.refY Z E);rintro e w1 H;obtain⟨J,rfl,s,t,M,N⟩:=H.ok';(have G:=I.next J M N);obtain⟨g,i,j,m,n,o⟩:=G.cells)
  |(go_fit (Y.out _);rintro e z⟨rfl,rfl⟩)
  |(go_fit (d.out _);rintro e z⟨rfl,rfl⟩)
  |(go_at_call 166;rcases hq1:QN U ⟨#[73]⟩ with _|S2;(with_reducible refine(G.putN ⟨#[73]⟩ hq1).mono ?_);(rintro e w2 H;obtain⟨v,rfl⟩:=H.no';exact And.intro rfl (G.stop v (X.out.symm.trans (Zd ((Qe E).trans ((if_pos F).trans (Qz hq1)))))));(with_reducible refine(G.putY ⟨#[73]⟩ hq1).mono ?_);rintro e w2 H;obtain⟨O,rfl,x,y,P,R⟩:=H.ok';(have f:=G.next O P R)))
 go_end0;exact f.done (X.out.symm.trans (qj ((Qe E).trans ((if_pos F).trans (Zy hq1)))))
theorem Qd2(w0 w:World)(B:Nat)(l:List qa)(base:Nat)(ws:World)(M:Env w0 w B l base ws)(sb:Nat)(qb Zb:Str)(lv sv:Value)(L S:List Str)(h:qh base ws sb B qb Zb lv sv L S)(R:ql (Za l) S)(a b:Int)(A cls C:Str)(_hty:A.size<=1048576)(_hc:cls.size<=1048576)(_hfr:qb.size<=maxLen)(k:Str)(T:List Str)(E:ZM S=some (k,T))(U:(k.toList==[78])=false)(N:Lib.hasPrefix k.toList [91]=false):
 Calls Tryz.prog 139 #[.pointer (some ⟨sb,0,none⟩),.agg #[.int .i64 19,.int .i64 a,.int .i64 b,.string A,.string cls,.string C]] ws (Zf base ws sb B qb Zb lv sv (Zm ((ZM S).bind fun p=>if Qaq p.1=true then zr L p.2 kI else none))):=by
 have F:SA w0 w B l base ws lv sv sb qb Zb ws.heap.size [.int .i64 19,.int .i64 a,.int .i64 b,.string A,.string cls,.string C] (ws.alloc (.cells #[.int .i64 19,.int .i64 a,.int .i64 b,.string A,.string cls,.string C] 34)) lv sv L S:=SA.new M h _;obtain⟨Y,Z,c,d,f,g⟩:=F.cells;obtain⟨i,D⟩:∃r,Zm ((ZM S).bind fun p=>if Qaq p.1=true then zr L p.2 kI else none)=r:=⟨_,rfl⟩;have V:=Xh D;rw[D];have X:Hid (∀wx,_):=fun wx=>zx wx
 have O:Hid (∀wx,_):=fun wx=>qu k ⟨#[91]⟩ wx
 rw[<-ByteArray.toList_eq,show(⟨#[91]⟩:Str).data.toList=[91] from rfl,N]at O;have G:Qaq k=false:=by unfold Qaq;rw[U,N];rfl
 unfold kI at *;clear D M h;go_enter Tryz.func139,Tryz.ntmps139;go_wp2_with (first
  |(go_fit (F.refY R E);rintro e q n;obtain⟨H,rfl,j,m,I,J⟩:=n.ok';(have P:=F.next H I J);obtain⟨Y,Z,c,d,f,g⟩:=P.cells)
  |(go_fit (O.out _);rintro e o⟨rfl,rfl⟩)
  |(go_fit (X.out _);rintro e o⟨rfl,rfl⟩))
 exact And.intro rfl (P.stop Xb (V.out.symm.trans (Zd ((Qe E).trans (if_neg (by rw[G];decide))))))
theorem zd3(w0 w:World)(B:Nat)(l:List qa)(base:Nat)(ws:World)(I:Env w0 w B l base ws)(sb:Nat)(qb Zb:Str)(lv sv:Value)(L S:List Str)(h:qh base ws sb B qb Zb lv sv L S)(_hS:ql (Za l) S)(a b:Int)(A cls C:Str)(E:A.size<=1048576)(_hc:cls.size<=1048576)(_hfr:qb.size<=maxLen)(J:¬Qg (Za l) A=0):
 Calls Tryz.prog 139 #[.pointer (some ⟨sb,0,none⟩),.agg #[.int .i64 23,.int .i64 a,.int .i64 b,.string A,.string cls,.string C]] ws (Zf base ws sb B qb Zb lv sv (Zm (knK (Za l) A ((ZM S).bind fun p=>zr L p.2 kI)))):=by
 have F:SA w0 w B l base ws lv sv sb qb Zb ws.heap.size [.int .i64 23,.int .i64 a,.int .i64 b,.string A,.string cls,.string C] (ws.alloc (.cells #[.int .i64 23,.int .i64 a,.int .i64 b,.string A,.string cls,.string C] 34)) lv sv L S:=SA.new I h _;obtain⟨P,R,T,U,V,X⟩:=F.cells;obtain⟨N,D⟩:∃r,Zm (knK (Za l) A ((ZM S).bind fun p=>zr L p.2 kI))=r:=⟨_,rfl⟩;have M:=Xh D;rw[D];have G:A.size<=maxLen:=Xf E (by decide);clear D I h;go_enter Tryz.func139,Tryz.ntmps139;go_wp2_with (first
  |(go_fit (F.knowsN A G J);rintro e Y O;obtain⟨H,rfl⟩:=O.no'))
 exact And.intro rfl (F.stop H (M.out.symm.trans (Zd (ZcF J))))
theorem Zd3(w0 w:World)(B:Nat)(l:List qa)(base:Nat)(ws:World)(R:Env w0 w B l base ws)(sb:Nat)(qb Zb:Str)(lv sv:Value)(L S:List Str)(h:qh base ws sb B qb Zb lv sv L S)(U:ql (Za l) S)(a b:Int)(A cls C:Str)(F:A.size<=1048576)(_hc:cls.size<=1048576)(_hfr:qb.size<=maxLen)(T:Qg (Za l) A=0)(E:ZM S=none):
 Calls Tryz.prog 139 #[.pointer (some ⟨sb,0,none⟩),.agg #[.int .i64 23,.int .i64 a,.int .i64 b,.string A,.string cls,.string C]] ws (Zf base ws sb B qb Zb lv sv (Zm (knK (Za l) A ((ZM S).bind fun p=>zr L p.2 kI)))):=by
 have G:SA w0 w B l base ws lv sv sb qb Zb ws.heap.size [.int .i64 23,.int .i64 a,.int .i64 b,.string A,.string cls,.string C] (ws.alloc (.cells #[.int .i64 23,.int .i64 a,.int .i64 b,.string A,.string cls,.string C] 34)) lv sv L S:=SA.new R h _;obtain⟨X,Y,Z,c,d,f⟩:=G.cells;obtain⟨g,D⟩:∃r,Zm (knK (Za l) A ((ZM S).bind fun p=>zr L p.2 kI))=r:=⟨_,rfl⟩;have V:=Xh D;rw[D];have H:A.size<=maxLen:=Xf F (by decide);clear D R h;go_enter Tryz.func139,Tryz.ntmps139;go_wp2_with (first
  |(go_fit (G.knowsY A H T);rintro e k P;obtain⟨J,rfl,i,j,M,N⟩:=P.ok';(have I:=G.next J M N);obtain⟨X,Y,Z,c,d,f⟩:=I.cells)
  |(go_fit (I.refN U E);rintro e m P;obtain⟨O,rfl⟩:=P.no'))
 exact And.intro rfl (I.stop O (V.out.symm.trans (Zd ((qae (Decidable.not_not.2 T)).trans (Zq E)))))
theorem qd3(w0 w:World)(B:Nat)(l:List qa)(base:Nat)(ws:World)(g:Env w0 w B l base ws)(sb:Nat)(qb Zb:Str)(lv sv:Value)(L S:List Str)(h:qh base ws sb B qb Zb lv sv L S)(v:ql (Za l) S)(a b:Int)(A cls C:Str)(I:A.size<=1048576)(_hc:cls.size<=1048576)(_hfr:qb.size<=maxLen)(J:Qg (Za l) A=0)(k:Str)(i:List Str)(E:ZM S=some (k,i)):
 Calls Tryz.prog 139 #[.pointer (some ⟨sb,0,none⟩),.agg #[.int .i64 23,.int .i64 a,.int .i64 b,.string A,.string cls,.string C]] ws (Zf base ws sb B qb Zb lv sv (Zm (knK (Za l) A ((ZM S).bind fun p=>zr L p.2 kI)))):=by
 have M:SA w0 w B l base ws lv sv sb qb Zb ws.heap.size [.int .i64 23,.int .i64 a,.int .i64 b,.string A,.string cls,.string C] (ws.alloc (.cells #[.int .i64 23,.int .i64 a,.int .i64 b,.string A,.string cls,.string C] 34)) lv sv L S:=SA.new g h _;obtain⟨m,n,o,q,s,t⟩:=M.cells;obtain⟨y,D⟩:∃r,Zm (knK (Za l) A ((ZM S).bind fun p=>zr L p.2 kI))=r:=⟨_,rfl⟩;have j:=Xh D;rw[D];have N:A.size<=maxLen:=Xf I (by decide);have G:=h.low;have O:=h.blk.lt;unfold kI at *;clear D g h;go_enter Tryz.func139,Tryz.ntmps139;go_upto_region 32 with(first
  |(go_fit (M.knowsY A N J);rintro e w1 F;obtain⟨T,rfl,z,aA,U,V⟩:=F.ok';(have P:=M.next T U V);obtain⟨m,n,o,q,s,t⟩:=P.cells)
  |(go_fit (P.refY v E);rintro e w2 F;obtain⟨X,rfl,aB,aC,Y,Z⟩:=F.ok';(have R:=P.next X Y Z);obtain⟨m,n,o,q,s,t⟩:=R.cells))
 have H:=R.boxed Xl (Xf G (Nat.le_of_lt O)) 3 (.string ⟨#[73]⟩);have f3:=R.box.frozen 3;have j3:(w2.setCell ⟨ws.heap.size,3,none⟩ (.string ⟨#[73]⟩)).cell? ⟨ws.heap.size,3,none⟩=some (.string ⟨#[73]⟩):=H.box.cell 3;go_wp2_with (first
  |(go_at_call 166;rcases hq2:QN i ⟨#[73]⟩ with _|S2;(with_reducible refine(H.putN ⟨#[73]⟩ hq2).mono ?_);(rintro e w4 F;obtain⟨hB,rfl⟩:=F.no';exact And.intro rfl (H.stop hB (j.out.symm.trans (Zd ((qae (Decidable.not_not.2 J)).trans ((Qe E).trans (Qz hq2)))))));(with_reducible refine(H.putY ⟨#[73]⟩ hq2).mono ?_);rintro e w4 F;obtain⟨c,rfl,lv4,sv4,d,f⟩:=F.ok';(have x:=H.next c d f)))
 go_end0;exact x.done (j.out.symm.trans (qj ((qae (Decidable.not_not.2 J)).trans ((Qe E).trans (Zy hq2)))))
theorem ZeD(w0 w:World)(B:Nat)(l:List qa)(base:Nat)(ws:World)(N:Env w0 w B l base ws)(sb:Nat)(qb Zb:Str)(lv sv:Value)(L S:List Str)(h:qh base ws sb B qb Zb lv sv L S)(O:ql (Za l) S)(a b:Int)(A cls C:Str)(E:A.size<=1048576)(P:cls.size<=1048576)(F:qb.size<=maxLen):
 Calls Tryz.prog 139 #[.pointer (some ⟨sb,0,none⟩),.agg #[.int .i64 24,.int .i64 a,.int .i64 b,.string A,.string cls,.string C]] ws (Zf base ws sb B qb Zb lv sv (Zm (Zap (Za l) qb cls C A false L S))):=by
 have G:SA w0 w B l base ws lv sv sb qb Zb ws.heap.size [.int .i64 24,.int .i64 a,.int .i64 b,.string A,.string cls,.string C] (ws.alloc (.cells #[.int .i64 24,.int .i64 a,.int .i64 b,.string A,.string cls,.string C] 34)) lv sv L S:=SA.new N h _;obtain⟨c,d,f,g,i,j⟩:=G.cells;obtain⟨U,D⟩:∃r,Zm (Zap (Za l) qb cls C A false L S)=r:=⟨_,rfl⟩;have R:=Xh D;rw[D];clear D N h;go_enter Tryz.func139,Tryz.ntmps139;go_wp2_with (first
  |(go_at_call 175;rcases hq0:Zap (Za l) qb cls C A false L S with _|⟨k,m⟩;(with_reducible refine(G.callN O 24 a b A cls C false P F E hq0).mono ?_);(rintro e Z M;obtain⟨V,rfl⟩:=M.no';exact And.intro rfl (G.stop V (R.out.symm.trans (Zd hq0))));(with_reducible refine(G.callY O 24 a b A cls C false P F E hq0).mono ?_);rintro e Z M;obtain⟨H,rfl,X,Y,I,J⟩:=M.ok';(have T:=G.next H I J)))
 go_end0;exact T.done (R.out.symm.trans (qj hq0))
theorem qeD(w0 w:World)(B:Nat)(l:List qa)(base:Nat)(ws:World)(N:Env w0 w B l base ws)(sb:Nat)(qb Zb:Str)(lv sv:Value)(L S:List Str)(h:qh base ws sb B qb Zb lv sv L S)(O:ql (Za l) S)(a b:Int)(A cls C:Str)(E:A.size<=1048576)(P:cls.size<=1048576)(F:qb.size<=maxLen):
 Calls Tryz.prog 139 #[.pointer (some ⟨sb,0,none⟩),.agg #[.int .i64 25,.int .i64 a,.int .i64 b,.string A,.string cls,.string C]] ws (Zf base ws sb B qb Zb lv sv (Zm (Zap (Za l) qb cls C A true L S))):=by
 have G:SA w0 w B l base ws lv sv sb qb Zb ws.heap.size [.int .i64 25,.int .i64 a,.int .i64 b,.string A,.string cls,.string C] (ws.alloc (.cells #[.int .i64 25,.int .i64 a,.int .i64 b,.string A,.string cls,.string C] 34)) lv sv L S:=SA.new N h _;obtain⟨c,d,f,g,i,j⟩:=G.cells;obtain⟨U,D⟩:∃r,Zm (Zap (Za l) qb cls C A true L S)=r:=⟨_,rfl⟩;have R:=Xh D;rw[D];clear D N h;go_enter Tryz.func139,Tryz.ntmps139;go_wp2_with (first
  |(go_at_call 175;rcases hq0:Zap (Za l) qb cls C A true L S with _|⟨k,m⟩;(with_reducible refine(G.callN O 25 a b A cls C true P F E hq0).mono ?_);(rintro e Z M;obtain⟨V,rfl⟩:=M.no';exact And.intro rfl (G.stop V (R.out.symm.trans (Zd hq0))));(with_reducible refine(G.callY O 25 a b A cls C true P F E hq0).mono ?_);rintro e Z M;obtain⟨H,rfl,X,Y,I,J⟩:=M.ok';(have T:=G.next H I J)))
 go_end0;exact T.done (R.out.symm.trans (qj hq0))
theorem Zdg(w0 w:World)(B:Nat)(l:List qa)(base:Nat)(ws:World)(F:Env w0 w B l base ws)(sb:Nat)(qb Zb:Str)(lv sv:Value)(L S:List Str)(h:qh base ws sb B qb Zb lv sv L S)(A a b:Int)(C cls D:Str)(_hty:C.size<=1048576)(_hc:cls.size<=1048576)(_hfr:qb.size<=maxLen)(H:(A==15)=false)(I:(A==16)=false)(J:(A==17)=false)(M:(A==18)=false)(N:(A==19)=false)(O:(A==20)=false)(P:(A==21)=false)(R:(A==22)=false)(T:(A==23)=false)(U:(A==24)=false)(V:(A==25)=false):
 Calls Tryz.prog 139 #[.pointer (some ⟨sb,0,none⟩),.agg #[.int .i64 A,.int .i64 a,.int .i64 b,.string C,.string cls,.string D]] ws (Zf base ws sb B qb Zb lv sv (Zm (some (L,S)))):=by
 have G:SA w0 w B l base ws lv sv sb qb Zb ws.heap.size [.int .i64 A,.int .i64 a,.int .i64 b,.string C,.string cls,.string D] (ws.alloc (.cells #[.int .i64 A,.int .i64 a,.int .i64 b,.string C,.string cls,.string D] 34)) lv sv L S:=SA.new F h _;obtain⟨Z,c,d,e,f,g⟩:=G.cells;obtain⟨Y,E⟩:∃r,Zm (some (L,S))=r:=⟨_,rfl⟩;have X:=Xh E;rw[E];clear E F h;go_enter Tryz.func139,Tryz.ntmps139;go_wp2_with fail;go_end0;exact G.done (X.out.symm.trans (qj rfl))
set_option maxRecDepth 512
theorem zbH(cs:List qa)(qb:Str)(a b:Int)(A cls B:Str)(L S:List Str):
 ZH cs qb ⟨15,a,b,A,cls,B⟩ L S=knK cs (Qc cls) (zbo cs cls L S)
 /\ZH cs qb ⟨16,a,b,A,cls,B⟩ L S=((qL cs cls B).bind fun t=>(Qf cs [Qc cls] S).bind fun C=>zr L C t)
 /\ZH cs qb ⟨17,a,b,A,cls,B⟩ L S=((qL cs cls B).bind fun t=>(Qf cs [t,Qc cls] S).map fun C=>(L,C))
 /\ZH cs qb ⟨18,a,b,A,cls,B⟩ L S=knK cs A ((Qf cs [kI] S).bind fun C=>zr L C (Z1 A))
 /\ZH cs qb ⟨19,a,b,A,cls,B⟩ L S=((ZM S).bind fun p=>if Qaq p.1=true then zr L p.2 kI else none)
 /\ZH cs qb ⟨20,a,b,A,cls,B⟩ L S=((ZN cs A S).bind fun C=>zr L C A)
 /\ZH cs qb ⟨21,a,b,A,cls,B⟩ L S=knK cs A ((Qf cs [A] S).bind fun C=>(ZN cs A C).map fun D=>(L,D))
 /\ZH cs qb ⟨22,a,b,A,cls,B⟩ L S=knK cs A ((ZM S).bind fun p=>zr L p.2 A)
 /\ZH cs qb ⟨23,a,b,A,cls,B⟩ L S=knK cs A ((ZM S).bind fun p=>zr L p.2 kI)
 /\ZH cs qb ⟨24,a,b,A,cls,B⟩ L S=Zap cs qb cls B A false L S
 /\ZH cs qb ⟨25,a,b,A,cls,B⟩ L S=Zap cs qb cls B A true L S :=
 ⟨rfl,rfl,rfl,rfl,rfl,rfl,rfl,rfl,rfl,rfl,rfl⟩
theorem Qa0{cs:List qa}{qb:Str}{x:Ins}{L S:List Str}(h:x.op≠15/\x.op≠16/\x.op≠17/\x.op≠18/\x.op≠19/\x.op≠20/\x.op≠21/\x.op≠22/\x.op≠23/\x.op≠24/\x.op≠25):ZH cs qb x L S=some (L,S):=by
 obtain⟨C,D,E,F,G,H,I,J,M,A,B⟩:=h;unfold ZH;rw[if_neg C,if_neg D,if_neg E,if_neg F,if_neg G,if_neg H,if_neg I,if_neg J,if_neg M,if_neg A,if_neg B]
theorem Qd3(w0 w:World)(B:Nat)(l:List qa)(base:Nat)(ws:World)(G:Env w0 w B l base ws)(sb:Nat)(qb Zb:Str)(lv sv:Value)(L S:List Str)(h:qh base ws sb B qb Zb lv sv L S)(x:Ins)(H:15<=x.op/\x.op<=25->ql (Za l) S)(D:x.type.size<=1048576)(F:x.cls.size<=1048576)(E:qb.size<=maxLen):
 Calls Tryz.prog 139 #[.pointer (some ⟨sb,0,none⟩),qao x] ws (Zf base ws sb B qb Zb lv sv (Zm (ZH (Za l) qb x L S))):=by
 obtain⟨I,a,b,A,cls,C⟩:=x;replace D:A.size<=1048576:=D;replace F:cls.size<=1048576:=F;unfold qao;dsimp only at H ⊢;obtain⟨g,i,j,m,n,o,q,r,s,t,v⟩:=zbH (Za l) qb a b A cls C L S;by_cases N:I=15
 ·subst N;rw[g];by_cases O:Qg (Za l) (Qc cls)=0
  ·cases J:(Ze (Za l) cls).face with
   |true=>exact qd1 w0 w B l base ws G sb qb Zb lv sv L S h (H (by omega)) a b A cls C D F E O J
   |false=>exact Qd1 w0 w B l base ws G sb qb Zb lv sv L S h (H (by omega)) a b A cls C D F E O J
  ·exact Zd1 w0 w B l base ws G sb qb Zb lv sv L S h (H (by omega)) a b A cls C D F E O
 by_cases P:I=16
 ·subst P;rw[i];exact QeB w0 w B l base ws G sb qb Zb lv sv L S h (H (by omega)) a b A cls C D F E
 by_cases R:I=17
 ·subst R;rw[j];exact zeD w0 w B l base ws G sb qb Zb lv sv L S h (H (by omega)) a b A cls C D F E
 by_cases T:I=18
 ·subst T;rw[m];exact zeC w0 w B l base ws G sb qb Zb lv sv L S h (H (by omega)) a b A cls C D F E
 by_cases U:I=19
 ·subst U;rw[n];cases M:ZM S with
  |none =>
   have:=zd2 w0 w B l base ws G sb qb Zb lv sv L S h (H (by omega)) a b A cls C D F E M;rw[M]at this;exact this
  |some p =>
   obtain⟨k,e⟩:=p;rw[<-M];cases f:(k.toList==[78]) with
   |true=>exact Zd2 w0 w B l base ws G sb qb Zb lv sv L S h (H (by omega)) a b A cls C D F E k e M f
   |false =>
    cases y:Lib.hasPrefix k.toList [91] with
    |true=>exact qd2 w0 w B l base ws G sb qb Zb lv sv L S h (H (by omega)) a b A cls C D F E k e M f y
    |false=>exact Qd2 w0 w B l base ws G sb qb Zb lv sv L S h (H (by omega)) a b A cls C D F E k e M f y
 by_cases V:I=20
 ·subst V;rw[o];exact ZeC w0 w B l base ws G sb qb Zb lv sv L S h (H (by omega)) a b A cls C D F E
 by_cases X:I=21
 ·subst X;rw[q];exact qeC w0 w B l base ws G sb qb Zb lv sv L S h (H (by omega)) a b A cls C D F E
 by_cases Y:I=22
 ·subst Y;rw[r];exact QeC w0 w B l base ws G sb qb Zb lv sv L S h (H (by omega)) a b A cls C D F E
 by_cases Z:I=23
 ·subst Z;rw[s];by_cases O:Qg (Za l) A=0
  ·cases M:ZM S with
   |none =>
    have:=Zd3 w0 w B l base ws G sb qb Zb lv sv L S h (H (by omega)) a b A cls C D F E O M;rw[M]at this;exact this
   |some p =>
    obtain⟨k,e⟩:=p;rw[<-M];exact qd3 w0 w B l base ws G sb qb Zb lv sv L S h (H (by omega)) a b A cls C D F E O k e M
  ·exact zd3 w0 w B l base ws G sb qb Zb lv sv L S h (H (by omega)) a b A cls C D F E O
 by_cases c:I=24
 ·subst c;rw[t];exact ZeD w0 w B l base ws G sb qb Zb lv sv L S h (H (by omega)) a b A cls C D F E
 by_cases d:I=25
 ·subst d;rw[v];exact qeD w0 w B l base ws G sb qb Zb lv sv L S h (H (by omega)) a b A cls C D F E
 rw[Qa0 ⟨N,P,R,T,U,V,X,Y,Z,c,d⟩];exact Zdg w0 w B l base ws G sb qb Zb lv sv L S h I a b A cls C D F E (by simpa using N) (by simpa using P) (by simpa using R) (by simpa using T) (by simpa using U) (by simpa using V) (by simpa using X) (by simpa using Y) (by simpa using Z) (by simpa using c) (by simpa using d)
def qac(cs:List qa)(qb Zb:Str)(x:Ins)(L S:List Str):Option (List Str×List Str):=(qD cs Zb x L S).bind fun p=>ZH cs qb x p.1 p.2
theorem zd4(cs:List qa)(qb Zb:Str)(x:Ins)(L S:List Str):((qD cs Zb x L S).bind fun _=>qac cs qb Zb x L S)=qac cs qb Zb x L S:=by
 cases h:qD cs Zb x L S with
 |none=>unfold qac;rw[h];rfl
 |some p=>rfl
theorem qdE{cs:List qa}{f:Frm}(h:qF cs f=0):ql cs f.stack:=(Qt h).2.2.2
theorem zep(w0 w:World)(B:Nat)(l:List qa)(R:Zi w0 w B l)(qb Zb:Str)(x:Ins)(f:Frm)(G H:Value)(X:QG w G H f)(T:qF (Za l) f=0)(I:ZbO x)(Y:x.op=4\/x.op=5->0<=x.a)(J:qb.size<=maxLen)(Z:Zb.size<=maxLen):
 Calls Tryz.prog 106 #[.map (some B),.string qb,.string Zb,qao x,.agg #[G,H]] w (zb4 w (qac (Za l) qb Zb x f.locals f.stack)):=by
 have U:=qdE T;obtain⟨e,V,_,_⟩:=Qt T;rw[<-zd4];have M:x.type.size<=maxLen:=Xf I.type (by decide);obtain⟨E,a,b,A,cls,C⟩:=x;refine Zd4 w B qb Zb E a b A cls C f G H X (by omega) (by omega) _ _ (fun base wx sb lv sv N O D=>?_) (fun L S F base wx sb lv sv N O D=>?_)
 ·exact(qer w0 w B l base wx ⟨R,N,O⟩ sb qb Zb lv sv f.locals f.stack D U ⟨E,a,b,A,cls,C⟩ M Z Y).mono fun _ _ h=>h.post
 ·have c:qac (Za l) qb Zb ⟨E,a,b,A,cls,C⟩ f.locals f.stack=ZH (Za l) qb ⟨E,a,b,A,cls,C⟩ L S:=by unfold qac;rw[F];rfl
  rw[c];refine(Qd3 w0 w B l base wx ⟨R,N,O⟩ sb qb Zb lv sv L S D ⟨E,a,b,A,cls,C⟩ (fun P=>?_) I.type I.cls J).mono fun _ _ h=>h.post
  have d:qD (Za l) Zb ⟨E,a,b,A,cls,C⟩ f.locals f.stack=some (f.locals,f.stack):=QaM (by dsimp only at P ⊢;omega);rw[d]at F;injection F with F
  injection F with _ V
  exact V▸U
theorem Qcx{x:Ins}(h:Qo x=0)(B:x.op=4\/x.op=5):0<=x.a:=by
 unfold Qo at h;split at h
 ·cases h
 ·split at h
  ·cases h
  ·split at h
   ·cases h
   ·rename_i A;unfold QP at A;rw[if_neg (by omega),if_pos B]at A;simp at A;omega
end Go.Proofs.YtmclocdhcblbiaaGreatDoor
