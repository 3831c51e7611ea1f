/- Lemmas; conditions: as each states. -/
import Derived.Test.YtmclocdhcblbiaaGreatDoorZCall
set_option maxHeartbeats 4000000
namespace Go.Proofs.YtmclocdhcblbiaaGreatDoor
open Go.RowKit Go.Shelf Go.Lib Tryz
def qba(cs:List qa)(k t:Str):Bool:=match Zr k with
 |.n=>true
 |.ty (.ar e)=>ZS cs (.ty e) (Zr t)&&(Qm e==zA (Zr t))
 |_=>false
def qP(cs:List qa)(t:Str)(S:List Str):Option (List Str) :=
 if Zg cs t≠0 then none else (zg cs [kI] S).bind fun S1=>(QD S1).bind fun p=>if qba cs p.1 t then some p.2 else none
set_option maxRecDepth 100000
theorem zfh(w0 w:World)(B:Nat)(l:List qa)(base:Nat)(ws:World)(sb:Nat)(qb Zb:Str)(lv sv:Value)(L S:List Str)(T:ql (Za l) S)(xb:Nat)(xv:List Value)(U:SA w0 w B l base ws lv sv sb qb Zb xb xv ws lv sv L S)(t k:Str)(g:t.size<=maxLen)(h:Zg (Za l) t=0)(b c:List Str)(A:zg (Za l) [kI] S=some b)(D:QD b=some (k,c))(x:(k.toList==[78])=true):
 Calls prog 174 #[.pointer (some ⟨sb,0,none⟩),.string t] ws (qf base ws sb B qb Zb lv sv (some (.tuple #[],L,c))):=by
 unfold kI at *;have j:Hid (∀wx,_):=fun wx=>qH wx
 go_enter func174,ntmps174;go_upto_region 3 with(first
  |(go_fit (U.knowsY t g h);rintro e y C;obtain⟨G,rfl,m,n,H,I⟩:=C.ok';(have V:=U.next G H I);(have E:=V.alloc (.cells #[.string ⟨#[73]⟩] 9)))
  |(go_fit (V.takeOY T ⟨#[73]⟩ (Qaj _) _ (by simp) A);rintro e z C;obtain⟨J,rfl,o,p,M,N⟩:=C.ok';(have X:=E.next J M N);(have F:=zi A T))
  |(go_fit (X.refY F D);rintro e s C;obtain⟨O,rfl,q,r,P,R⟩:=C.ok'))
 have Y:=(X.next O P R).over Xb.drew;have Z:=Xh Y;have d:s.drew.cell? ⟨sb,0,none⟩=some (.map (some B)):=Y.step.blk.cell 0;clear U V E X Y G J O H M P I N R C A D F T;refine wp_region_held_drew (S:=fun w'=>w'.cell? ⟨sb,0,none⟩=some (.map (some B))) (by kernel_rfl) d (fun hHeld=>?_);change wpAnyH _ _ _ _ _ 26 _ _ _;iterate 25 ((first|(refine tkN rfl rfl hHeld ?_)|(refine tkY (v:=?_) rfl rfl hHeld ?_ ?_;rotate_left;focus (intro w a;((try dsimp only at a));go_simp;all_goals with_reducible rfl)));try simp only[Act.put,Xa,Xc,Xd])
 refine wpAnyH_ready (rs:=[25]) (fuel:=0) (by kernel_rfl) (by simp) ?_;refine AllReadyH.cons (i:=25) rfl (fun K f=>?_) AllReadyH.nil;go_simp;refine(j.out _).mono ?_;rintro e wq⟨rfl,rfl⟩;refine f.out _ _ d (fun hHeld=>?_);clear f K;try dsimp only[Act.put]
 refine wpAnyH_done (by kernel_rfl) ?_ _;clear hHeld;go_wp2_with fail;go_end0;exact Z.out.done rfl
theorem Zfh(w0 w:World)(B:Nat)(l:List qa)(base:Nat)(ws:World)(sb:Nat)(qb Zb:Str)(lv sv:Value)(L S:List Str)(T:ql (Za l) S)(xb:Nat)(xv:List Value)(U:SA w0 w B l base ws lv sv sb qb Zb xb xv ws lv sv L S)(t k:Str)(c:t.size<=maxLen)(d:Zg (Za l) t=0)(b f:List Str)(A:zg (Za l) [kI] S=some b)(D:QD b=some (k,f))(x:(k.toList==[78])=false)(g:0<k.size)(y:(((k[0]'g).toNat:Int)==91)=false):
 Calls prog 174 #[.pointer (some ⟨sb,0,none⟩),.string t] ws (qf base ws sb B qb Zb lv sv none):=by
 unfold kI at *;have h:Hid (∀wx,_):=fun wx=>Zx wx
 go_enter func174,ntmps174;go_upto_region 3 with(first
  |(go_fit (U.knowsY t c d);rintro e z C;obtain⟨G,rfl,m,n,H,I⟩:=C.ok';(have V:=U.next G H I);(have E:=V.alloc (.cells #[.string ⟨#[73]⟩] 9)))
  |(go_fit (V.takeOY T ⟨#[73]⟩ (Qaj _) _ (by simp) A);rintro e w2 C;obtain⟨J,rfl,o,p,M,N⟩:=C.ok';(have X:=E.next J M N);(have F:=zi A T))
  |(go_fit (X.refY F D);rintro e s C;obtain⟨O,rfl,q,r,P,R⟩:=C.ok'))
 have Y:=(X.next O P R).over Xb.drew;have Z:=Xh Y;have j:s.drew.cell? ⟨sb,0,none⟩=some (.map (some B)):=Y.step.blk.cell 0;clear U V E X Y G J O H M P I N R C A D F T;refine wp_region_held_drew (S:=fun w'=>w'.cell? ⟨sb,0,none⟩=some (.map (some B))) (by kernel_rfl) j (fun hHeld=>?_);change wpAnyH _ _ _ _ _ 26 _ _ _;iterate 25 ((first|(refine tkN rfl rfl hHeld ?_)|(refine tkY (v:=?_) rfl rfl hHeld ?_ ?_;rotate_left;focus (intro w a;((try dsimp only at a));go_simp;all_goals with_reducible rfl)));try simp only[Act.put,Xa,Xc,Xd])
 refine wpAnyH_ready (rs:=[25]) (fuel:=0) (by kernel_rfl) (by simp) ?_;refine AllReadyH.cons (i:=25) rfl (fun K hK=>?_) AllReadyH.nil;go_simp;refine(h.out _).mono ?_;rintro e wq⟨rfl,rfl⟩;exact And.intro rfl (Z.out.stop Xb rfl)
theorem qfh(w0 w:World)(B:Nat)(l:List qa)(base:Nat)(ws:World)(sb:Nat)(qb Zb:Str)(lv sv:Value)(L S:List Str)(X:ql (Za l) S)(xb:Nat)(xv:List Value)(Y:SA w0 w B l base ws lv sv sb qb Zb xb xv ws lv sv L S)(t k:Str)(m:t.size<=maxLen)(g:Zg (Za l) t=0)(h n:List Str)(A:zg (Za l) [kI] S=some h)(E:QD h=some (k,n))(hn:(k.toList==[78])=false)(o:0<k.size)(hf:(((k[0]'o).toNat:Int)==91)=true)(h1:(1:Int)<=(k.size:Int))(Z:Zg (Za l) (k.extract 1 k.size)=0)(p:ZS (Za l) (Zr (k.extract 1 k.size)) (Zr t)=false):
 Calls prog 174 #[.pointer (some ⟨sb,0,none⟩),.string t] ws (qf base ws sb B qb Zb lv sv none):=by
 unfold kI at *;have q:Hid (∀wx,_):=fun wx=>Zx wx
 go_enter func174,ntmps174;go_upto_region 3 with(first
  |(go_fit (Y.knowsY t m g);rintro e w1 D;obtain⟨J,rfl,s,x,M,N⟩:=D.ok';(have a:=Y.next J M N);(have F:=a.alloc (.cells #[.string ⟨#[73]⟩] 9)))
  |(go_fit (a.takeOY X ⟨#[73]⟩ (Qaj _) _ (by simp) A);rintro e w2 D;obtain⟨O,rfl,y,z,P,R⟩:=D.ok';(have b:=F.next O P R);(have G:=zi A X))
  |(go_fit (b.refY G E);rintro e w3 D;obtain⟨T,rfl,aA,aB,U,V⟩:=D.ok'))
 have c:=(b.next T U V).over Xb.drew;have H:=Xh c;have r:w3.drew.cell? ⟨sb,0,none⟩=some (.map (some B)):=c.step.blk.cell 0;clear Y a F b c J O T M P U N R V D A E G X;have j:=Xh (zaH w0 _ B l H.out.env.map (k.extract 1 k.size) t Z g);rw[p]at j;refine wp_region_held_drew (S:=fun w'=>w'.cell? ⟨sb,0,none⟩=some (.map (some B))) (by kernel_rfl) r (fun hHeld=>?_);change wpAnyH _ _ _ _ _ 26 _ _ _;iterate 14 ((first|(refine tkN rfl rfl hHeld ?_)|(refine tkY (v:=?_) rfl rfl hHeld ?_ ?_;rotate_left;focus (intro w C;((try dsimp only at C));go_simp;all_goals with_reducible rfl)));try simp only[Act.put,Xa,Xc,Xd])
 refine wpAnyH_ready (rs:=[14]) (fuel:=11) (by kernel_rfl) (by simp) ?_;refine AllReadyH.cons (i:=14) rfl (fun K f=>?_) AllReadyH.nil;go_simp;refine j.out.mono ?_;rintro e w5⟨rfl,d⟩;have I:=Xh (H.out.over d);refine f.out _ _ (I.out.step.blk.cell 0) (fun hHeld=>?_);clear f K;try dsimp only[Act.put]
 change wpAnyH _ _ _ _ _ 11 _ _ _;iterate 10 ((first|(refine tkN rfl rfl hHeld ?_)|(refine tkY (v:=?_) rfl rfl hHeld ?_ ?_;rotate_left;focus (intro w C;((try dsimp only at C));go_simp;all_goals with_reducible rfl)));try simp only[Act.put,Xa,Xc,Xd])
 refine wpAnyH_ready (rs:=[25]) (fuel:=0) (by kernel_rfl) (by simp) ?_;refine AllReadyH.cons (i:=25) rfl (fun K f=>?_) AllReadyH.nil;go_simp;refine(q.out _).mono ?_;rintro e wq⟨rfl,rfl⟩;exact And.intro rfl (I.out.stop Xb rfl)
theorem qe2(w0 w:World)(B:Nat)(l:List qa)(base:Nat)(ws:World)(sb:Nat)(qb Zb:Str)(lv sv:Value)(L S:List Str)(a:ql (Za l) S)(xb:Nat)(xv:List Value)(b:SA w0 w B l base ws lv sv sb qb Zb xb xv ws lv sv L S)(t k:Str)(q:t.size<=maxLen)(m:Zg (Za l) t=0)(n o:List Str)(E:zg (Za l) [kI] S=some n)(G:QD n=some (k,o))(hn:(k.toList==[78])=false)(r:0<k.size)(hf:(((k[0]'r).toNat:Int)==91)=true)(h1:(1:Int)<=(k.size:Int))(c:Zg (Za l) (k.extract 1 k.size)=0)(s:ZS (Za l) (Zr (k.extract 1 k.size)) (Zr t)=true)(H:∀wx,Calls prog 51 #[.string (k.extract 1 k.size)] wx fun e w'=>e=.returned (.bool true)/\wx=w')(I:∀wx,Calls prog 51 #[.string t] wx fun e w'=>e=.returned (.bool true)/\wx=w'):
 Calls prog 174 #[.pointer (some ⟨sb,0,none⟩),.string t] ws (qf base ws sb B qb Zb lv sv (some (.tuple #[],L,o))):=by
 unfold kI at *;have x:Hid (∀wx,_):=fun wx=>qH wx
 have y:=Xh H;have z:=Xh I;clear H I;go_enter func174,ntmps174;go_upto_region 3 with(first
  |(go_fit (b.knowsY t q m);rintro e w1 F;obtain⟨O,rfl,lv1,sv1,P,R⟩:=F.ok';(have d:=b.next O P R);(have J:=d.alloc (.cells #[.string ⟨#[73]⟩] 9)))
  |(go_fit (d.takeOY a ⟨#[73]⟩ (Qaj _) _ (by simp) E);rintro e w2 F;obtain⟨T,rfl,lv2,sv2,U,V⟩:=F.ok';(have f:=J.next T U V);(have M:=zi E a))
  |(go_fit (f.refY M G);rintro e w3 F;obtain⟨X,rfl,lv3,sv3,Y,Z⟩:=F.ok'))
 have g:=(f.next X Y Z).over Xb.drew;have N:=Xh g;have q3:w3.drew.cell? ⟨sb,0,none⟩=some (.map (some B)):=g.step.blk.cell 0;clear b d J f g O T X P U Y R V Z F E G M a;have p:=Xh (zaH w0 _ B l N.out.env.map (k.extract 1 k.size) t c m);rw[s]at p;refine wp_region_held_drew (S:=fun w'=>w'.cell? ⟨sb,0,none⟩=some (.map (some B))) (by kernel_rfl) q3 (fun hHeld=>?_);change wpAnyH _ _ _ _ _ 26 _ _ _;iterate 14 ((first|(refine tkN rfl rfl hHeld ?_)|(refine tkY (v:=?_) rfl rfl hHeld ?_ ?_;rotate_left;focus (intro w A;((try dsimp only at A));go_simp;all_goals with_reducible rfl)));try simp only[Act.put,Xa,Xc,Xd])
 refine wpAnyH_ready (rs:=[14]) (fuel:=11) (by kernel_rfl) (by simp) ?_;refine AllReadyH.cons (i:=14) rfl (fun K D=>?_) AllReadyH.nil;go_simp;refine p.out.mono ?_;rintro e w5⟨rfl,j⟩;have C:=Xh (N.out.over j);refine D.out _ _ (C.out.step.blk.cell 0) (fun hHeld=>?_);clear D K;try dsimp only[Act.put]
 change wpAnyH _ _ _ _ _ 11 _ _ _;iterate 4 ((first|(refine tkN rfl rfl hHeld ?_)|(refine tkY (v:=?_) rfl rfl hHeld ?_ ?_;rotate_left;focus (intro w A;((try dsimp only at A));go_simp;all_goals with_reducible rfl)));try simp only[Act.put,Xa,Xc,Xd])
 refine tkI (i:=20) (fuel:=6) (v:=?_) rfl (by kernel_rfl) (by kernel_rfl) (by kernel_rfl) (fun _ _ _ h=>h) (by rfl) hHeld ?_ ?_;rotate_left;focus (intro w A;((try dsimp only at A));go_simp;all_goals with_reducible rfl);(try simp only[Act.put]);(try simp only[Xa]);(try simp only[Xd]);(try simp only[Xc])
 refine wpAnyH_ready (rs:=[19]) (fuel:=5) (by kernel_rfl) (by simp) ?_;refine AllReadyH.cons (i:=19) rfl (fun K D=>?_) AllReadyH.nil;go_simp;refine(y.out _).mono ?_;rintro e wr⟨rfl,rfl⟩;refine D.out _ _ (C.out.step.blk.cell 0) (fun hHeld=>?_);clear D K;try dsimp only[Act.put]
 refine wpAnyH_ready (rs:=[21]) (fuel:=4) (by kernel_rfl) (by simp) ?_;refine AllReadyH.cons (i:=21) rfl (fun K D=>?_) AllReadyH.nil;go_simp;refine(z.out _).mono ?_;rintro e wr⟨rfl,rfl⟩;refine D.out _ _ (C.out.step.blk.cell 0) (fun hHeld=>?_);clear D K;try dsimp only[Act.put]
 change wpAnyH _ _ _ _ _ 4 _ _ _;iterate 3 ((first|(refine tkN rfl rfl hHeld ?_)|(refine tkY (v:=?_) rfl rfl hHeld ?_ ?_;rotate_left;focus (intro w A;((try dsimp only at A));go_simp;all_goals with_reducible rfl)));(try simp only[Act.put]);(try simp only[Xa]);(try simp only[Xd]);(try simp only[Xc]))
 refine wpAnyH_ready (rs:=[25]) (fuel:=0) (by kernel_rfl) (by simp) ?_;refine AllReadyH.cons (i:=25) rfl (fun K D=>?_) AllReadyH.nil;go_simp;refine(x.out _).mono ?_;rintro e wq⟨rfl,rfl⟩;refine D.out _ _ (C.out.step.blk.cell 0) (fun hHeld=>?_);clear D K;try dsimp only[Act.put]
 refine wpAnyH_done (by kernel_rfl) ?_ _;clear hHeld;go_wp2_with fail;go_end0;exact C.out.done rfl
theorem Qe2(w0 w:World)(B:Nat)(l:List qa)(base:Nat)(ws:World)(sb:Nat)(qb Zb:Str)(lv sv:Value)(L S:List Str)(a:ql (Za l) S)(xb:Nat)(xv:List Value)(b:SA w0 w B l base ws lv sv sb qb Zb xb xv ws lv sv L S)(t k:Str)(p:t.size<=maxLen)(m:Zg (Za l) t=0)(n q:List Str)(E:zg (Za l) [kI] S=some n)(G:QD n=some (k,q))(hn:(k.toList==[78])=false)(r:0<k.size)(hf:(((k[0]'r).toNat:Int)==91)=true)(h1:(1:Int)<=(k.size:Int))(c:Zg (Za l) (k.extract 1 k.size)=0)(s:ZS (Za l) (Zr (k.extract 1 k.size)) (Zr t)=true)(H:∀wx,Calls prog 51 #[.string (k.extract 1 k.size)] wx fun e w'=>e=.returned (.bool true)/\wx=w')(I:∀wx,Calls prog 51 #[.string t] wx fun e w'=>e=.returned (.bool false)/\wx=w'):
 Calls prog 174 #[.pointer (some ⟨sb,0,none⟩),.string t] ws (qf base ws sb B qb Zb lv sv none):=by
 unfold kI at *;have x:Hid (∀wx,_):=fun wx=>Zx wx
 have y:=Xh H;have z:=Xh I;clear H I;go_enter func174,ntmps174;go_upto_region 3 with(first
  |(go_fit (b.knowsY t p m);rintro e w1 F;obtain⟨O,rfl,lv1,sv1,P,R⟩:=F.ok';(have d:=b.next O P R);(have J:=d.alloc (.cells #[.string ⟨#[73]⟩] 9)))
  |(go_fit (d.takeOY a ⟨#[73]⟩ (Qaj _) _ (by simp) E);rintro e w2 F;obtain⟨T,rfl,lv2,sv2,U,V⟩:=F.ok';(have f:=J.next T U V);(have M:=zi E a))
  |(go_fit (f.refY M G);rintro e w3 F;obtain⟨X,rfl,lv3,sv3,Y,Z⟩:=F.ok'))
 have g:=(f.next X Y Z).over Xb.drew;have N:=Xh g;have q3:w3.drew.cell? ⟨sb,0,none⟩=some (.map (some B)):=g.step.blk.cell 0;clear b d J f g O T X P U Y R V Z F E G M a;have o:=Xh (zaH w0 _ B l N.out.env.map (k.extract 1 k.size) t c m);rw[s]at o;refine wp_region_held_drew (S:=fun w'=>w'.cell? ⟨sb,0,none⟩=some (.map (some B))) (by kernel_rfl) q3 (fun hHeld=>?_);change wpAnyH _ _ _ _ _ 26 _ _ _;iterate 14 ((first|(refine tkN rfl rfl hHeld ?_)|(refine tkY (v:=?_) rfl rfl hHeld ?_ ?_;rotate_left;focus (intro w A;((try dsimp only at A));go_simp;all_goals with_reducible rfl)));try simp only[Act.put,Xa,Xc,Xd])
 refine wpAnyH_ready (rs:=[14]) (fuel:=11) (by kernel_rfl) (by simp) ?_;refine AllReadyH.cons (i:=14) rfl (fun K D=>?_) AllReadyH.nil;go_simp;refine o.out.mono ?_;rintro e w5⟨rfl,j⟩;have C:=Xh (N.out.over j);refine D.out _ _ (C.out.step.blk.cell 0) (fun hHeld=>?_);clear D K;try dsimp only[Act.put]
 change wpAnyH _ _ _ _ _ 11 _ _ _;iterate 4 ((first|(refine tkN rfl rfl hHeld ?_)|(refine tkY (v:=?_) rfl rfl hHeld ?_ ?_;rotate_left;focus (intro w A;((try dsimp only at A));go_simp;all_goals with_reducible rfl)));try simp only[Act.put,Xa,Xc,Xd])
 refine tkI (i:=20) (fuel:=6) (v:=?_) rfl (by kernel_rfl) (by kernel_rfl) (by kernel_rfl) (fun _ _ _ h=>h) (by rfl) hHeld ?_ ?_;rotate_left;focus (intro w A;((try dsimp only at A));go_simp;all_goals with_reducible rfl);(try simp only[Act.put]);(try simp only[Xa]);(try simp only[Xd]);(try simp only[Xc])
 refine wpAnyH_ready (rs:=[19]) (fuel:=5) (by kernel_rfl) (by simp) ?_;refine AllReadyH.cons (i:=19) rfl (fun K D=>?_) AllReadyH.nil;go_simp;refine(y.out _).mono ?_;rintro e wr⟨rfl,rfl⟩;refine D.out _ _ (C.out.step.blk.cell 0) (fun hHeld=>?_);clear D K;try dsimp only[Act.put]
 refine wpAnyH_ready (rs:=[21]) (fuel:=4) (by kernel_rfl) (by simp) ?_;refine AllReadyH.cons (i:=21) rfl (fun K D=>?_) AllReadyH.nil;go_simp;refine(z.out _).mono ?_;rintro e wr⟨rfl,rfl⟩;refine D.out _ _ (C.out.step.blk.cell 0) (fun hHeld=>?_);clear D K;try dsimp only[Act.put]
 change wpAnyH _ _ _ _ _ 4 _ _ _;iterate 3 ((first|(refine tkN rfl rfl hHeld ?_)|(refine tkY (v:=?_) rfl rfl hHeld ?_ ?_;rotate_left;focus (intro w A;((try dsimp only at A));go_simp;all_goals with_reducible rfl)));(try simp only[Act.put]);(try simp only[Xa]);(try simp only[Xd]);(try simp only[Xc]))
 refine wpAnyH_ready (rs:=[25]) (fuel:=0) (by kernel_rfl) (by simp) ?_;refine AllReadyH.cons (i:=25) rfl (fun K D=>?_) AllReadyH.nil;go_simp;refine(x.out _).mono ?_;rintro e wq⟨rfl,rfl⟩;exact And.intro rfl (C.out.stop Xb rfl)
theorem ze3(w0 w:World)(B:Nat)(l:List qa)(base:Nat)(ws:World)(sb:Nat)(qb Zb:Str)(lv sv:Value)(L S:List Str)(a:ql (Za l) S)(xb:Nat)(xv:List Value)(b:SA w0 w B l base ws lv sv sb qb Zb xb xv ws lv sv L S)(t k:Str)(p:t.size<=maxLen)(m:Zg (Za l) t=0)(n q:List Str)(E:zg (Za l) [kI] S=some n)(G:QD n=some (k,q))(hn:(k.toList==[78])=false)(r:0<k.size)(hf:(((k[0]'r).toNat:Int)==91)=true)(h1:(1:Int)<=(k.size:Int))(c:Zg (Za l) (k.extract 1 k.size)=0)(s:ZS (Za l) (Zr (k.extract 1 k.size)) (Zr t)=true)(H:∀wx,Calls prog 51 #[.string (k.extract 1 k.size)] wx fun e w'=>e=.returned (.bool false)/\wx=w')(I:∀wx,Calls prog 51 #[.string t] wx fun e w'=>e=.returned (.bool true)/\wx=w'):
 Calls prog 174 #[.pointer (some ⟨sb,0,none⟩),.string t] ws (qf base ws sb B qb Zb lv sv none):=by
 unfold kI at *;have x:Hid (∀wx,_):=fun wx=>Zx wx
 have y:=Xh H;have z:=Xh I;clear H I;go_enter func174,ntmps174;go_upto_region 3 with(first
  |(go_fit (b.knowsY t p m);rintro e w1 F;obtain⟨O,rfl,lv1,sv1,P,R⟩:=F.ok';(have d:=b.next O P R);(have J:=d.alloc (.cells #[.string ⟨#[73]⟩] 9)))
  |(go_fit (d.takeOY a ⟨#[73]⟩ (Qaj _) _ (by simp) E);rintro e w2 F;obtain⟨T,rfl,lv2,sv2,U,V⟩:=F.ok';(have f:=J.next T U V);(have M:=zi E a))
  |(go_fit (f.refY M G);rintro e w3 F;obtain⟨X,rfl,lv3,sv3,Y,Z⟩:=F.ok'))
 have g:=(f.next X Y Z).over Xb.drew;have N:=Xh g;have q3:w3.drew.cell? ⟨sb,0,none⟩=some (.map (some B)):=g.step.blk.cell 0;clear b d J f g O T X P U Y R V Z F E G M a;have o:=Xh (zaH w0 _ B l N.out.env.map (k.extract 1 k.size) t c m);rw[s]at o;refine wp_region_held_drew (S:=fun w'=>w'.cell? ⟨sb,0,none⟩=some (.map (some B))) (by kernel_rfl) q3 (fun hHeld=>?_);change wpAnyH _ _ _ _ _ 26 _ _ _;iterate 14 ((first|(refine tkN rfl rfl hHeld ?_)|(refine tkY (v:=?_) rfl rfl hHeld ?_ ?_;rotate_left;focus (intro w A;((try dsimp only at A));go_simp;all_goals with_reducible rfl)));try simp only[Act.put,Xa,Xc,Xd])
 refine wpAnyH_ready (rs:=[14]) (fuel:=11) (by kernel_rfl) (by simp) ?_;refine AllReadyH.cons (i:=14) rfl (fun K D=>?_) AllReadyH.nil;go_simp;refine o.out.mono ?_;rintro e w5⟨rfl,j⟩;have C:=Xh (N.out.over j);refine D.out _ _ (C.out.step.blk.cell 0) (fun hHeld=>?_);clear D K;try dsimp only[Act.put]
 change wpAnyH _ _ _ _ _ 11 _ _ _;iterate 4 ((first|(refine tkN rfl rfl hHeld ?_)|(refine tkY (v:=?_) rfl rfl hHeld ?_ ?_;rotate_left;focus (intro w A;((try dsimp only at A));go_simp;all_goals with_reducible rfl)));try simp only[Act.put,Xa,Xc,Xd])
 refine tkI (i:=20) (fuel:=6) (v:=?_) rfl (by kernel_rfl) (by kernel_rfl) (by kernel_rfl) (fun _ _ _ h=>h) (by rfl) hHeld ?_ ?_;rotate_left;focus (intro w A;((try dsimp only at A));go_simp;all_goals with_reducible rfl);(try simp only[Act.put]);(try simp only[Xa]);(try simp only[Xd]);(try simp only[Xc])
 refine wpAnyH_ready (rs:=[19]) (fuel:=5) (by kernel_rfl) (by simp) ?_;refine AllReadyH.cons (i:=19) rfl (fun K D=>?_) AllReadyH.nil;go_simp;refine(y.out _).mono ?_;rintro e wr⟨rfl,rfl⟩;refine D.out _ _ (C.out.step.blk.cell 0) (fun hHeld=>?_);clear D K;try dsimp only[Act.put]
 refine wpAnyH_ready (rs:=[21]) (fuel:=4) (by kernel_rfl) (by simp) ?_;refine AllReadyH.cons (i:=21) rfl (fun K D=>?_) AllReadyH.nil;go_simp;refine(z.out _).mono ?_;rintro e wr⟨rfl,rfl⟩;refine D.out _ _ (C.out.step.blk.cell 0) (fun hHeld=>?_);clear D K;try dsimp only[Act.put]
 change wpAnyH _ _ _ _ _ 4 _ _ _;iterate 3 ((first|(refine tkN rfl rfl hHeld ?_)|(refine tkY (v:=?_) rfl rfl hHeld ?_ ?_;rotate_left;focus (intro w A;((try dsimp only at A));go_simp;all_goals with_reducible rfl)));(try simp only[Act.put]);(try simp only[Xa]);(try simp only[Xd]);(try simp only[Xc]))
 refine wpAnyH_ready (rs:=[25]) (fuel:=0) (by kernel_rfl) (by simp) ?_;refine AllReadyH.cons (i:=25) rfl (fun K D=>?_) AllReadyH.nil;go_simp;refine(x.out _).mono ?_;rintro e wq⟨rfl,rfl⟩;exact And.intro rfl (C.out.stop Xb rfl)
theorem Ze3(w0 w:World)(B:Nat)(l:List qa)(base:Nat)(ws:World)(sb:Nat)(qb Zb:Str)(lv sv:Value)(L S:List Str)(a:ql (Za l) S)(xb:Nat)(xv:List Value)(b:SA w0 w B l base ws lv sv sb qb Zb xb xv ws lv sv L S)(t k:Str)(q:t.size<=maxLen)(m:Zg (Za l) t=0)(n o:List Str)(E:zg (Za l) [kI] S=some n)(G:QD n=some (k,o))(hn:(k.toList==[78])=false)(r:0<k.size)(hf:(((k[0]'r).toNat:Int)==91)=true)(h1:(1:Int)<=(k.size:Int))(c:Zg (Za l) (k.extract 1 k.size)=0)(s:ZS (Za l) (Zr (k.extract 1 k.size)) (Zr t)=true)(H:∀wx,Calls prog 51 #[.string (k.extract 1 k.size)] wx fun e w'=>e=.returned (.bool false)/\wx=w')(I:∀wx,Calls prog 51 #[.string t] wx fun e w'=>e=.returned (.bool false)/\wx=w'):
 Calls prog 174 #[.pointer (some ⟨sb,0,none⟩),.string t] ws (qf base ws sb B qb Zb lv sv (some (.tuple #[],L,o))):=by
 unfold kI at *;have x:Hid (∀wx,_):=fun wx=>qH wx
 have y:=Xh H;have z:=Xh I;clear H I;go_enter func174,ntmps174;go_upto_region 3 with(first
  |(go_fit (b.knowsY t q m);rintro e w1 F;obtain⟨O,rfl,lv1,sv1,P,R⟩:=F.ok';(have d:=b.next O P R);(have J:=d.alloc (.cells #[.string ⟨#[73]⟩] 9)))
  |(go_fit (d.takeOY a ⟨#[73]⟩ (Qaj _) _ (by simp) E);rintro e w2 F;obtain⟨T,rfl,lv2,sv2,U,V⟩:=F.ok';(have f:=J.next T U V);(have M:=zi E a))
  |(go_fit (f.refY M G);rintro e w3 F;obtain⟨X,rfl,lv3,sv3,Y,Z⟩:=F.ok'))
 have g:=(f.next X Y Z).over Xb.drew;have N:=Xh g;have q3:w3.drew.cell? ⟨sb,0,none⟩=some (.map (some B)):=g.step.blk.cell 0;clear b d J f g O T X P U Y R V Z F E G M a;have p:=Xh (zaH w0 _ B l N.out.env.map (k.extract 1 k.size) t c m);rw[s]at p;refine wp_region_held_drew (S:=fun w'=>w'.cell? ⟨sb,0,none⟩=some (.map (some B))) (by kernel_rfl) q3 (fun hHeld=>?_);change wpAnyH _ _ _ _ _ 26 _ _ _;iterate 14 ((first|(refine tkN rfl rfl hHeld ?_)|(refine tkY (v:=?_) rfl rfl hHeld ?_ ?_;rotate_left;focus (intro w A;((try dsimp only at A));go_simp;all_goals with_reducible rfl)));try simp only[Act.put,Xa,Xc,Xd])
 refine wpAnyH_ready (rs:=[14]) (fuel:=11) (by kernel_rfl) (by simp) ?_;refine AllReadyH.cons (i:=14) rfl (fun K D=>?_) AllReadyH.nil;go_simp;refine p.out.mono ?_;rintro e w5⟨rfl,j⟩;have C:=Xh (N.out.over j);refine D.out _ _ (C.out.step.blk.cell 0) (fun hHeld=>?_);clear D K;try dsimp only[Act.put]
 change wpAnyH _ _ _ _ _ 11 _ _ _;iterate 4 ((first|(refine tkN rfl rfl hHeld ?_)|(refine tkY (v:=?_) rfl rfl hHeld ?_ ?_;rotate_left;focus (intro w A;((try dsimp only at A));go_simp;all_goals with_reducible rfl)));try simp only[Act.put,Xa,Xc,Xd])
 refine tkI (i:=20) (fuel:=6) (v:=?_) rfl (by kernel_rfl) (by kernel_rfl) (by kernel_rfl) (fun _ _ _ h=>h) (by rfl) hHeld ?_ ?_;rotate_left;focus (intro w A;((try dsimp only at A));go_simp;all_goals with_reducible rfl);(try simp only[Act.put]);(try simp only[Xa]);(try simp only[Xd]);(try simp only[Xc])
 refine wpAnyH_ready (rs:=[19]) (fuel:=5) (by kernel_rfl) (by simp) ?_;refine AllReadyH.cons (i:=19) rfl (fun K D=>?_) AllReadyH.nil;go_simp;refine(y.out _).mono ?_;rintro e wr⟨rfl,rfl⟩;refine D.out _ _ (C.out.step.blk.cell 0) (fun hHeld=>?_);clear D K;try dsimp only[Act.put]
 refine wpAnyH_ready (rs:=[21]) (fuel:=4) (by kernel_rfl) (by simp) ?_;refine AllReadyH.cons (i:=21) rfl (fun K D=>?_) AllReadyH.nil;go_simp;refine(z.out _).mono ?_;rintro e wr⟨rfl,rfl⟩;refine D.out _ _ (C.out.step.blk.cell 0) (fun hHeld=>?_);clear D K;try dsimp only[Act.put]
 change wpAnyH _ _ _ _ _ 4 _ _ _;iterate 3 ((first|(refine tkN rfl rfl hHeld ?_)|(refine tkY (v:=?_) rfl rfl hHeld ?_ ?_;rotate_left;focus (intro w A;((try dsimp only at A));go_simp;all_goals with_reducible rfl)));(try simp only[Act.put]);(try simp only[Xa]);(try simp only[Xd]);(try simp only[Xc]))
 refine wpAnyH_ready (rs:=[25]) (fuel:=0) (by kernel_rfl) (by simp) ?_;refine AllReadyH.cons (i:=25) rfl (fun K D=>?_) AllReadyH.nil;go_simp;refine(x.out _).mono ?_;rintro e wq⟨rfl,rfl⟩;refine D.out _ _ (C.out.step.blk.cell 0) (fun hHeld=>?_);clear D K;try dsimp only[Act.put]
 refine wpAnyH_done (by kernel_rfl) ?_ _;clear hHeld;go_wp2_with fail;go_end0;exact C.out.done rfl
theorem qa1{x:Ty}:qe x≠[78]/\qe x≠[84]:=by cases x<;>simp[qe]
theorem QbU{cs:List qa}{k:Str}{x:Ty}(C:qe x=lst k)(A:QaM x=true)(B:qD x<=3)(D:ZP cs x=true):Zg cs k=0:=by
 unfold Zg;rw[<-C,if_neg (by rintro(h|h);exact qa1.1 h;exact qa1.2 h),Zbi A B,if_neg (by decide),qcy A B];rcases Qb3 x D with h|h
 ·rw[h];rfl
 ·rw[if_pos h];split<;>rfl
theorem zcx{cs:List qa}{k:Str}{x:Ty}(A:qe x=lst k)(h:Zg cs k=0):qa3 k x/\ZP cs x=true:=by
 have C:qa3 k x:=by
  unfold Zg at h;rw[if_neg (by rw[<-A];rintro(h|h);exact qa1.1 h;exact qa1.2 h)]at h;split at h
  ·cases h
  ·rename_i F;obtain⟨y,B⟩:=Q8 (t:=k) (by simpa using F);have:=Qbh (B.text.trans A.symm);subst this;exact B
 obtain⟨X,D,E⟩:=QT h;have:X=.ty x:=Zbe (D.trans A.symm);subst this;exact⟨C,E⟩
theorem Zd3{cs:List qa}{k:Str}{e:Ty}(A:qe (.ar e)=lst k)(h:Zg cs k=0):Zg cs (k.extract 1 k.size)=0:=by
 obtain⟨B,D⟩:=zcx A h;have C:=B.deep;exact QbU (zaG A).1 B.name (by unfold qD at C;omega) D
theorem Qaw{S S':List Str}{k:Str}(h:QD S=some (k,S')):zC S=some (k,S')/\zaW (Zr k)=true:=by
 unfold QD at h;cases A:zC S with
 |none=>rw[A]at h;cases h
 |some p =>
  obtain⟨E,F⟩:=p;rw[A,Option.bind_some]at h;dsimp only at h;split at h
  ·rename_i B;injection h with h
   injection h with C D
   subst C D;exact⟨rfl,B⟩
  ·cases h
theorem Qfh{cs:List qa}{k t:Str}(h:Zr k=.n):qba cs k t=true:=by unfold qba;rw[h]
theorem zfi{cs:List qa}{k t c:Str}(h:Zr k=.ty (.cl c)):qba cs k t=false:=by unfold qba;rw[h]
theorem Zfi{cs:List qa}{k t m:Str}{e:Ty}(h:Zr k=.ty (.ar e))(g:Zr m=.ty e):qba cs k t=(ZS cs (Zr m) (Zr t)&&(Qm e==zA (Zr t))):=by unfold qba;rw[h,g]
theorem Zc2(w0 w:World)(B:Nat)(l:List qa)(base:Nat)(ws:World)(hE:Env w0 w B l base ws)(sb:Nat)(qb Zb:Str)(lv sv:Value)(L S:List Str)(h:Qh base ws sb B qb Zb lv sv L S)(J:ql (Za l) S)(xb:Nat)(xv:List Value)(hb:Blk ws xb 34 xv)(hx:Qa6 sb lv sv xb)(t:Str)(M:t.size<=maxLen):
 Calls prog 174 #[.pointer (some ⟨sb,0,none⟩),.string t] ws (qf base ws sb B qb Zb lv sv ((qP (Za l) t S).map fun S'=>(.tuple #[],L,S'))):=by
 have F:SA w0 w B l base ws lv sv sb qb Zb xb xv ws lv sv L S:=⟨hE,h,hb,hx,Xb,Kp.below Xb⟩;unfold qP;by_cases G:Zg (Za l) t=0
 ·rw[if_neg (by rw[G];decide)];cases A:zg (Za l) [kI] S with
  |none =>
   rw[Option.bind_none,Option.map_none];unfold kI at A;go_enter func174,ntmps174;go_wp2_with (first
    |(go_fit (F.knowsY t M G);rintro e w1 I;obtain⟨H,rfl,v,y,T,D⟩:=I.ok';(have d:=F.next H T D);(have R:=d.alloc (.cells #[.string ⟨#[73]⟩] 9)))
    |(go_fit (d.takeON J ⟨#[73]⟩ (Qaj _) _ (by simp) A);rintro e w2 I;obtain⟨U,rfl⟩:=I.no'))
   exact And.intro rfl (R.stop U rfl)
  |some P =>
   rw[Option.bind_some];have f:=zi A J;cases E:QD P with
   |none =>
    rw[Option.bind_none,Option.map_none];unfold kI at A;go_enter func174,ntmps174;go_wp2_with (first
     |(go_fit (F.knowsY t M G);rintro e w1 I;obtain⟨H,rfl,v,y,T,D⟩:=I.ok';(have d:=F.next H T D);(have R:=d.alloc (.cells #[.string ⟨#[73]⟩] 9)))
     |(go_fit (d.takeOY J ⟨#[73]⟩ (Qaj _) _ (by simp) A);rintro e w2 I;obtain⟨U,rfl,lv2,sv2,z,aA⟩:=I.ok';(have T2:=R.next U z aA))
     |(go_fit (T2.refN f E);rintro e w3 I;obtain⟨aB,rfl⟩:=I.no'))
    exact And.intro rfl (T2.stop aB rfl)
   |some p =>
    obtain⟨k,V⟩:=p;rw[Option.bind_some];dsimp only;obtain⟨hp,r⟩:=Qaw E;obtain⟨o,_⟩:=Qal hp f;obtain⟨X,b,_⟩:=QT o;have N:=Qas b .n;rw[show Qo Kd.n=[78] from rfl]at N;have O:=ZL b;rw[O]at r;cases X with
    |n =>
     rw[Xj rfl]at N;rw[Qfh O];exact zfh w0 w B l base ws sb qb Zb lv sv L S J xb xv F t k M G P V A E N
    |t=>cases r
    |ty x =>
     rw[Xi (by intro h;cases h)]at N;have C:0<k.size:=by
      have h1:(lst k).length=k.size:=rfl;have h2:lst k=qe x:=b.symm;rw[<-h1,h2];cases x<;>simp[qe]
     have Z:=qb2 (k:=k) (x:=x) b C;cases x with
     |i=>cases r
     |j=>cases r
     |cl c =>
      rw[zfi O];exact Zfh w0 w B l base ws sb qb Zb lv sv L S J xb xv F t k M G P V A E N C Z
     |ar e =>
      obtain⟨q,_,hs1⟩:=zaG b;have D:=Zd3 b o;have s:Zr (k.extract 1 k.size)=.ty e:=ZL (x:=.ty e) q;rw[Zfi O s];cases m:ZS (Za l) (Zr (k.extract 1 k.size)) (Zr t) with
      |false =>
       rw[Bool.false_and,if_neg (by decide)];exact qfh w0 w B l base ws sb qb Zb lv sv L S J xb xv F t k M G P V A E N C Z (by omega) D m
      |true =>
       rw[Bool.true_and];obtain⟨Y,hY,_⟩:=QT G;have a:∀wx,_:=fun wx=>QL (k.extract 1 k.size) (.ty e) wx q
       have g:∀wx,_:=fun wx=>QL t Y wx hY
       rw[show zA (.ty e)=Qm e from rfl]at a;rw[ZL hY];cases hu:Qm e<;>cases hv:zA Y<;>rw[hu]at a<;>rw[hv]at g
       ·exact Ze3 w0 w B l base ws sb qb Zb lv sv L S J xb xv F t k M G P V A E N C Z (by omega) D m a g
       ·exact ze3 w0 w B l base ws sb qb Zb lv sv L S J xb xv F t k M G P V A E N C Z (by omega) D m a g
       ·exact Qe2 w0 w B l base ws sb qb Zb lv sv L S J xb xv F t k M G P V A E N C Z (by omega) D m a g
       ·exact qe2 w0 w B l base ws sb qb Zb lv sv L S J xb xv F t k M G P V A E N C Z (by omega) D m a g
 ·rw[if_pos G,Option.map_none];go_enter func174,ntmps174;go_wp2_with (first
   |(go_fit (F.knowsN t M G);rintro e w1 I;obtain⟨H,rfl⟩:=I.no'))
  exact And.intro rfl (F.stop H rfl)
def knK{α:Type}(cs:List qa)(t:Str)(o:Option α):Option α:=if Zg cs t≠0 then none else o
theorem ZcH{α:Type}{cs:List qa}{t:Str}{o:Option α}(h:¬Zg cs t=0):knK cs t o=none:=by unfold knK;rw[if_pos h]
theorem qag{α:Type}{cs:List qa}{t:Str}{o:Option α}(h:¬¬Zg cs t=0):knK cs t o=o:=by unfold knK;rw[if_neg h]
def zat(k:Str):Bool:=(k.toList==[78])||Lib.hasPrefix k.toList [91]
def zbr(cs:List qa)(cls:Str)(L S:List Str):Option (List Str×List Str):=if (Qd cs cls).face=true then none else qq L S (Qc cls)
def qJ(cs:List qa)(qb:Str)(x:Ins)(L S:List Str):Option (List Str×List Str) :=
 if x.op=15 then knK cs (Qc x.cls) (zbr cs x.cls L S)
 else if x.op=16 then (qN cs x.cls x.name).bind fun t=>(zg cs [Qc x.cls] S).bind fun S1=>qq L S1 t
 else if x.op=17 then (qN cs x.cls x.name).bind fun t=>(zg cs [t,Qc x.cls] S).map fun S1=>(L,S1)
 else if x.op=18 then knK cs x.type ((zg cs [kI] S).bind fun S1=>qq L S1 (Q5 x.type))
 else if x.op=19 then (QD S).bind fun p=>if zat p.1=true then qq L p.2 kI else none
 else if x.op=20 then (qP cs x.type S).bind fun S1=>qq L S1 x.type
 else if x.op=21 then knK cs x.type ((zg cs [x.type] S).bind fun S1=>(qP cs x.type S1).map fun S2=>(L,S2))
 else if x.op=22 then knK cs x.type ((QD S).bind fun p=>qq L p.2 x.type)
 else if x.op=23 then knK cs x.type ((QD S).bind fun p=>qq L p.2 kI)
 else if x.op=24 then Zar cs qb x.cls x.name x.type false L S
 else if x.op=25 then Zar cs qb x.cls x.name x.type true L S
 else some (L,S)
theorem qbY{cs:List qa}{t:Str}{S S':List Str}(h:qP cs t S=some S')(C:ql cs S):ql cs S':=by
 unfold qP at h;split at h
 ·cases h
 ·cases A:zg cs [kI] S with
  |none=>rw[A]at h;cases h
  |some D =>
   rw[A,Option.bind_some]at h;cases B:QD D with
   |none=>rw[B]at h;cases h
   |some p =>
    obtain⟨k,E⟩:=p;rw[B,Option.bind_some]at h;dsimp only at h;split at h
    ·injection h with h
     subst h;exact(Qal (Qaw B).1 (zi A C)).2
    ·cases h
variable {w0 w:World} {B:Nat} {l:List qa} {base:Nat} {ws:World} {lv0 sv0:Value} {sb:Nat} {qb Zb:Str} {xb:Nat} {xv:List Value} {wx:World} {lv sv:Value} {L S:List Str}
theorem SA.arrayN(T:SA w0 w B l base ws lv0 sv0 sb qb Zb xb xv wx lv sv L S)(A:ql (Za l) S)(t:Str)(C:t.size<=maxLen)(D:qP (Za l) t S=none):Calls prog 174 #[.pointer (some ⟨sb,0,none⟩),.string t] wx (qf base wx sb B qb Zb lv sv none):=by
 have h:=Zc2 w0 w B l base wx T.env sb qb Zb lv sv L S T.step A xb xv T.box T.apart t C;rw[D]at h;exact h
theorem SA.arrayY(T:SA w0 w B l base ws lv0 sv0 sb qb Zb xb xv wx lv sv L S)(A:ql (Za l) S)(t:Str)(C:t.size<=maxLen){S':List Str}(D:qP (Za l) t S=some S'):Calls prog 174 #[.pointer (some ⟨sb,0,none⟩),.string t] wx (qf base wx sb B qb Zb lv sv (some (.tuple #[],L,S'))):=by
 have h:=Zc2 w0 w B l base wx T.env sb qb Zb lv sv L S T.step A xb xv T.box T.apart t C;rw[D]at h;exact h
theorem SA.fieldN(T:SA w0 w B l base ws lv0 sv0 sb qb Zb xb xv wx lv sv L S)(C a b:Int)(A cls name:Str)(D:cls.size<=1048576)(E:qN (Za l) cls name=none):Calls prog 173 #[.pointer (some ⟨sb,0,none⟩),.agg #[.int .i64 C,.int .i64 a,.int .i64 b,.string A,.string cls,.string name]] wx (qf base wx sb B qb Zb lv sv none):=by
 have h:=ZcP w0 w B l base wx T.env sb qb Zb lv sv L S T.step C a b A cls name D;rw[E]at h;exact h
theorem SA.fieldY(T:SA w0 w B l base ws lv0 sv0 sb qb Zb xb xv wx lv sv L S)(C a b:Int)(A cls name:Str)(D:cls.size<=1048576){t:Str}(E:qN (Za l) cls name=some t):Calls prog 173 #[.pointer (some ⟨sb,0,none⟩),.agg #[.int .i64 C,.int .i64 a,.int .i64 b,.string A,.string cls,.string name]] wx (qf base wx sb B qb Zb lv sv (some (.string t,L,S))):=by
 have h:=ZcP w0 w B l base wx T.env sb qb Zb lv sv L S T.step C a b A cls name D;rw[E]at h;exact h
theorem zbV{cs:List qa}{c n t:Str}(h:qN cs c n=some t):Zg cs (Qc c)=0/\Zg cs t=0:=by
 unfold qN at h;split at h
 ·cases h
 ·rename_i B;refine⟨Decidable.not_not.1 B,?_⟩;cases A:zaM cs c n with
  |none=>rw[A]at h;cases h
  |some p =>
   obtain⟨d,f⟩:=p;rw[A]at h;dsimp only at h;split at h
   ·rename_i C;injection h with h
    subst h;exact C
   ·cases h
theorem ZeD(w0 w:World)(B:Nat)(l:List qa)(base:Nat)(ws:World)(p:Env w0 w B l base ws)(sb:Nat)(qb Zb:Str)(lv sv:Value)(L S:List Str)(h:Qh base ws sb B qb Zb lv sv L S)(O:ql (Za l) S)(a b:Int)(A cls name:Str)(_hty:A.size<=1048576)(J:cls.size<=1048576)(_hfr:qb.size<=maxLen):
 Calls prog 139 #[.pointer (some ⟨sb,0,none⟩),.agg #[.int .i64 16,.int .i64 a,.int .i64 b,.string A,.string cls,.string name]] ws (qf base ws sb B qb Zb lv sv (Zm ((qN (Za l) cls name).bind fun t=>(zg (Za l) [Qc cls] S).bind fun n=>qq L n t))):=by
 have E:SA w0 w B l base ws lv sv sb qb Zb ws.heap.size [.int .i64 16,.int .i64 a,.int .i64 b,.string A,.string cls,.string name] (ws.alloc (.cells #[.int .i64 16,.int .i64 a,.int .i64 b,.string A,.string cls,.string name] 34)) lv sv L S:=SA.new p h _;obtain⟨R,T,U,V,X,Y⟩:=E.cells;obtain⟨v,C⟩:∃r,Zm ((qN (Za l) cls name).bind fun t=>(zg (Za l) [Qc cls] S).bind fun n=>qq L n t)=r:=⟨_,rfl⟩;have M:=Xh C;rw[C];have P:Hid (∀wx,_):=fun wx=>ZZ cls wx (Xf J (by decide))
 have F:(Qc cls).size<=maxLen:=by rw[Zao];exact Xf (Nat.add_le_add_right J 2) (by decide)
 clear C p h;go_enter func139,ntmps139;go_wp2_with (first
  |(go_at_call 173;rcases hq0:qN (Za l) cls name with _|o;(with_reducible refine(E.fieldN 16 a b A cls name J hq0).mono ?_);(rintro e w1 D;obtain⟨I,rfl⟩:=D.no';exact And.intro rfl (E.stop I (M.out.symm.trans (qd (zq hq0)))));(with_reducible refine(E.fieldY 16 a b A cls name J hq0).mono ?_);rintro e w1 D;obtain⟨Z,rfl,x,y,c,d⟩:=D.ok';(have N:=E.next Z c d);obtain⟨R,T,U,V,X,Y⟩:=N.cells)
  |(go_at_call 169;(have G:=N.alloc (.cells #[.string (Qc cls)] 9));rcases hq1:zg (Za l) [(Qc cls)] S with _|S2;(with_reducible refine(N.takeON O (Qc cls) F _ (by simp) hq1).mono ?_);(rintro e w2 D;obtain⟨I,rfl⟩:=D.no';exact And.intro rfl (G.stop I (M.out.symm.trans (qd ((Zf hq0).trans (zq hq1))))));(with_reducible refine(N.takeOY O (Qc cls) F _ (by simp) hq1).mono ?_);rintro e w2 D;obtain⟨f,rfl,z,aA,g,i⟩:=D.ok';(have H:=G.next f g i);(have s:=zi hq1 O);obtain⟨R,T,U,V,X,Y⟩:=H.cells)
  |(go_at_call 166;rcases hq2:QP S2 o with _|S3;(with_reducible refine(H.putN o hq2).mono ?_);(rintro e w3 D;obtain⟨I,rfl⟩:=D.no';exact And.intro rfl (H.stop I (M.out.symm.trans (qd ((Zf hq0).trans ((Zf hq1).trans (qA hq2)))))));(with_reducible refine(H.putY o hq2).mono ?_);rintro e w3 D;obtain⟨j,rfl,aB,aC,k,m⟩:=D.ok';(have q:=H.next j k m);obtain⟨R,T,U,V,X,Y⟩:=q.cells)
  |(go_fit (P.out _);rintro e wq⟨rfl,rfl⟩))
 go_end0;exact q.done (M.out.symm.trans (Zj ((Zf hq0).trans ((Zf hq1).trans (Zz hq2)))))
theorem qeD(w0 w:World)(B:Nat)(l:List qa)(base:Nat)(ws:World)(o:Env w0 w B l base ws)(sb:Nat)(qb Zb:Str)(lv sv:Value)(L S:List Str)(h:Qh base ws sb B qb Zb lv sv L S)(O:ql (Za l) S)(a b:Int)(A cls name:Str)(P:A.size<=1048576)(_hc:cls.size<=1048576)(_hfr:qb.size<=maxLen):
 Calls prog 139 #[.pointer (some ⟨sb,0,none⟩),.agg #[.int .i64 18,.int .i64 a,.int .i64 b,.string A,.string cls,.string name]] ws (qf base ws sb B qb Zb lv sv (Zm (knK (Za l) A ((zg (Za l) [kI] S).bind fun n=>qq L n (Q5 A))))):=by
 have F:SA w0 w B l base ws lv sv sb qb Zb ws.heap.size [.int .i64 18,.int .i64 a,.int .i64 b,.string A,.string cls,.string name] (ws.alloc (.cells #[.int .i64 18,.int .i64 a,.int .i64 b,.string A,.string cls,.string name] 34)) lv sv L S:=SA.new o h _;obtain⟨R,T,U,V,X,Y⟩:=F.cells;obtain⟨t,D⟩:∃r,Zm (knK (Za l) A ((zg (Za l) [kI] S).bind fun n=>qq L n (Q5 A)))=r:=⟨_,rfl⟩;have M:=Xh D;rw[D];have G:A.size<=maxLen:=Xf P (by decide);unfold kI at *;have p:(⟨#[91]⟩:Str)++A=Q5 A:=rfl;clear D o h;go_enter func139,ntmps139;go_wp2_with (first
  |(go_at_call 172;by_cases C:¬Zg (Za l) A=0;(with_reducible refine(F.knowsN A G C).mono ?_);(rintro e w1 E;obtain⟨J,rfl⟩:=E.no';exact And.intro rfl (F.stop J (M.out.symm.trans (qd (ZcH C)))));(with_reducible refine(F.knowsY A G (Decidable.not_not.1 C)).mono ?_);rintro e w1 E;obtain⟨Z,rfl,v,x,c,d⟩:=E.ok';(have N:=F.next Z c d);obtain⟨R,T,U,V,X,Y⟩:=N.cells)
  |(go_at_call 169;(have H:=N.alloc (.cells #[.string ⟨#[73]⟩] 9));rcases hq1:zg (Za l) [⟨#[73]⟩] S with _|S2;(with_reducible refine(N.takeON O ⟨#[73]⟩ (Qaj _) _ (by simp) hq1).mono ?_);(rintro e w2 E;obtain⟨J,rfl⟩:=E.no';exact And.intro rfl (H.stop J (M.out.symm.trans (qd ((qag C).trans (zq hq1))))));(with_reducible refine(N.takeOY O ⟨#[73]⟩ (Qaj _) _ (by simp) hq1).mono ?_);rintro e w2 E;obtain⟨f,rfl,y,z,g,i⟩:=E.ok';(have I:=H.next f g i);(have s:=zi hq1 O);obtain⟨R,T,U,V,X,Y⟩:=I.cells)
  |(go_at_call 166;rcases hq2:QP S2 (Q5 A) with _|S3;(with_reducible refine(I.putN (Q5 A) hq2).mono ?_);(rintro e w3 E;obtain⟨J,rfl⟩:=E.no';exact And.intro rfl (I.stop J (M.out.symm.trans (qd ((qag C).trans ((Zf hq1).trans (qA hq2)))))));(with_reducible refine(I.putY (Q5 A) hq2).mono ?_);rintro e w3 E;obtain⟨j,rfl,aA,aB,k,m⟩:=E.ok';(have q:=I.next j k m);obtain⟨R,T,U,V,X,Y⟩:=q.cells))
 go_end0;exact q.done (M.out.symm.trans (Zj ((qag C).trans ((Zf hq1).trans (Zz hq2)))))
theorem QeD(w0 w:World)(B:Nat)(l:List qa)(base:Nat)(ws:World)(X:Env w0 w B l base ws)(sb:Nat)(qb Zb:Str)(lv sv:Value)(L S:List Str)(h:Qh base ws sb B qb Zb lv sv L S)(I:ql (Za l) S)(a b:Int)(A cls name:Str)(J:A.size<=1048576)(_hc:cls.size<=1048576)(_hfr:qb.size<=maxLen):
 Calls prog 139 #[.pointer (some ⟨sb,0,none⟩),.agg #[.int .i64 20,.int .i64 a,.int .i64 b,.string A,.string cls,.string name]] ws (qf base ws sb B qb Zb lv sv (Zm ((qP (Za l) A S).bind fun H=>qq L H A))):=by
 have E:SA w0 w B l base ws lv sv sb qb Zb ws.heap.size [.int .i64 20,.int .i64 a,.int .i64 b,.string A,.string cls,.string name] (ws.alloc (.cells #[.int .i64 20,.int .i64 a,.int .i64 b,.string A,.string cls,.string name] 34)) lv sv L S:=SA.new X h _;obtain⟨Z,c,d,f,g,i⟩:=E.cells;obtain⟨k,C⟩:∃r,Zm ((qP (Za l) A S).bind fun H=>qq L H A)=r:=⟨_,rfl⟩;have M:=Xh C;rw[C];have F:A.size<=maxLen:=Xf J (by decide);clear C X h;go_enter func139,ntmps139;go_wp2_with (first
  |(go_at_call 174;rcases hq0:qP (Za l) A S with _|H;(with_reducible refine(E.arrayN I A F hq0).mono ?_);(rintro e q D;obtain⟨N,rfl⟩:=D.no';exact And.intro rfl (E.stop N (M.out.symm.trans (qd (zq hq0)))));(with_reducible refine(E.arrayY I A F hq0).mono ?_);rintro e q D;obtain⟨O,rfl,m,n,P,R⟩:=D.ok';(have G:=E.next O P R);(have j:=qbY hq0 I);obtain⟨Z,c,d,f,g,i⟩:=G.cells)
  |(go_at_call 166;rcases hq1:QP H A with _|t;(with_reducible refine(G.putN A hq1).mono ?_);(rintro e s D;obtain⟨N,rfl⟩:=D.no';exact And.intro rfl (G.stop N (M.out.symm.trans (qd ((Zf hq0).trans (qA hq1))))));(with_reducible refine(G.putY A hq1).mono ?_);rintro e s D;obtain⟨T,rfl,o,p,U,V⟩:=D.ok';(have Y:=G.next T U V);obtain⟨Z,c,d,f,g,i⟩:=Y.cells))
 go_end0;exact Y.done (M.out.symm.trans (Zj ((Zf hq0).trans (Zz hq1))))
theorem zeE(w0 w:World)(B:Nat)(l:List qa)(base:Nat)(ws:World)(q:Env w0 w B l base ws)(sb:Nat)(qb Zb:Str)(lv sv:Value)(L S:List Str)(h:Qh base ws sb B qb Zb lv sv L S)(R:ql (Za l) S)(a b:Int)(A cls name:Str)(T:A.size<=1048576)(_hc:cls.size<=1048576)(_hfr:qb.size<=maxLen):
 Calls prog 139 #[.pointer (some ⟨sb,0,none⟩),.agg #[.int .i64 21,.int .i64 a,.int .i64 b,.string A,.string cls,.string name]] ws (qf base ws sb B qb Zb lv sv (Zm (knK (Za l) A ((zg (Za l) [A] S).bind fun p=>(qP (Za l) A p).map fun N=>(L,N))))):=by
 have H:SA w0 w B l base ws lv sv sb qb Zb ws.heap.size [.int .i64 21,.int .i64 a,.int .i64 b,.string A,.string cls,.string name] (ws.alloc (.cells #[.int .i64 21,.int .i64 a,.int .i64 b,.string A,.string cls,.string name] 34)) lv sv L S:=SA.new q h _;obtain⟨U,V,X,Y,Z,c⟩:=H.cells;obtain⟨v,E⟩:∃r,Zm (knK (Za l) A ((zg (Za l) [A] S).bind fun p=>(qP (Za l) A p).map fun N=>(L,N)))=r:=⟨_,rfl⟩;have O:=Xh E;rw[E];have C:A.size<=maxLen:=Xf T (by decide);clear E q h;go_enter func139,ntmps139;go_wp2_with (first
  |(go_at_call 172;by_cases D:¬Zg (Za l) A=0;(with_reducible refine(H.knowsN A C D).mono ?_);(rintro e w1 F;obtain⟨M,rfl⟩:=F.no';exact And.intro rfl (H.stop M (O.out.symm.trans (qd (ZcH D)))));(with_reducible refine(H.knowsY A C (Decidable.not_not.1 D)).mono ?_);rintro e w1 F;obtain⟨d,rfl,x,y,f,g⟩:=F.ok';(have P:=H.next d f g);obtain⟨U,V,X,Y,Z,c⟩:=P.cells)
  |(go_at_call 169;(have I:=P.alloc (.cells #[.string A] 9));rcases hq1:zg (Za l) [A] S with _|N;(with_reducible refine(P.takeON R A C _ (by simp) hq1).mono ?_);(rintro e w2 F;obtain⟨M,rfl⟩:=F.no';exact And.intro rfl (I.stop M (O.out.symm.trans (qd ((qag D).trans (zq hq1))))));(with_reducible refine(P.takeOY R A C _ (by simp) hq1).mono ?_);rintro e w2 F;obtain⟨i,rfl,z,aA,j,k⟩:=F.ok';(have J:=I.next i j k);(have G:=zi hq1 R);obtain⟨U,V,X,Y,Z,c⟩:=J.cells)
  |(go_at_call 174;rcases hq2:qP (Za l) A N with _|S3;(with_reducible refine(J.arrayN G A C hq2).mono ?_);(rintro e w3 F;obtain⟨M,rfl⟩:=F.no';exact And.intro rfl (J.stop M (O.out.symm.trans (qd ((qag D).trans ((Zf hq1).trans (QaZ hq2)))))));(with_reducible refine(J.arrayY G A C hq2).mono ?_);rintro e w3 F;obtain⟨m,rfl,aB,aC,n,o⟩:=F.ok';(have s:=J.next m n o);(have t:=qbY hq2 G);obtain⟨U,V,X,Y,Z,c⟩:=s.cells))
 go_end0;exact s.done (O.out.symm.trans (Zj ((qag D).trans ((Zf hq1).trans (zaf hq2)))))
theorem ZeE(w0 w:World)(B:Nat)(l:List qa)(base:Nat)(ws:World)(m:Env w0 w B l base ws)(sb:Nat)(qb Zb:Str)(lv sv:Value)(L S:List Str)(h:Qh base ws sb B qb Zb lv sv L S)(N:ql (Za l) S)(a b:Int)(A cls name:Str)(O:A.size<=1048576)(_hc:cls.size<=1048576)(_hfr:qb.size<=maxLen):
 Calls prog 139 #[.pointer (some ⟨sb,0,none⟩),.agg #[.int .i64 22,.int .i64 a,.int .i64 b,.string A,.string cls,.string name]] ws (qf base ws sb B qb Zb lv sv (Zm (knK (Za l) A ((QD S).bind fun p=>qq L p.2 A)))):=by
 have F:SA w0 w B l base ws lv sv sb qb Zb ws.heap.size [.int .i64 22,.int .i64 a,.int .i64 b,.string A,.string cls,.string name] (ws.alloc (.cells #[.int .i64 22,.int .i64 a,.int .i64 b,.string A,.string cls,.string name] 34)) lv sv L S:=SA.new m h _;obtain⟨P,R,T,U,V,X⟩:=F.cells;obtain⟨q,D⟩:∃r,Zm (knK (Za l) A ((QD S).bind fun p=>qq L p.2 A))=r:=⟨_,rfl⟩;have M:=Xh D;rw[D];have G:A.size<=maxLen:=Xf O (by decide);clear D m h;go_enter func139,ntmps139;go_wp2_with (first
  |(go_at_call 172;by_cases C:¬Zg (Za l) A=0;(with_reducible refine(F.knowsN A G C).mono ?_);(rintro e w1 E;obtain⟨J,rfl⟩:=E.no';exact And.intro rfl (F.stop J (M.out.symm.trans (qd (ZcH C)))));(with_reducible refine(F.knowsY A G (Decidable.not_not.1 C)).mono ?_);rintro e w1 E;obtain⟨Y,rfl,s,t,Z,c⟩:=E.ok';(have H:=F.next Y Z c);obtain⟨P,R,T,U,V,X⟩:=H.cells)
  |(go_at_call 171;rcases hq1:QD S with _|⟨k1,S2⟩;(with_reducible refine(H.refN N hq1).mono ?_);(rintro e w2 E;obtain⟨J,rfl⟩:=E.no';exact And.intro rfl (H.stop J (M.out.symm.trans (qd ((qag C).trans (zq hq1))))));(with_reducible refine(H.refY N hq1).mono ?_);rintro e w2 E;obtain⟨d,rfl,v,x,f,g⟩:=E.ok';(have I:=H.next d f g);(have o:=(Qal (Qaw hq1).1 N).2);obtain⟨P,R,T,U,V,X⟩:=I.cells)
  |(go_at_call 166;rcases hq2:QP S2 A with _|S3;(with_reducible refine(I.putN A hq2).mono ?_);(rintro e w3 E;obtain⟨J,rfl⟩:=E.no';exact And.intro rfl (I.stop J (M.out.symm.trans (qd ((qag C).trans ((Zf hq1).trans (qA hq2)))))));(with_reducible refine(I.putY A hq2).mono ?_);rintro e w3 E;obtain⟨i,rfl,y,z,j,k⟩:=E.ok';(have n:=I.next i j k);obtain⟨P,R,T,U,V,X⟩:=n.cells))
 go_end0;exact n.done (M.out.symm.trans (Zj ((qag C).trans ((Zf hq1).trans (Zz hq2)))))
theorem SA.boxed{w0 w:World}{B:Nat}{l:List qa}{base:Nat}{ws:World}{lv0 sv0:Value}{sb:Nat}{qb Zb:Str}{xb:Nat}{xv:List Value}{wx:World}{lv sv:Value}{L S:List Str}(T:SA w0 w B l base ws lv0 sv0 sb qb Zb xb xv wx lv sv L S)(E:ws.heap.size<=xb)(A:base<=xb)(j:Nat)(u:Value):SA w0 w B l base ws lv0 sv0 sb qb Zb xb (xv.set j u) (wx.setCell ⟨xb,j,none⟩ u) lv sv L S :=
 ⟨⟨T.env.map0,T.env.le,T.env.below.setCell (p:=⟨xb,j,none⟩) (Xf T.env.le A) u⟩,T.step.aside T.apart j u,T.box.put j u,T.apart,T.below.setCell (p:=⟨xb,j,none⟩) A u,⟨T.kp.1,fun g D C=>⟨(Xk wx ⟨xb,j,none⟩ g u (by show g≠xb;omega)).trans (T.kp.2 g D C).1,(T.kp.2 g D C).2⟩⟩⟩
theorem zdH(w0 w:World)(B:Nat)(l:List qa)(base:Nat)(ws:World)(H:Env w0 w B l base ws)(sb:Nat)(qb Zb:Str)(lv sv:Value)(L S:List Str)(h:Qh base ws sb B qb Zb lv sv L S)(J:ql (Za l) S)(G a b:Int)(C cls name:Str)(A:Bool)(I:cls.size<=1048576)(D:qb.size<=maxLen)(E:C.size<=1048576):
 Calls prog 175 #[.pointer (some ⟨sb,0,none⟩),.agg #[.int .i64 G,.int .i64 a,.int .i64 b,.string C,.string cls,.string name],.bool A] ws (qf base ws sb B qb Zb lv sv (Zm (Zar (Za l) qb cls name C A L S))):=by
 unfold Zar;by_cases F:zz (Za l) qb cls name C A=0
 ·rw[if_neg (by rw[F];decide)];cases A with
  |true=>exact Qfl w0 w B l base ws H sb qb Zb lv sv L S h J G a b C cls name I D E F
  |false=>exact zfm w0 w B l base ws H sb qb Zb lv sv L S h J G a b C cls name I D E F
 ·rw[if_pos F];exact qe5 w0 w B l base ws H sb qb Zb lv sv L S h G a b C cls name A I D F
theorem SA.callN{w0 w:World}{B:Nat}{l:List qa}{base:Nat}{ws:World}{lv0 sv0:Value}{sb:Nat}{qb Zb:Str}{xb:Nat}{xv:List Value}{wx:World}{lv sv:Value}{L S:List Str}(T:SA w0 w B l base ws lv0 sv0 sb qb Zb xb xv wx lv sv L S)(G:ql (Za l) S)(F a b:Int)(C cls name:Str)(A:Bool)(H:cls.size<=1048576)(D:qb.size<=maxLen)(E:C.size<=1048576)(I:Zar (Za l) qb cls name C A L S=none):
 Calls prog 175 #[.pointer (some ⟨sb,0,none⟩),.agg #[.int .i64 F,.int .i64 a,.int .i64 b,.string C,.string cls,.string name],.bool A] wx (qf base wx sb B qb Zb lv sv none):=by
 have h:=zdH w0 w B l base wx T.env sb qb Zb lv sv L S T.step G F a b C cls name A H D E;rw[I]at h;exact h
theorem SA.callY{w0 w:World}{B:Nat}{l:List qa}{base:Nat}{ws:World}{lv0 sv0:Value}{sb:Nat}{qb Zb:Str}{xb:Nat}{xv:List Value}{wx:World}{lv sv:Value}{L S:List Str}(T:SA w0 w B l base ws lv0 sv0 sb qb Zb xb xv wx lv sv L S)(H:ql (Za l) S)(F a b:Int)(C cls name:Str)(A:Bool)(I:cls.size<=1048576)(D:qb.size<=maxLen)(E:C.size<=1048576){G S':List Str}(J:Zar (Za l) qb cls name C A L S=some (G,S')):
 Calls prog 175 #[.pointer (some ⟨sb,0,none⟩),.agg #[.int .i64 F,.int .i64 a,.int .i64 b,.string C,.string cls,.string name],.bool A] wx (qf base wx sb B qb Zb lv sv (some (.tuple #[],G,S'))):=by
 have h:=zdH w0 w B l base wx T.env sb qb Zb lv sv L S T.step H F a b C cls name A I D E;rw[J]at h;exact h
theorem qd3(w0 w:World)(B:Nat)(l:List qa)(base:Nat)(ws:World)(H:Env w0 w B l base ws)(sb:Nat)(qb Zb:Str)(lv sv:Value)(L S:List Str)(h:Qh base ws sb B qb Zb lv sv L S)(_hS:ql (Za l) S)(a b:Int)(A cls name:Str)(_hty:A.size<=1048576)(I:cls.size<=1048576)(_hfr:qb.size<=maxLen)(J:¬Zg (Za l) (Qc cls)=0):
 Calls prog 139 #[.pointer (some ⟨sb,0,none⟩),.agg #[.int .i64 15,.int .i64 a,.int .i64 b,.string A,.string cls,.string name]] ws (qf base ws sb B qb Zb lv sv (Zm (knK (Za l) (Qc cls) (zbr (Za l) cls L S)))):=by
 have D:SA w0 w B l base ws lv sv sb qb Zb ws.heap.size [.int .i64 15,.int .i64 a,.int .i64 b,.string A,.string cls,.string name] (ws.alloc (.cells #[.int .i64 15,.int .i64 a,.int .i64 b,.string A,.string cls,.string name] 34)) lv sv L S:=SA.new H h _;obtain⟨P,R,T,U,V,X⟩:=D.cells;obtain⟨N,C⟩:∃r,Zm (knK (Za l) (Qc cls) (zbr (Za l) cls L S))=r:=⟨_,rfl⟩;have M:=Xh C;rw[C];have E:Hid (∀wx,_):=fun wx=>ZZ cls wx (Xf I (by decide))
 have F:(Qc cls).size<=maxLen:=by rw[Zao];exact Xf (Nat.add_le_add_right I 2) (by decide)
 clear C H h;go_enter func139,ntmps139;go_wp2_with (first
  |(go_fit (D.knowsN (Qc cls) F J);rintro e Y O;obtain⟨G,rfl⟩:=O.no')
  |(go_fit (E.out _);rintro e Z⟨rfl,rfl⟩))
 exact And.intro rfl (D.stop G (M.out.symm.trans (qd (ZcH J))))
theorem Qd3(w0 w:World)(B:Nat)(l:List qa)(base:Nat)(ws:World)(N:Env w0 w B l base ws)(sb:Nat)(qb Zb:Str)(lv sv:Value)(L S:List Str)(h:Qh base ws sb B qb Zb lv sv L S)(_hS:ql (Za l) S)(a b:Int)(A cls name:Str)(_hty:A.size<=1048576)(P:cls.size<=1048576)(_hfr:qb.size<=maxLen)(Y:Zg (Za l) (Qc cls)=0)(C:(Qd (Za l) cls).face=true):
 Calls prog 139 #[.pointer (some ⟨sb,0,none⟩),.agg #[.int .i64 15,.int .i64 a,.int .i64 b,.string A,.string cls,.string name]] ws (qf base ws sb B qb Zb lv sv (Zm (knK (Za l) (Qc cls) (zbr (Za l) cls L S)))):=by
 have O:SA w0 w B l base ws lv sv sb qb Zb ws.heap.size [.int .i64 15,.int .i64 a,.int .i64 b,.string A,.string cls,.string name] (ws.alloc (.cells #[.int .i64 15,.int .i64 a,.int .i64 b,.string A,.string cls,.string name] 34)) lv sv L S:=SA.new N h _;obtain⟨n,o,p,q,s,t⟩:=O.cells;obtain⟨x,D⟩:∃r,Zm (knK (Za l) (Qc cls) (zbr (Za l) cls L S))=r:=⟨_,rfl⟩;have g:=Xh D;rw[D];have R:Hid (∀wx,_):=fun wx=>ZZ cls wx (Xf P (by decide))
 have T:(Qc cls).size<=maxLen:=by rw[Zao];exact Xf (Nat.add_le_add_right P 2) (by decide)
 obtain⟨y,z,pd,kd,pm,km,_,_,_,G⟩:=N.map0.map.look3 N.map0.right.nodup cls (Xf P (by decide));have j:Hid (∀L S,zbr (Za l) cls L S=none):=Xh (fun L S=>by unfold zbr;rw[C];rfl);unfold Qd at C;unfold Zu at G;generalize (Qb (Za l) cls).getD qg=M at *;have k:∀f:World,(Instr.field 31 (.agg #[.string M.name,.string M.super,.slice y M.faces.length z,.bool true,.slice pd M.fields.length kd,.slice pm M.methods.length km]) 3).run prog f=.ok (.bool true) f:=fun _=>by kernel_rfl
 have m:Hid (∀wx,_):=fun wx=>Zx wx
 clear D N h;go_enter func139,ntmps139;go_upto_region 4 with(first
  |(go_fit (O.knowsY (Qc cls) T Y);rintro e w1 d;obtain⟨H,rfl,lv1,sv1,I,J⟩:=d.ok';(have U:=O.next H I J);obtain⟨n,o,p,q,s,t⟩:=U.cells)
  |(go_fit (R.out _);rintro e wq⟨rfl,rfl⟩))
 have F:=Xh (U.over Xb.drew);have V:=And.intro F.out.env.below (And.intro (F.out.step.blk.cell 0) F.out.cells.2.2.2.2.1);clear O U H I J d;refine wp_region_held_drew (S:=fun w'=>Below w.heap.size w w'/\w'.cell? ⟨sb,0,none⟩=some (.map (some B))/\w'.cell? ⟨ws.heap.size,4,none⟩=some (.string cls)) (by kernel_rfl) V (fun hHeld=>?_);change wpAnyH _ _ _ _ _ 10 _ _ _;iterate 6 ((first|(refine tkN rfl rfl hHeld ?_)|(refine tkY (v:=?_) rfl rfl hHeld ?_ ?_;rotate_left;focus (intro w E;(obtain⟨X,Z,c⟩:=E);go_simp;all_goals with_reducible rfl)));try simp only[Act.put,Xa,Xc,Xd])
 change wpAnyH _ _ _ _ _ 4 _ _ _;iterate 1 ((first|(refine tkN rfl rfl hHeld ?_)|(refine tkY (v:=?_) rfl rfl hHeld ?_ ?_;rotate_left;focus (intro w E;(obtain⟨X,Z,c⟩:=E;have hl:=(G _ X).2);go_simp;all_goals with_reducible rfl)));(try simp only[Act.put]);(try simp only[Xa]);(try simp only[Xd]);(try simp only[Xc]))
 change wpAnyH _ _ _ _ _ 3 _ _ _;iterate 2 ((first|(refine tkN rfl rfl hHeld ?_)|(refine tkY (v:=?_) rfl rfl hHeld ?_ ?_;rotate_left;focus (intro w E;(obtain⟨X,Z,c⟩:=E);go_simp;all_goals with_reducible rfl)));(try simp only[Act.put]);(try simp only[Xa]);(try simp only[Xd]);(try simp only[Xc]))
 refine wpAnyH_ready (rs:=[9]) (fuel:=0) (by kernel_rfl) (by simp) ?_;refine AllReadyH.cons (i:=9) rfl (fun K hK=>?_) AllReadyH.nil;go_simp;refine(m.out _).mono ?_;rintro e wq⟨rfl,rfl⟩;exact And.intro rfl (F.out.stop Xb (g.out.symm.trans (qd ((qag (Decidable.not_not.2 Y)).trans (j.out _ _)))))
theorem zd4(w0 w:World)(B:Nat)(l:List qa)(base:Nat)(ws:World)(R:Env w0 w B l base ws)(sb:Nat)(qb Zb:Str)(lv sv:Value)(L S:List Str)(h:Qh base ws sb B qb Zb lv sv L S)(_hS:ql (Za l) S)(a b:Int)(C cls name:Str)(_hty:C.size<=1048576)(U:cls.size<=1048576)(_hfr:qb.size<=maxLen)(V:Zg (Za l) (Qc cls)=0)(D:(Qd (Za l) cls).face=false):
 Calls prog 139 #[.pointer (some ⟨sb,0,none⟩),.agg #[.int .i64 15,.int .i64 a,.int .i64 b,.string C,.string cls,.string name]] ws (qf base ws sb B qb Zb lv sv (Zm (knK (Za l) (Qc cls) (zbr (Za l) cls L S)))):=by
 have T:SA w0 w B l base ws lv sv sb qb Zb ws.heap.size [.int .i64 15,.int .i64 a,.int .i64 b,.string C,.string cls,.string name] (ws.alloc (.cells #[.int .i64 15,.int .i64 a,.int .i64 b,.string C,.string cls,.string name] 34)) lv sv L S:=SA.new R h _;obtain⟨k,m,n,o,p,q⟩:=T.cells;obtain⟨res,E⟩:∃r,Zm (knK (Za l) (Qc cls) (zbr (Za l) cls L S))=r:=⟨_,rfl⟩;have g:=Xh E;rw[E];have I:Hid (∀wx,_):=fun wx=>ZZ cls wx (Xf U (by decide))
 have X:(Qc cls).size<=maxLen:=by rw[Zao];exact Xf (Nat.add_le_add_right U 2) (by decide)
 obtain⟨pf,kf,pd,kd,pm,km,_,_,_,J⟩:=R.map0.map.look3 R.map0.right.nodup cls (Xf U (by decide));have j:Hid (∀L S,zbr (Za l) cls L S=qq L S (Qc cls)):=Xh (fun L S=>by unfold zbr;rw[D];rfl);unfold Qd at D;unfold Zu at J;generalize (Qb (Za l) cls).getD qg=P at *;have aA:∀z:World,(Instr.field 31 (.agg #[.string P.name,.string P.super,.slice pf P.faces.length kf,.bool false,.slice pd P.fields.length kd,.slice pm P.methods.length km]) 3).run prog z=.ok (.bool false) z:=fun _=>by kernel_rfl
 have HT:Hid (∀wx,_):=fun wx=>qH wx
 clear E R h;go_enter func139,ntmps139;go_upto_region 4 with(first
  |(go_fit (T.knowsY (Qc cls) X V);rintro e w1 H;obtain⟨M,rfl,lv1,sv1,N,O⟩:=H.ok';(have Y:=T.next M N O);obtain⟨k,m,n,o,p,q⟩:=Y.cells)
  |(go_fit (I.out _);rintro e x⟨rfl,rfl⟩))
 have A:=Xh (Y.over Xb.drew);have G:=And.intro A.out.env.below (And.intro (A.out.step.blk.cell 0) A.out.cells.2.2.2.2.1);clear T Y M N O H;refine wp_region_held_drew (S:=fun w'=>Below w.heap.size w w'/\w'.cell? ⟨sb,0,none⟩=some (.map (some B))/\w'.cell? ⟨ws.heap.size,4,none⟩=some (.string cls)) (by kernel_rfl) G (fun hHeld=>?_);change wpAnyH _ _ _ _ _ 10 _ _ _;iterate 6 ((first|(refine tkN rfl rfl hHeld ?_)|(refine tkY (v:=?_) rfl rfl hHeld ?_ ?_;rotate_left;focus (intro w F;(obtain⟨Z,s,t⟩:=F);go_simp;all_goals with_reducible rfl)));try simp only[Act.put,Xa,Xc,Xd])
 change wpAnyH _ _ _ _ _ 4 _ _ _;iterate 1 ((first|(refine tkN rfl rfl hHeld ?_)|(refine tkY (v:=?_) rfl rfl hHeld ?_ ?_;rotate_left;focus (intro w F;(obtain⟨Z,s,t⟩:=F;have hl:=(J _ Z).2);go_simp;all_goals with_reducible rfl)));(try simp only[Act.put]);(try simp only[Xa]);(try simp only[Xd]);(try simp only[Xc]))
 change wpAnyH _ _ _ _ _ 3 _ _ _;iterate 2 ((first|(refine tkN rfl rfl hHeld ?_)|(refine tkY (v:=?_) rfl rfl hHeld ?_ ?_;rotate_left;focus (intro w F;(obtain⟨Z,s,t⟩:=F);go_simp;all_goals with_reducible rfl)));(try simp only[Act.put]);(try simp only[Xa]);(try simp only[Xd]);(try simp only[Xc]))
 refine wpAnyH_ready (rs:=[9]) (fuel:=0) (by kernel_rfl) (by simp) ?_;refine AllReadyH.cons (i:=9) rfl (fun K y=>?_) AllReadyH.nil;go_simp;refine(HT.out _).mono ?_;rintro e x⟨rfl,rfl⟩;refine y.out _ _ G (fun _=>?_);clear y K;try dsimp only[Act.put]
 refine wpAnyH_done (by kernel_rfl) ?_ _;obtain⟨k,m,n,o,p,q⟩:=A.out.cells;clear hHeld G;go_wp2_with (first
  |(go_fit (I.out _);rintro e x⟨rfl,rfl⟩)
  |(go_at_call 166;rcases hq1:QP S (Qc cls) with _|S2;(with_reducible refine(A.out.putN (Qc cls) hq1).mono ?_);(rintro e w2 H;obtain⟨hB,rfl⟩:=H.no';exact And.intro rfl (A.out.stop hB (g.out.symm.trans (qd ((qag (Decidable.not_not.2 V)).trans ((j.out _ _).trans (qA hq1)))))));(with_reducible refine(A.out.putY (Qc cls) hq1).mono ?_);rintro e w2 H;obtain⟨c,rfl,lv2,sv2,d,f⟩:=H.ok';(have T2:=A.out.next c d f)))
 go_end0;exact T2.done (g.out.symm.trans (Zj ((qag (Decidable.not_not.2 V)).trans ((j.out _ _).trans (Zz hq1)))))
theorem qeE(w0 w:World)(B:Nat)(l:List qa)(base:Nat)(ws:World)(j:Env w0 w B l base ws)(sb:Nat)(qb Zb:Str)(lv sv:Value)(L S:List Str)(h:Qh base ws sb B qb Zb lv sv L S)(k:ql (Za l) S)(a b:Int)(A cls name:Str)(_hty:A.size<=1048576)(Y:cls.size<=1048576)(_hfr:qb.size<=maxLen):
 Calls prog 139 #[.pointer (some ⟨sb,0,none⟩),.agg #[.int .i64 17,.int .i64 a,.int .i64 b,.string A,.string cls,.string name]] ws (qf base ws sb B qb Zb lv sv (Zm ((qN (Za l) cls name).bind fun t=>(zg (Za l) [t,Qc cls] S).map fun g=>(L,g)))):=by
 have Z:SA w0 w B l base ws lv sv sb qb Zb ws.heap.size [.int .i64 17,.int .i64 a,.int .i64 b,.string A,.string cls,.string name] (ws.alloc (.cells #[.int .i64 17,.int .i64 a,.int .i64 b,.string A,.string cls,.string name] 34)) lv sv L S:=SA.new j h _;obtain⟨x,y,z,i3,i4,i5⟩:=Z.cells;obtain⟨res,E⟩:∃r,Zm ((qN (Za l) cls name).bind fun t=>(zg (Za l) [t,Qc cls] S).map fun g=>(L,g))=r:=⟨_,rfl⟩;have c:=Xh E;rw[E];have d:Hid (∀wx,_):=fun wx=>ZZ cls wx (Xf Y (by decide))
 have J:(Qc cls).size<=maxLen:=by rw[Zao];exact Xf (Nat.add_le_add_right Y 2) (by decide)
 clear E j h;go_enter func139,ntmps139;go_upto_region 11 with fail;have C:=Xh (Z.over Xb.drew);clear Z x y z i3 i4 i5;refine wp_region_held_drew (S:=fun w'=>w'.cell? ⟨ws.heap.size,0,none⟩=some (.int .i64 17)/\w'.cell? ⟨ws.heap.size,1,none⟩=some (.int .i64 a)/\w'.cell? ⟨ws.heap.size,2,none⟩=some (.int .i64 b)/\w'.cell? ⟨ws.heap.size,3,none⟩=some (.string A)/\w'.cell? ⟨ws.heap.size,4,none⟩=some (.string cls)/\w'.cell? ⟨ws.heap.size,5,none⟩=some (.string name)) (by kernel_rfl) C.out.cells (fun hHeld=>?_);change wpAnyH _ _ _ _ _ 9 _ _ _;iterate 3 ((first|(refine tkN rfl rfl hHeld ?_)|(refine tkY (v:=?_) rfl rfl hHeld ?_ ?_;rotate_left;focus (intro w F;(obtain⟨m,n,o,p,q,s⟩:=F);go_simp;all_goals with_reducible rfl)));(try simp only[Act.put]);(try simp only[Xa]);(try simp only[Xd]);(try simp only[Xc]))
 refine tkI (i:=4) (fuel:=5) (v:=?_) rfl (by kernel_rfl) (by kernel_rfl) (by kernel_rfl) (fun _ _ _ h=>h) (by rfl) hHeld ?_ ?_;rotate_left;focus (intro w F;(obtain⟨m,n,o,p,q,s⟩:=F);go_simp;all_goals with_reducible rfl);(try simp only[Act.put]);(try simp only[Xa]);(try simp only[Xd]);(try simp only[Xc])
 refine tkI (i:=5) (fuel:=4) (v:=?_) rfl (by kernel_rfl) (by kernel_rfl) (by kernel_rfl) (fun _ _ _ h=>h) (by rfl) hHeld ?_ ?_;rotate_left;focus (intro w F;(obtain⟨m,n,o,p,q,s⟩:=F);go_simp;all_goals with_reducible rfl);(try simp only[Act.put]);(try simp only[Xa]);(try simp only[Xd]);(try simp only[Xc])
 refine wpAnyH_ready (rs:=[3]) (fuel:=3) (by kernel_rfl) (by simp) ?_;refine AllReadyH.cons (i:=3) rfl (fun K G=>?_) AllReadyH.nil;go_simp;rcases hq0:qN (Za l) cls name with _|X
 ·refine(C.out.fieldN 17 a b A cls name Y hq0).mono ?_;rintro e w2 H;obtain⟨f,rfl⟩:=H.no';exact And.intro rfl (C.out.stop f (c.out.symm.trans (qd (zq hq0))))
 ·have M:X.size<=maxLen:=Xf (Zaf (zbV hq0).2) (by decide);refine(C.out.fieldY 17 a b A cls name Y hq0).mono ?_;rintro e w2 H;obtain⟨O,rfl,lv2,sv2,P,R⟩:=H.ok';have D:=Xh (C.out.next O P R);clear O P R H;refine G.out _ _ D.out.cells (fun _=>?_);clear G K;try dsimp only[Act.put]
  refine wpAnyH_ready (rs:=[6]) (fuel:=2) (by kernel_rfl) (by simp) ?_;refine AllReadyH.cons (i:=6) rfl (fun K G=>?_) AllReadyH.nil;go_simp;refine(d.out _).mono ?_;rintro e wq⟨rfl,rfl⟩;refine G.out _ _ D.out.cells (fun _=>?_);clear G K;try dsimp only[Act.put]
  refine wpAnyH_ready (rs:=[7]) (fuel:=1) (by kernel_rfl) (by simp) ?_;refine AllReadyH.cons (i:=7) rfl (fun K G=>?_) AllReadyH.nil;go_simp;have I:=Xh (D.out.alloc (.cells #[.string X,.string (Qc cls)] 9));refine G.out _ _ I.out.cells (fun _=>?_);clear G K;try dsimp only[Act.put]
  refine wpAnyH_ready (rs:=[8]) (fuel:=0) (by kernel_rfl) (by simp) ?_;refine AllReadyH.cons (i:=8) rfl (fun K G=>?_) AllReadyH.nil;go_simp;rcases hq1:zg (Za l) [X,Qc cls] S with _|S2
  ·refine(D.out.takeTN k X (Qc cls) M J _ rfl hq1).mono ?_;rintro e w3 H;obtain⟨f,rfl⟩:=H.no';exact And.intro rfl (I.out.stop f (c.out.symm.trans (qd ((Zf hq0).trans (QaZ hq1)))))
  ·refine(D.out.takeTY k X (Qc cls) M J _ rfl hq1).mono ?_;rintro e w3 H;obtain⟨T,rfl,lv3,sv3,U,V⟩:=H.ok';have N:=Xh (I.out.next T U V);clear T U V H;refine G.out _ _ N.out.cells (fun _=>?_);clear G K;refine wpAnyH_done (by kernel_rfl) ?_ _;clear hHeld;go_wp2_with fail;go_end0;exact N.out.done (c.out.symm.trans (Zj ((Zf hq0).trans (zaf hq1))))
theorem Zd4(w0 w:World)(B:Nat)(l:List qa)(base:Nat)(ws:World)(G:Env w0 w B l base ws)(sb:Nat)(qb Zb:Str)(lv sv:Value)(L S:List Str)(h:Qh base ws sb B qb Zb lv sv L S)(H:ql (Za l) S)(a b:Int)(A cls name:Str)(_hty:A.size<=1048576)(_hc:cls.size<=1048576)(_hfr:qb.size<=maxLen)(D:QD S=none):
 Calls prog 139 #[.pointer (some ⟨sb,0,none⟩),.agg #[.int .i64 19,.int .i64 a,.int .i64 b,.string A,.string cls,.string name]] ws (qf base ws sb B qb Zb lv sv (Zm ((QD S).bind fun p=>if zat p.1=true then qq L p.2 kI else none))):=by
 have E:SA w0 w B l base ws lv sv sb qb Zb ws.heap.size [.int .i64 19,.int .i64 a,.int .i64 b,.string A,.string cls,.string name] (ws.alloc (.cells #[.int .i64 19,.int .i64 a,.int .i64 b,.string A,.string cls,.string name] 34)) lv sv L S:=SA.new G h _;obtain⟨N,O,P,R,T,U⟩:=E.cells;obtain⟨J,C⟩:∃r,Zm ((QD S).bind fun p=>if zat p.1=true then qq L p.2 kI else none)=r:=⟨_,rfl⟩;have I:=Xh C;rw[C];clear C G h;go_enter func139,ntmps139;go_wp2_with (first
  |(go_fit (E.refN H D);rintro e V M;obtain⟨F,rfl⟩:=M.no'))
 exact And.intro rfl (E.stop F (I.out.symm.trans (qd (zq D))))
theorem qd4(w0 w:World)(B:Nat)(l:List qa)(base:Nat)(ws:World)(R:Env w0 w B l base ws)(sb:Nat)(qb Zb:Str)(lv sv:Value)(L S:List Str)(h:Qh base ws sb B qb Zb lv sv L S)(V:ql (Za l) S)(a b:Int)(A cls name:Str)(_hty:A.size<=1048576)(_hc:cls.size<=1048576)(_hfr:qb.size<=maxLen)(k:Str)(T:List Str)(D:QD S=some (k,T))(X:(k.toList==[78])=true):
 Calls prog 139 #[.pointer (some ⟨sb,0,none⟩),.agg #[.int .i64 19,.int .i64 a,.int .i64 b,.string A,.string cls,.string name]] ws (qf base ws sb B qb Zb lv sv (Zm ((QD S).bind fun p=>if zat p.1=true then qq L p.2 kI else none))):=by
 have H:SA w0 w B l base ws lv sv sb qb Zb ws.heap.size [.int .i64 19,.int .i64 a,.int .i64 b,.string A,.string cls,.string name] (ws.alloc (.cells #[.int .i64 19,.int .i64 a,.int .i64 b,.string A,.string cls,.string name] 34)) lv sv L S:=SA.new R h _;obtain⟨c,d,f,g,i,j⟩:=H.cells;obtain⟨m,C⟩:∃r,Zm ((QD S).bind fun p=>if zat p.1=true then qq L p.2 kI else none)=r:=⟨_,rfl⟩;have U:=Xh C;rw[C];have Y:Hid (∀wx,_):=fun wx=>qH wx
 have E:zat k=true:=by unfold zat;rw[X];rfl
 unfold kI at *;clear C R h;go_enter func139,ntmps139;go_wp2_with (first
  |(go_fit (H.refY V D);rintro e x G;obtain⟨I,rfl,n,o,J,M⟩:=G.ok';(have F:=H.next I J M);obtain⟨c,d,f,g,i,j⟩:=F.cells)
  |(go_fit (Y.out _);rintro e y⟨rfl,rfl⟩)
  |(go_at_call 166;rcases hq1:QP T ⟨#[73]⟩ with _|z;(with_reducible refine(F.putN ⟨#[73]⟩ hq1).mono ?_);(rintro e v G;obtain⟨q,rfl⟩:=G.no';exact And.intro rfl (F.stop q (U.out.symm.trans (qd ((Zf D).trans ((if_pos E).trans (qA hq1)))))));(with_reducible refine(F.putY ⟨#[73]⟩ hq1).mono ?_);rintro e v G;obtain⟨N,rfl,s,t,O,P⟩:=G.ok';(have Z:=F.next N O P)))
 go_end0;exact Z.done (U.out.symm.trans (Zj ((Zf D).trans ((if_pos E).trans (Zz hq1)))))
theorem Qd4(w0 w:World)(B:Nat)(l:List qa)(base:Nat)(ws:World)(R:Env w0 w B l base ws)(sb:Nat)(qb Zb:Str)(lv sv:Value)(L S:List Str)(h:Qh base ws sb B qb Zb lv sv L S)(Y:ql (Za l) S)(a b:Int)(A cls name:Str)(_hty:A.size<=1048576)(_hc:cls.size<=1048576)(_hfr:qb.size<=maxLen)(k:Str)(T:List Str)(D:QD S=some (k,T))(Z:(k.toList==[78])=false)(U:Lib.hasPrefix k.toList [91]=true):
 Calls prog 139 #[.pointer (some ⟨sb,0,none⟩),.agg #[.int .i64 19,.int .i64 a,.int .i64 b,.string A,.string cls,.string name]] ws (qf base ws sb B qb Zb lv sv (Zm ((QD S).bind fun p=>if zat p.1=true then qq L p.2 kI else none))):=by
 have H:SA w0 w B l base ws lv sv sb qb Zb ws.heap.size [.int .i64 19,.int .i64 a,.int .i64 b,.string A,.string cls,.string name] (ws.alloc (.cells #[.int .i64 19,.int .i64 a,.int .i64 b,.string A,.string cls,.string name] 34)) lv sv L S:=SA.new R h _;obtain⟨f,g,i,j,m,n⟩:=H.cells;obtain⟨o,C⟩:∃r,Zm ((QD S).bind fun p=>if zat p.1=true then qq L p.2 kI else none)=r:=⟨_,rfl⟩;have V:=Xh C;rw[C];have c:Hid (∀wx,_):=fun wx=>qH wx
 have X:Hid (∀wx,_):=fun wx=>qu k ⟨#[91]⟩ wx
 rw[<-ByteArray.toList_eq,show(⟨#[91]⟩:Str).data.toList=[91] from rfl,U]at X;have E:zat k=true:=by unfold zat;rw[Z,U];rfl
 unfold kI at *;clear C R h;go_enter func139,ntmps139;go_wp2_with (first
  |(go_fit (H.refY Y D);rintro e w1 G;obtain⟨I,rfl,q,s,J,M⟩:=G.ok';(have F:=H.next I J M);obtain⟨f,g,i,j,m,n⟩:=F.cells)
  |(go_fit (X.out _);rintro e y⟨rfl,rfl⟩)
  |(go_fit (c.out _);rintro e y⟨rfl,rfl⟩)
  |(go_at_call 166;rcases hq1:QP T ⟨#[73]⟩ with _|S2;(with_reducible refine(F.putN ⟨#[73]⟩ hq1).mono ?_);(rintro e z G;obtain⟨t,rfl⟩:=G.no';exact And.intro rfl (F.stop t (V.out.symm.trans (qd ((Zf D).trans ((if_pos E).trans (qA hq1)))))));(with_reducible refine(F.putY ⟨#[73]⟩ hq1).mono ?_);rintro e z G;obtain⟨N,rfl,v,x,O,P⟩:=G.ok';(have d:=F.next N O P)))
 go_end0;exact d.done (V.out.symm.trans (Zj ((Zf D).trans ((if_pos E).trans (Zz hq1)))))
theorem zd5(w0 w:World)(B:Nat)(l:List qa)(base:Nat)(ws:World)(J:Env w0 w B l base ws)(sb:Nat)(qb Zb:Str)(lv sv:Value)(L S:List Str)(h:Qh base ws sb B qb Zb lv sv L S)(P:ql (Za l) S)(a b:Int)(A cls name:Str)(_hty:A.size<=1048576)(_hc:cls.size<=1048576)(_hfr:qb.size<=maxLen)(k:Str)(R:List Str)(D:QD S=some (k,R))(T:(k.toList==[78])=false)(M:Lib.hasPrefix k.toList [91]=false):
 Calls prog 139 #[.pointer (some ⟨sb,0,none⟩),.agg #[.int .i64 19,.int .i64 a,.int .i64 b,.string A,.string cls,.string name]] ws (qf base ws sb B qb Zb lv sv (Zm ((QD S).bind fun p=>if zat p.1=true then qq L p.2 kI else none))):=by
 have E:SA w0 w B l base ws lv sv sb qb Zb ws.heap.size [.int .i64 19,.int .i64 a,.int .i64 b,.string A,.string cls,.string name] (ws.alloc (.cells #[.int .i64 19,.int .i64 a,.int .i64 b,.string A,.string cls,.string name] 34)) lv sv L S:=SA.new J h _;obtain⟨X,Y,Z,c,d,f⟩:=E.cells;obtain⟨g,C⟩:∃r,Zm ((QD S).bind fun p=>if zat p.1=true then qq L p.2 kI else none)=r:=⟨_,rfl⟩;have U:=Xh C;rw[C];have V:Hid (∀wx,_):=fun wx=>Zx wx
 have N:Hid (∀wx,_):=fun wx=>qu k ⟨#[91]⟩ wx
 rw[<-ByteArray.toList_eq,show(⟨#[91]⟩:Str).data.toList=[91] from rfl,M]at N;have F:zat k=false:=by unfold zat;rw[T,M];rfl
 unfold kI at *;clear C J h;go_enter func139,ntmps139;go_wp2_with (first
  |(go_fit (E.refY P D);rintro e o m;obtain⟨G,rfl,i,j,H,I⟩:=m.ok';(have O:=E.next G H I);obtain⟨X,Y,Z,c,d,f⟩:=O.cells)
  |(go_fit (N.out _);rintro e n⟨rfl,rfl⟩)
  |(go_fit (V.out _);rintro e n⟨rfl,rfl⟩))
 exact And.intro rfl (O.stop Xb (U.out.symm.trans (qd ((Zf D).trans (if_neg (by rw[F];decide))))))
theorem Zd5(w0 w:World)(B:Nat)(l:List qa)(base:Nat)(ws:World)(H:Env w0 w B l base ws)(sb:Nat)(qb Zb:Str)(lv sv:Value)(L S:List Str)(h:Qh base ws sb B qb Zb lv sv L S)(_hS:ql (Za l) S)(a b:Int)(A cls name:Str)(D:A.size<=1048576)(_hc:cls.size<=1048576)(_hfr:qb.size<=maxLen)(I:¬Zg (Za l) A=0):
 Calls prog 139 #[.pointer (some ⟨sb,0,none⟩),.agg #[.int .i64 23,.int .i64 a,.int .i64 b,.string A,.string cls,.string name]] ws (qf base ws sb B qb Zb lv sv (Zm (knK (Za l) A ((QD S).bind fun p=>qq L p.2 kI)))):=by
 have E:SA w0 w B l base ws lv sv sb qb Zb ws.heap.size [.int .i64 23,.int .i64 a,.int .i64 b,.string A,.string cls,.string name] (ws.alloc (.cells #[.int .i64 23,.int .i64 a,.int .i64 b,.string A,.string cls,.string name] 34)) lv sv L S:=SA.new H h _;obtain⟨O,P,R,T,U,V⟩:=E.cells;obtain⟨M,C⟩:∃r,Zm (knK (Za l) A ((QD S).bind fun p=>qq L p.2 kI))=r:=⟨_,rfl⟩;have J:=Xh C;rw[C];have F:A.size<=maxLen:=Xf D (by decide);clear C H h;go_enter func139,ntmps139;go_wp2_with (first
  |(go_fit (E.knowsN A F I);rintro e X N;obtain⟨G,rfl⟩:=N.no'))
 exact And.intro rfl (E.stop G (J.out.symm.trans (qd (ZcH I))))
theorem qd5(w0 w:World)(B:Nat)(l:List qa)(base:Nat)(ws:World)(P:Env w0 w B l base ws)(sb:Nat)(qb Zb:Str)(lv sv:Value)(L S:List Str)(h:Qh base ws sb B qb Zb lv sv L S)(T:ql (Za l) S)(a b:Int)(A cls name:Str)(E:A.size<=1048576)(_hc:cls.size<=1048576)(_hfr:qb.size<=maxLen)(R:Zg (Za l) A=0)(D:QD S=none):
 Calls prog 139 #[.pointer (some ⟨sb,0,none⟩),.agg #[.int .i64 23,.int .i64 a,.int .i64 b,.string A,.string cls,.string name]] ws (qf base ws sb B qb Zb lv sv (Zm (knK (Za l) A ((QD S).bind fun p=>qq L p.2 kI)))):=by
 have F:SA w0 w B l base ws lv sv sb qb Zb ws.heap.size [.int .i64 23,.int .i64 a,.int .i64 b,.string A,.string cls,.string name] (ws.alloc (.cells #[.int .i64 23,.int .i64 a,.int .i64 b,.string A,.string cls,.string name] 34)) lv sv L S:=SA.new P h _;obtain⟨V,X,Y,Z,c,d⟩:=F.cells;obtain⟨f,C⟩:∃r,Zm (knK (Za l) A ((QD S).bind fun p=>qq L p.2 kI))=r:=⟨_,rfl⟩;have U:=Xh C;rw[C];have G:A.size<=maxLen:=Xf E (by decide);clear C P h;go_enter func139,ntmps139;go_wp2_with (first
  |(go_fit (F.knowsY A G R);rintro e j O;obtain⟨I,rfl,g,i,J,M⟩:=O.ok';(have H:=F.next I J M);obtain⟨V,X,Y,Z,c,d⟩:=H.cells)
  |(go_fit (H.refN T D);rintro e k O;obtain⟨N,rfl⟩:=O.no'))
 exact And.intro rfl (H.stop N (U.out.symm.trans (qd ((qag (Decidable.not_not.2 R)).trans (zq D)))))
theorem Qd5(w0 w:World)(B:Nat)(l:List qa)(base:Nat)(ws:World)(f:Env w0 w B l base ws)(sb:Nat)(qb Zb:Str)(lv sv:Value)(L S:List Str)(h:Qh base ws sb B qb Zb lv sv L S)(t:ql (Za l) S)(a b:Int)(A cls name:Str)(H:A.size<=1048576)(_hc:cls.size<=1048576)(_hfr:qb.size<=maxLen)(I:Zg (Za l) A=0)(k:Str)(g:List Str)(D:QD S=some (k,g)):
 Calls prog 139 #[.pointer (some ⟨sb,0,none⟩),.agg #[.int .i64 23,.int .i64 a,.int .i64 b,.string A,.string cls,.string name]] ws (qf base ws sb B qb Zb lv sv (Zm (knK (Za l) A ((QD S).bind fun p=>qq L p.2 kI)))):=by
 have J:SA w0 w B l base ws lv sv sb qb Zb ws.heap.size [.int .i64 23,.int .i64 a,.int .i64 b,.string A,.string cls,.string name] (ws.alloc (.cells #[.int .i64 23,.int .i64 a,.int .i64 b,.string A,.string cls,.string name] 34)) lv sv L S:=SA.new f h _;obtain⟨j,m,n,o,q,s⟩:=J.cells;obtain⟨x,C⟩:∃r,Zm (knK (Za l) A ((QD S).bind fun p=>qq L p.2 kI))=r:=⟨_,rfl⟩;have i:=Xh C;rw[C];have M:A.size<=maxLen:=Xf H (by decide);have F:=h.low;have N:=h.blk.lt;unfold kI at *;clear C f h;go_enter func139,ntmps139;go_upto_region 32 with(first
  |(go_fit (J.knowsY A M I);rintro e w1 E;obtain⟨R,rfl,y,z,T,U⟩:=E.ok';(have O:=J.next R T U);obtain⟨j,m,n,o,q,s⟩:=O.cells)
  |(go_fit (O.refY t D);rintro e w2 E;obtain⟨V,rfl,aA,aB,X,Y⟩:=E.ok';(have P:=O.next V X Y);obtain⟨j,m,n,o,q,s⟩:=P.cells))
 have G:=P.boxed Xl (Xf F (Nat.le_of_lt N)) 3 (.string ⟨#[73]⟩);have f3:=P.box.frozen 3;have j3:(w2.setCell ⟨ws.heap.size,3,none⟩ (.string ⟨#[73]⟩)).cell? ⟨ws.heap.size,3,none⟩=some (.string ⟨#[73]⟩):=G.box.cell 3;go_wp2_with (first
  |(go_at_call 166;rcases hq2:QP g ⟨#[73]⟩ with _|S2;(with_reducible refine(G.putN ⟨#[73]⟩ hq2).mono ?_);(rintro e w4 E;obtain⟨hB,rfl⟩:=E.no';exact And.intro rfl (G.stop hB (i.out.symm.trans (qd ((qag (Decidable.not_not.2 I)).trans ((Zf D).trans (qA hq2)))))));(with_reducible refine(G.putY ⟨#[73]⟩ hq2).mono ?_);rintro e w4 E;obtain⟨Z,rfl,lv4,sv4,c,d⟩:=E.ok';(have v:=G.next Z c d)))
 go_end0;exact v.done (i.out.symm.trans (Zj ((qag (Decidable.not_not.2 I)).trans ((Zf D).trans (Zz hq2)))))
theorem QeE(w0 w:World)(B:Nat)(l:List qa)(base:Nat)(ws:World)(M:Env w0 w B l base ws)(sb:Nat)(qb Zb:Str)(lv sv:Value)(L S:List Str)(h:Qh base ws sb B qb Zb lv sv L S)(N:ql (Za l) S)(a b:Int)(A cls name:Str)(D:A.size<=1048576)(O:cls.size<=1048576)(E:qb.size<=maxLen):
 Calls prog 139 #[.pointer (some ⟨sb,0,none⟩),.agg #[.int .i64 24,.int .i64 a,.int .i64 b,.string A,.string cls,.string name]] ws (qf base ws sb B qb Zb lv sv (Zm (Zar (Za l) qb cls name A false L S))):=by
 have F:SA w0 w B l base ws lv sv sb qb Zb ws.heap.size [.int .i64 24,.int .i64 a,.int .i64 b,.string A,.string cls,.string name] (ws.alloc (.cells #[.int .i64 24,.int .i64 a,.int .i64 b,.string A,.string cls,.string name] 34)) lv sv L S:=SA.new M h _;obtain⟨Z,c,d,f,g,i⟩:=F.cells;obtain⟨T,C⟩:∃r,Zm (Zar (Za l) qb cls name A false L S)=r:=⟨_,rfl⟩;have P:=Xh C;rw[C];clear C M h;go_enter func139,ntmps139;go_wp2_with (first
  |(go_at_call 175;rcases hq0:Zar (Za l) qb cls name A false L S with _|⟨j,k⟩;(with_reducible refine(F.callN N 24 a b A cls name false O E D hq0).mono ?_);(rintro e Y J;obtain⟨U,rfl⟩:=J.no';exact And.intro rfl (F.stop U (P.out.symm.trans (qd hq0))));(with_reducible refine(F.callY N 24 a b A cls name false O E D hq0).mono ?_);rintro e Y J;obtain⟨G,rfl,V,X,H,I⟩:=J.ok';(have R:=F.next G H I)))
 go_end0;exact R.done (P.out.symm.trans (Zj hq0))
theorem zeF(w0 w:World)(B:Nat)(l:List qa)(base:Nat)(ws:World)(M:Env w0 w B l base ws)(sb:Nat)(qb Zb:Str)(lv sv:Value)(L S:List Str)(h:Qh base ws sb B qb Zb lv sv L S)(N:ql (Za l) S)(a b:Int)(A cls name:Str)(D:A.size<=1048576)(O:cls.size<=1048576)(E:qb.size<=maxLen):
 Calls prog 139 #[.pointer (some ⟨sb,0,none⟩),.agg #[.int .i64 25,.int .i64 a,.int .i64 b,.string A,.string cls,.string name]] ws (qf base ws sb B qb Zb lv sv (Zm (Zar (Za l) qb cls name A true L S))):=by
 have F:SA w0 w B l base ws lv sv sb qb Zb ws.heap.size [.int .i64 25,.int .i64 a,.int .i64 b,.string A,.string cls,.string name] (ws.alloc (.cells #[.int .i64 25,.int .i64 a,.int .i64 b,.string A,.string cls,.string name] 34)) lv sv L S:=SA.new M h _;obtain⟨Z,c,d,f,g,i⟩:=F.cells;obtain⟨T,C⟩:∃r,Zm (Zar (Za l) qb cls name A true L S)=r:=⟨_,rfl⟩;have P:=Xh C;rw[C];clear C M h;go_enter func139,ntmps139;go_wp2_with (first
  |(go_at_call 175;rcases hq0:Zar (Za l) qb cls name A true L S with _|⟨j,k⟩;(with_reducible refine(F.callN N 25 a b A cls name true O E D hq0).mono ?_);(rintro e Y J;obtain⟨U,rfl⟩:=J.no';exact And.intro rfl (F.stop U (P.out.symm.trans (qd hq0))));(with_reducible refine(F.callY N 25 a b A cls name true O E D hq0).mono ?_);rintro e Y J;obtain⟨G,rfl,V,X,H,I⟩:=J.ok';(have R:=F.next G H I)))
 go_end0;exact R.done (P.out.symm.trans (Zj hq0))
theorem Zdh(w0 w:World)(B:Nat)(l:List qa)(base:Nat)(ws:World)(E:Env w0 w B l base ws)(sb:Nat)(qb Zb:Str)(lv sv:Value)(L S:List Str)(h:Qh base ws sb B qb Zb lv sv L S)(A a b:Int)(C cls name:Str)(_hty:C.size<=1048576)(_hc:cls.size<=1048576)(_hfr:qb.size<=maxLen)(G:(A==15)=false)(H:(A==16)=false)(I:(A==17)=false)(J:(A==18)=false)(M:(A==19)=false)(N:(A==20)=false)(O:(A==21)=false)(P:(A==22)=false)(R:(A==23)=false)(T:(A==24)=false)(U:(A==25)=false):
 Calls prog 139 #[.pointer (some ⟨sb,0,none⟩),.agg #[.int .i64 A,.int .i64 a,.int .i64 b,.string C,.string cls,.string name]] ws (qf base ws sb B qb Zb lv sv (Zm (some (L,S)))):=by
 have F:SA w0 w B l base ws lv sv sb qb Zb ws.heap.size [.int .i64 A,.int .i64 a,.int .i64 b,.string C,.string cls,.string name] (ws.alloc (.cells #[.int .i64 A,.int .i64 a,.int .i64 b,.string C,.string cls,.string name] 34)) lv sv L S:=SA.new E h _;obtain⟨Y,Z,c,d,e,f⟩:=F.cells;obtain⟨X,D⟩:∃r,Zm (some (L,S))=r:=⟨_,rfl⟩;have V:=Xh D;rw[D];clear D E h;go_enter func139,ntmps139;go_wp2_with fail;go_end0;exact F.done (V.out.symm.trans (Zj rfl))
theorem zbJ(cs:List qa)(qb:Str)(a b:Int)(A cls name:Str)(L S:List Str):
 qJ cs qb ⟨15,a,b,A,cls,name⟩ L S=knK cs (Qc cls) (zbr cs cls L S)
 /\qJ cs qb ⟨16,a,b,A,cls,name⟩ L S=((qN cs cls name).bind fun t=>(zg cs [Qc cls] S).bind fun B=>qq L B t)
 /\qJ cs qb ⟨17,a,b,A,cls,name⟩ L S=((qN cs cls name).bind fun t=>(zg cs [t,Qc cls] S).map fun B=>(L,B))
 /\qJ cs qb ⟨18,a,b,A,cls,name⟩ L S=knK cs A ((zg cs [kI] S).bind fun B=>qq L B (Q5 A))
 /\qJ cs qb ⟨19,a,b,A,cls,name⟩ L S=((QD S).bind fun p=>if zat p.1=true then qq L p.2 kI else none)
 /\qJ cs qb ⟨20,a,b,A,cls,name⟩ L S=((qP cs A S).bind fun B=>qq L B A)
 /\qJ cs qb ⟨21,a,b,A,cls,name⟩ L S=knK cs A ((zg cs [A] S).bind fun B=>(qP cs A B).map fun C=>(L,C))
 /\qJ cs qb ⟨22,a,b,A,cls,name⟩ L S=knK cs A ((QD S).bind fun p=>qq L p.2 A)
 /\qJ cs qb ⟨23,a,b,A,cls,name⟩ L S=knK cs A ((QD S).bind fun p=>qq L p.2 kI)
 /\qJ cs qb ⟨24,a,b,A,cls,name⟩ L S=Zar cs qb cls name A false L S
 /\qJ cs qb ⟨25,a,b,A,cls,name⟩ L S=Zar cs qb cls name A true L S :=
 ⟨rfl,rfl,rfl,rfl,rfl,rfl,rfl,rfl,rfl,rfl,rfl⟩
theorem Za4{cs:List qa}{qb:Str}{x:Ins}{L S:List Str}(h:x.op≠15/\x.op≠16/\x.op≠17/\x.op≠18/\x.op≠19/\x.op≠20/\x.op≠21/\x.op≠22/\x.op≠23/\x.op≠24/\x.op≠25):qJ cs qb x L S=some (L,S):=by
 obtain⟨C,D,E,F,G,H,I,J,M,A,B⟩:=h;unfold qJ;rw[if_neg C,if_neg D,if_neg E,if_neg F,if_neg G,if_neg H,if_neg I,if_neg J,if_neg M,if_neg A,if_neg B]
theorem zd6(w0 w:World)(B:Nat)(l:List qa)(base:Nat)(ws:World)(F:Env w0 w B l base ws)(sb:Nat)(qb Zb:Str)(lv sv:Value)(L S:List Str)(h:Qh base ws sb B qb Zb lv sv L S)(x:Ins)(G:15<=x.op/\x.op<=25->ql (Za l) S)(C:x.type.size<=1048576)(E:x.cls.size<=1048576)(D:qb.size<=maxLen):
 Calls prog 139 #[.pointer (some ⟨sb,0,none⟩),zaq x] ws (qf base ws sb B qb Zb lv sv (Zm (qJ (Za l) qb x L S))):=by
 obtain⟨H,a,b,A,cls,name⟩:=x;replace C:A.size<=1048576:=C;replace E:cls.size<=1048576:=E;unfold zaq;dsimp only at G ⊢;obtain⟨f,g,i,j,m,n,o,q,r,s,t⟩:=zbJ (Za l) qb a b A cls name L S;by_cases M:H=15
 ·subst M;rw[f];by_cases N:Zg (Za l) (Qc cls)=0
  ·cases I:(Qd (Za l) cls).face with
   |true=>exact Qd3 w0 w B l base ws F sb qb Zb lv sv L S h (G (by omega)) a b A cls name C E D N I
   |false=>exact zd4 w0 w B l base ws F sb qb Zb lv sv L S h (G (by omega)) a b A cls name C E D N I
  ·exact qd3 w0 w B l base ws F sb qb Zb lv sv L S h (G (by omega)) a b A cls name C E D N
 by_cases O:H=16
 ·subst O;rw[g];exact ZeD w0 w B l base ws F sb qb Zb lv sv L S h (G (by omega)) a b A cls name C E D
 by_cases P:H=17
 ·subst P;rw[i];exact qeE w0 w B l base ws F sb qb Zb lv sv L S h (G (by omega)) a b A cls name C E D
 by_cases R:H=18
 ·subst R;rw[j];exact qeD w0 w B l base ws F sb qb Zb lv sv L S h (G (by omega)) a b A cls name C E D
 by_cases T:H=19
 ·subst T;rw[m];cases J:QD S with
  |none =>
   have:=Zd4 w0 w B l base ws F sb qb Zb lv sv L S h (G (by omega)) a b A cls name C E D J;rw[J]at this;exact this
  |some p =>
   obtain⟨k,d⟩:=p;rw[<-J];cases e:(k.toList==[78]) with
   |true=>exact qd4 w0 w B l base ws F sb qb Zb lv sv L S h (G (by omega)) a b A cls name C E D k d J e
   |false =>
    cases v:Lib.hasPrefix k.toList [91] with
    |true=>exact Qd4 w0 w B l base ws F sb qb Zb lv sv L S h (G (by omega)) a b A cls name C E D k d J e v
    |false=>exact zd5 w0 w B l base ws F sb qb Zb lv sv L S h (G (by omega)) a b A cls name C E D k d J e v
 by_cases U:H=20
 ·subst U;rw[n];exact QeD w0 w B l base ws F sb qb Zb lv sv L S h (G (by omega)) a b A cls name C E D
 by_cases V:H=21
 ·subst V;rw[o];exact zeE w0 w B l base ws F sb qb Zb lv sv L S h (G (by omega)) a b A cls name C E D
 by_cases X:H=22
 ·subst X;rw[q];exact ZeE w0 w B l base ws F sb qb Zb lv sv L S h (G (by omega)) a b A cls name C E D
 by_cases Y:H=23
 ·subst Y;rw[r];by_cases N:Zg (Za l) A=0
  ·cases J:QD S with
   |none =>
    have:=qd5 w0 w B l base ws F sb qb Zb lv sv L S h (G (by omega)) a b A cls name C E D N J;rw[J]at this;exact this
   |some p =>
    obtain⟨k,d⟩:=p;rw[<-J];exact Qd5 w0 w B l base ws F sb qb Zb lv sv L S h (G (by omega)) a b A cls name C E D N k d J
  ·exact Zd5 w0 w B l base ws F sb qb Zb lv sv L S h (G (by omega)) a b A cls name C E D N
 by_cases Z:H=24
 ·subst Z;rw[s];exact QeE w0 w B l base ws F sb qb Zb lv sv L S h (G (by omega)) a b A cls name C E D
 by_cases c:H=25
 ·subst c;rw[t];exact zeF w0 w B l base ws F sb qb Zb lv sv L S h (G (by omega)) a b A cls name C E D
 rw[Za4 ⟨M,O,P,R,T,U,V,X,Y,Z,c⟩];exact Zdh w0 w B l base ws F sb qb Zb lv sv L S h H a b A cls name C E D (by simpa using M) (by simpa using O) (by simpa using P) (by simpa using R) (by simpa using T) (by simpa using U) (by simpa using V) (by simpa using X) (by simpa using Y) (by simpa using Z) (by simpa using c)
def Qae(cs:List qa)(qb Zb:Str)(x:Ins)(L S:List Str):Option (List Str×List Str):=(zE cs Zb x L S).bind fun p=>qJ cs qb x p.1 p.2
theorem Zd6(cs:List qa)(qb Zb:Str)(x:Ins)(L S:List Str):((zE cs Zb x L S).bind fun _=>Qae cs qb Zb x L S)=Qae cs qb Zb x L S:=by
 cases h:zE cs Zb x L S with
 |none=>unfold Qae;rw[h];rfl
 |some p=>rfl
theorem ZdH{cs:List qa}{f:Frm}(h:qG cs f=0):ql cs f.stack:=(Qt h).2.2.2
theorem Qen(w0 w:World)(B:Nat)(l:List qa)(P:qh w0 w B l)(qb Zb:Str)(x:Ins)(f:Frm)(F G:Value)(V:QI w F G f)(R:qG (Za l) f=0)(H:ZbB x)(X:x.op=4\/x.op=5->0<=x.a)(I:qb.size<=maxLen)(Y:Zb.size<=maxLen):
 Calls prog 106 #[.map (some B),.string qb,.string Zb,zaq x,.agg #[F,G]] w (Zb4 w (Qae (Za l) qb Zb x f.locals f.stack)):=by
 have T:=ZdH R;obtain⟨d,U,_,_⟩:=Qt R;rw[<-Zd6];have J:x.type.size<=maxLen:=Xf H.type (by decide);obtain⟨D,a,b,A,cls,name⟩:=x;refine qd6 w B qb Zb D a b A cls name f F G V (by omega) (by omega) _ _ (fun base wx sb lv sv M N C=>?_) (fun L S E base wx sb lv sv M N C=>?_)
 ·exact(zeu w0 w B l base wx ⟨P,M,N⟩ sb qb Zb lv sv f.locals f.stack C T ⟨D,a,b,A,cls,name⟩ J Y X).mono fun _ _ h=>h.post
 ·have Z:Qae (Za l) qb Zb ⟨D,a,b,A,cls,name⟩ f.locals f.stack=qJ (Za l) qb ⟨D,a,b,A,cls,name⟩ L S:=by unfold Qae;rw[E];rfl
  rw[Z];refine(zd6 w0 w B l base wx ⟨P,M,N⟩ sb qb Zb lv sv L S C ⟨D,a,b,A,cls,name⟩ (fun O=>?_) H.type H.cls I).mono fun _ _ h=>h.post
  have c:zE (Za l) Zb ⟨D,a,b,A,cls,name⟩ f.locals f.stack=some (f.locals,f.stack):=QaQ (by dsimp only at O ⊢;omega);rw[c]at E;injection E with E
  injection E with _ U
  exact U▸T
theorem qcz{x:Ins}(h:qo x=0)(B:x.op=4\/x.op=5):0<=x.a:=by
 unfold qo at h;split at h
 ·cases h
 ·split at h
  ·cases h
  ·split at h
   ·cases h
   ·rename_i A;unfold qR at A;rw[if_neg (by omega),if_pos B]at A;simp at A;omega
