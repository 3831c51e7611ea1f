/- Lemmas; conditions: as each states. -/
import Derived.Test.YtlmfmioljeppfaaGreatDoorCall
set_option maxHeartbeats 4000000
namespace Go.Proofs.YtlmfmioljeppfaaGreatDoor
open Go.RowKit Go.Shelf Go.Lib
def qaV(cs:List Qb)(k t:Str):Bool:=match Zo k with
 |.n=>true
 |.ty (.ar e)=>Zx cs (.ty e) (Zo t)&&(Ql e==qt (Zo t))
 |_=>false
def zK(cs:List Qb)(t:Str)(S:List Str):Option (List Str) :=
 if zd cs t≠0 then none else (zh cs [kI] S).bind fun S1=>(qK S1).bind fun p=>if qaV cs p.1 t then some p.2 else none
set_option maxRecDepth 100000
theorem zee(w0 w:World)(B:Nat)(l:List Qb)(base:Nat)(ws:World)(sb:Nat)(qb Zb:Str)(lv sv:Value)(L S:List Str)(hS:Qm (Za l) S)(xb:Nat)(xv:List Value)(T0:SA w0 w B l base ws lv sv sb qb Zb xb xv ws lv sv L S)(t k:Str)(ht:t.size<=maxLen)(hk:zd (Za l) t=0)(S1 S2:List Str)(hq1:zh (Za l) [kI] S=some S1)(hq2:qK S1=some (k,S2))(hn:(k.toList==[78])=true):
 Calls Tryz.prog 146 #[.pointer (some ⟨sb,0,none⟩),.string t] ws (qf base ws sb B qb Zb lv sv (some (.tuple #[],L,S2))):=by
 unfold kI at *;have HT:Hid (∀wx,_):=fun wx=>zI wx
 go_enter Tryz.func146,Tryz.ntmps146;go_upto_region 3 with(first
  |(go_fit (T0.knowsY t ht hk);rintro e w1 hP;obtain⟨hB1,rfl,lv1,sv1,hS1,hk1⟩:=hP.ok';(have T1:=T0.next hB1 hS1 hk1);(have T1a:=T1.alloc (.cells #[.string ⟨#[73]⟩] 9)))
  |(go_fit (T1.takeOY hS ⟨#[73]⟩ (zac _) _ (by simp) hq1);rintro e w2 hP;obtain⟨hB2,rfl,lv2,sv2,hS2,hk2⟩:=hP.ok';(have T2:=T1a.next hB2 hS2 hk2);(have hN2:=qj hq1 hS))
  |(go_fit (T2.refY hN2 hq2);rintro e w3 hP;obtain⟨hB3,rfl,lv3,sv3,hS3,hk3⟩:=hP.ok'))
 have T3:=(T2.next hB3 hS3 hk3).over Xb.drew;have HT3:=Xh T3;have q3:w3.drew.cell? ⟨sb,0,none⟩=some (.map (some B)):=T3.step.blk.cell 0;clear T0 T1 T1a T2 T3 hB1 hB2 hB3 hS1 hS2 hS3 hk1 hk2 hk3 hP hq1 hq2 hN2 hS;refine wp_region_held_drew (S:=fun w'=>w'.cell? ⟨sb,0,none⟩=some (.map (some B))) (by kernel_rfl) q3 (fun hHeld=>?_);change wpAnyH _ _ _ _ _ 26 _ _ _;iterate 25 ((first|(refine tkN rfl rfl (by kernel_rfl) (by kernel_rfl) (by kernel_rfl) (fun _ _ _ h=>h) (by rfl) hHeld ?_)|(refine tkY (v:=?_) rfl rfl (by kernel_rfl) (by kernel_rfl) (by kernel_rfl) (fun _ _ _ h=>h) (by rfl) hHeld ?_ ?_;rotate_left;focus (intro w hSw;((try dsimp only at hSw));go_simp;all_goals with_reducible rfl)));try simp only[Act.put,Xa,Xc,Xd])
 refine wpAnyH_ready (rs:=[25]) (fuel:=0) (by kernel_rfl) (by simp) ?_;refine AllReadyH.cons (i:=25) rfl (fun K hK=>?_) AllReadyH.nil;go_simp;refine(HT.out _).mono ?_;rintro e wq⟨rfl,rfl⟩;refine hK.out _ _ q3 (fun hHeld=>?_);clear hK K;try dsimp only[Act.put]
 refine wpAnyH_done (by kernel_rfl) ?_ _;clear hHeld;go_wp2_with fail;go_end0;exact HT3.out.done rfl
theorem Zee(w0 w:World)(B:Nat)(l:List Qb)(base:Nat)(ws:World)(sb:Nat)(qb Zb:Str)(lv sv:Value)(L S:List Str)(hS:Qm (Za l) S)(xb:Nat)(xv:List Value)(T0:SA w0 w B l base ws lv sv sb qb Zb xb xv ws lv sv L S)(t k:Str)(ht:t.size<=maxLen)(hk:zd (Za l) t=0)(S1 S2:List Str)(hq1:zh (Za l) [kI] S=some S1)(hq2:qK S1=some (k,S2))(hn:(k.toList==[78])=false)(hp:0<k.size)(hf:(((k[0]'hp).toNat:Int)==91)=false):
 Calls Tryz.prog 146 #[.pointer (some ⟨sb,0,none⟩),.string t] ws (qf base ws sb B qb Zb lv sv none):=by
 unfold kI at *;have HF:Hid (∀wx,_):=fun wx=>qB wx
 go_enter Tryz.func146,Tryz.ntmps146;go_upto_region 3 with(first
  |(go_fit (T0.knowsY t ht hk);rintro e w1 hP;obtain⟨hB1,rfl,lv1,sv1,hS1,hk1⟩:=hP.ok';(have T1:=T0.next hB1 hS1 hk1);(have T1a:=T1.alloc (.cells #[.string ⟨#[73]⟩] 9)))
  |(go_fit (T1.takeOY hS ⟨#[73]⟩ (zac _) _ (by simp) hq1);rintro e w2 hP;obtain⟨hB2,rfl,lv2,sv2,hS2,hk2⟩:=hP.ok';(have T2:=T1a.next hB2 hS2 hk2);(have hN2:=qj hq1 hS))
  |(go_fit (T2.refY hN2 hq2);rintro e w3 hP;obtain⟨hB3,rfl,lv3,sv3,hS3,hk3⟩:=hP.ok'))
 have T3:=(T2.next hB3 hS3 hk3).over Xb.drew;have HT3:=Xh T3;have q3:w3.drew.cell? ⟨sb,0,none⟩=some (.map (some B)):=T3.step.blk.cell 0;clear T0 T1 T1a T2 T3 hB1 hB2 hB3 hS1 hS2 hS3 hk1 hk2 hk3 hP hq1 hq2 hN2 hS;refine wp_region_held_drew (S:=fun w'=>w'.cell? ⟨sb,0,none⟩=some (.map (some B))) (by kernel_rfl) q3 (fun hHeld=>?_);change wpAnyH _ _ _ _ _ 26 _ _ _;iterate 25 ((first|(refine tkN rfl rfl (by kernel_rfl) (by kernel_rfl) (by kernel_rfl) (fun _ _ _ h=>h) (by rfl) hHeld ?_)|(refine tkY (v:=?_) rfl rfl (by kernel_rfl) (by kernel_rfl) (by kernel_rfl) (fun _ _ _ h=>h) (by rfl) hHeld ?_ ?_;rotate_left;focus (intro w hSw;((try dsimp only at hSw));go_simp;all_goals with_reducible rfl)));try simp only[Act.put,Xa,Xc,Xd])
 refine wpAnyH_ready (rs:=[25]) (fuel:=0) (by kernel_rfl) (by simp) ?_;refine AllReadyH.cons (i:=25) rfl (fun K hK=>?_) AllReadyH.nil;go_simp;refine(HF.out _).mono ?_;rintro e wq⟨rfl,rfl⟩;exact And.intro rfl (HT3.out.stop Xb rfl)
theorem qee(w0 w:World)(B:Nat)(l:List Qb)(base:Nat)(ws:World)(sb:Nat)(qb Zb:Str)(lv sv:Value)(L S:List Str)(hS:Qm (Za l) S)(xb:Nat)(xv:List Value)(T0:SA w0 w B l base ws lv sv sb qb Zb xb xv ws lv sv L S)(t k:Str)(ht:t.size<=maxLen)(hk:zd (Za l) t=0)(S1 S2:List Str)(hq1:zh (Za l) [kI] S=some S1)(hq2:qK S1=some (k,S2))(hn:(k.toList==[78])=false)(hp:0<k.size)(hf:(((k[0]'hp).toNat:Int)==91)=true)(h1:(1:Int)<=(k.size:Int))(hkk:zd (Za l) (k.extract 1 k.size)=0)(hd:Zx (Za l) (Zo (k.extract 1 k.size)) (Zo t)=false):
 Calls Tryz.prog 146 #[.pointer (some ⟨sb,0,none⟩),.string t] ws (qf base ws sb B qb Zb lv sv none):=by
 unfold kI at *;have HF:Hid (∀wx,_):=fun wx=>qB wx
 go_enter Tryz.func146,Tryz.ntmps146;go_upto_region 3 with(first
  |(go_fit (T0.knowsY t ht hk);rintro e w1 hP;obtain⟨hB1,rfl,lv1,sv1,hS1,hk1⟩:=hP.ok';(have T1:=T0.next hB1 hS1 hk1);(have T1a:=T1.alloc (.cells #[.string ⟨#[73]⟩] 9)))
  |(go_fit (T1.takeOY hS ⟨#[73]⟩ (zac _) _ (by simp) hq1);rintro e w2 hP;obtain⟨hB2,rfl,lv2,sv2,hS2,hk2⟩:=hP.ok';(have T2:=T1a.next hB2 hS2 hk2);(have hN2:=qj hq1 hS))
  |(go_fit (T2.refY hN2 hq2);rintro e w3 hP;obtain⟨hB3,rfl,lv3,sv3,hS3,hk3⟩:=hP.ok'))
 have T3:=(T2.next hB3 hS3 hk3).over Xb.drew;have HT3:=Xh T3;have q3:w3.drew.cell? ⟨sb,0,none⟩=some (.map (some B)):=T3.step.blk.cell 0;clear T0 T1 T1a T2 T3 hB1 hB2 hB3 hS1 hS2 hS3 hk1 hk2 hk3 hP hq1 hq2 hN2 hS;have HD:=Xh (Qat w0 _ B l HT3.out.env.map (k.extract 1 k.size) t hkk hk);rw[hd]at HD;refine wp_region_held_drew (S:=fun w'=>w'.cell? ⟨sb,0,none⟩=some (.map (some B))) (by kernel_rfl) q3 (fun hHeld=>?_);change wpAnyH _ _ _ _ _ 26 _ _ _;iterate 14 ((first|(refine tkN rfl rfl (by kernel_rfl) (by kernel_rfl) (by kernel_rfl) (fun _ _ _ h=>h) (by rfl) hHeld ?_)|(refine tkY (v:=?_) rfl rfl (by kernel_rfl) (by kernel_rfl) (by kernel_rfl) (fun _ _ _ h=>h) (by rfl) hHeld ?_ ?_;rotate_left;focus (intro w hSw;((try dsimp only at hSw));go_simp;all_goals with_reducible rfl)));try simp only[Act.put,Xa,Xc,Xd])
 refine wpAnyH_ready (rs:=[14]) (fuel:=11) (by kernel_rfl) (by simp) ?_;refine AllReadyH.cons (i:=14) rfl (fun K hK=>?_) AllReadyH.nil;go_simp;refine HD.out.mono ?_;rintro e w5⟨rfl,hB5⟩;have HT5:=Xh (HT3.out.over hB5);refine hK.out _ _ (HT5.out.step.blk.cell 0) (fun hHeld=>?_);clear hK K;try dsimp only[Act.put]
 change wpAnyH _ _ _ _ _ 11 _ _ _;iterate 10 ((first|(refine tkN rfl rfl (by kernel_rfl) (by kernel_rfl) (by kernel_rfl) (fun _ _ _ h=>h) (by rfl) hHeld ?_)|(refine tkY (v:=?_) rfl rfl (by kernel_rfl) (by kernel_rfl) (by kernel_rfl) (fun _ _ _ h=>h) (by rfl) hHeld ?_ ?_;rotate_left;focus (intro w hSw;((try dsimp only at hSw));go_simp;all_goals with_reducible rfl)));try simp only[Act.put,Xa,Xc,Xd])
 refine wpAnyH_ready (rs:=[25]) (fuel:=0) (by kernel_rfl) (by simp) ?_;refine AllReadyH.cons (i:=25) rfl (fun K hK=>?_) AllReadyH.nil;go_simp;refine(HF.out _).mono ?_;rintro e wq⟨rfl,rfl⟩;exact And.intro rfl (HT5.out.stop Xb rfl)
theorem Qd3(w0 w:World)(B:Nat)(l:List Qb)(base:Nat)(ws:World)(sb:Nat)(qb Zb:Str)(lv sv:Value)(L S:List Str)(hS:Qm (Za l) S)(xb:Nat)(xv:List Value)(T0:SA w0 w B l base ws lv sv sb qb Zb xb xv ws lv sv L S)(t k:Str)(ht:t.size<=maxLen)(hk:zd (Za l) t=0)(S1 S2:List Str)(hq1:zh (Za l) [kI] S=some S1)(hq2:qK S1=some (k,S2))(hn:(k.toList==[78])=false)(hp:0<k.size)(hf:(((k[0]'hp).toNat:Int)==91)=true)(h1:(1:Int)<=(k.size:Int))(hkk:zd (Za l) (k.extract 1 k.size)=0)(hd:Zx (Za l) (Zo (k.extract 1 k.size)) (Zo t)=true)(hru:∀wx,Calls Tryz.prog 151 #[.string (k.extract 1 k.size)] wx fun e w'=>e=.returned (.bool true)/\wx=w')(hrv:∀wx,Calls Tryz.prog 151 #[.string t] wx fun e w'=>e=.returned (.bool true)/\wx=w'):
 Calls Tryz.prog 146 #[.pointer (some ⟨sb,0,none⟩),.string t] ws (qf base ws sb B qb Zb lv sv (some (.tuple #[],L,S2))):=by
 unfold kI at *;have HT:Hid (∀wx,_):=fun wx=>zI wx
 have HU:=Xh hru;have HV:=Xh hrv;clear hru hrv;go_enter Tryz.func146,Tryz.ntmps146;go_upto_region 3 with(first
  |(go_fit (T0.knowsY t ht hk);rintro e w1 hP;obtain⟨hB1,rfl,lv1,sv1,hS1,hk1⟩:=hP.ok';(have T1:=T0.next hB1 hS1 hk1);(have T1a:=T1.alloc (.cells #[.string ⟨#[73]⟩] 9)))
  |(go_fit (T1.takeOY hS ⟨#[73]⟩ (zac _) _ (by simp) hq1);rintro e w2 hP;obtain⟨hB2,rfl,lv2,sv2,hS2,hk2⟩:=hP.ok';(have T2:=T1a.next hB2 hS2 hk2);(have hN2:=qj hq1 hS))
  |(go_fit (T2.refY hN2 hq2);rintro e w3 hP;obtain⟨hB3,rfl,lv3,sv3,hS3,hk3⟩:=hP.ok'))
 have T3:=(T2.next hB3 hS3 hk3).over Xb.drew;have HT3:=Xh T3;have q3:w3.drew.cell? ⟨sb,0,none⟩=some (.map (some B)):=T3.step.blk.cell 0;clear T0 T1 T1a T2 T3 hB1 hB2 hB3 hS1 hS2 hS3 hk1 hk2 hk3 hP hq1 hq2 hN2 hS;have HD:=Xh (Qat w0 _ B l HT3.out.env.map (k.extract 1 k.size) t hkk hk);rw[hd]at HD;refine wp_region_held_drew (S:=fun w'=>w'.cell? ⟨sb,0,none⟩=some (.map (some B))) (by kernel_rfl) q3 (fun hHeld=>?_);change wpAnyH _ _ _ _ _ 26 _ _ _;iterate 14 ((first|(refine tkN rfl rfl (by kernel_rfl) (by kernel_rfl) (by kernel_rfl) (fun _ _ _ h=>h) (by rfl) hHeld ?_)|(refine tkY (v:=?_) rfl rfl (by kernel_rfl) (by kernel_rfl) (by kernel_rfl) (fun _ _ _ h=>h) (by rfl) hHeld ?_ ?_;rotate_left;focus (intro w hSw;((try dsimp only at hSw));go_simp;all_goals with_reducible rfl)));try simp only[Act.put,Xa,Xc,Xd])
 refine wpAnyH_ready (rs:=[14]) (fuel:=11) (by kernel_rfl) (by simp) ?_;refine AllReadyH.cons (i:=14) rfl (fun K hK=>?_) AllReadyH.nil;go_simp;refine HD.out.mono ?_;rintro e w5⟨rfl,hB5⟩;have HT5:=Xh (HT3.out.over hB5);refine hK.out _ _ (HT5.out.step.blk.cell 0) (fun hHeld=>?_);clear hK K;try dsimp only[Act.put]
 change wpAnyH _ _ _ _ _ 11 _ _ _;iterate 4 ((first|(refine tkN rfl rfl (by kernel_rfl) (by kernel_rfl) (by kernel_rfl) (fun _ _ _ h=>h) (by rfl) hHeld ?_)|(refine tkY (v:=?_) rfl rfl (by kernel_rfl) (by kernel_rfl) (by kernel_rfl) (fun _ _ _ h=>h) (by rfl) hHeld ?_ ?_;rotate_left;focus (intro w hSw;((try dsimp only at hSw));go_simp;all_goals with_reducible rfl)));try simp only[Act.put,Xa,Xc,Xd])
 refine tkI (i:=20) (fuel:=6) (v:=?_) rfl (by kernel_rfl) (by kernel_rfl) (by kernel_rfl) (fun _ _ _ h=>h) (by rfl) hHeld ?_ ?_;rotate_left;focus (intro w hSw;((try dsimp only at hSw));go_simp;all_goals with_reducible rfl);(try simp only[Act.put]);(try simp only[Xa]);(try simp only[Xd]);(try simp only[Xc])
 refine wpAnyH_ready (rs:=[19]) (fuel:=5) (by kernel_rfl) (by simp) ?_;refine AllReadyH.cons (i:=19) rfl (fun K hK=>?_) AllReadyH.nil;go_simp;refine(HU.out _).mono ?_;rintro e wr⟨rfl,rfl⟩;refine hK.out _ _ (HT5.out.step.blk.cell 0) (fun hHeld=>?_);clear hK K;try dsimp only[Act.put]
 refine wpAnyH_ready (rs:=[21]) (fuel:=4) (by kernel_rfl) (by simp) ?_;refine AllReadyH.cons (i:=21) rfl (fun K hK=>?_) AllReadyH.nil;go_simp;refine(HV.out _).mono ?_;rintro e wr⟨rfl,rfl⟩;refine hK.out _ _ (HT5.out.step.blk.cell 0) (fun hHeld=>?_);clear hK K;try dsimp only[Act.put]
 change wpAnyH _ _ _ _ _ 4 _ _ _;iterate 3 ((first|(refine tkN rfl rfl (by kernel_rfl) (by kernel_rfl) (by kernel_rfl) (fun _ _ _ h=>h) (by rfl) hHeld ?_)|(refine tkY (v:=?_) rfl rfl (by kernel_rfl) (by kernel_rfl) (by kernel_rfl) (fun _ _ _ h=>h) (by rfl) hHeld ?_ ?_;rotate_left;focus (intro w hSw;((try dsimp only at hSw));go_simp;all_goals with_reducible rfl)));(try simp only[Act.put]);(try simp only[Xa]);(try simp only[Xd]);(try simp only[Xc]))
 refine wpAnyH_ready (rs:=[25]) (fuel:=0) (by kernel_rfl) (by simp) ?_;refine AllReadyH.cons (i:=25) rfl (fun K hK=>?_) AllReadyH.nil;go_simp;refine(HT.out _).mono ?_;rintro e wq⟨rfl,rfl⟩;refine hK.out _ _ (HT5.out.step.blk.cell 0) (fun hHeld=>?_);clear hK K;try dsimp only[Act.put]
 refine wpAnyH_done (by kernel_rfl) ?_ _;clear hHeld;go_wp2_with fail;go_end0;exact HT5.out.done rfl
theorem zd4(w0 w:World)(B:Nat)(l:List Qb)(base:Nat)(ws:World)(sb:Nat)(qb Zb:Str)(lv sv:Value)(L S:List Str)(hS:Qm (Za l) S)(xb:Nat)(xv:List Value)(T0:SA w0 w B l base ws lv sv sb qb Zb xb xv ws lv sv L S)(t k:Str)(ht:t.size<=maxLen)(hk:zd (Za l) t=0)(S1 S2:List Str)(hq1:zh (Za l) [kI] S=some S1)(hq2:qK S1=some (k,S2))(hn:(k.toList==[78])=false)(hp:0<k.size)(hf:(((k[0]'hp).toNat:Int)==91)=true)(h1:(1:Int)<=(k.size:Int))(hkk:zd (Za l) (k.extract 1 k.size)=0)(hd:Zx (Za l) (Zo (k.extract 1 k.size)) (Zo t)=true)(hru:∀wx,Calls Tryz.prog 151 #[.string (k.extract 1 k.size)] wx fun e w'=>e=.returned (.bool true)/\wx=w')(hrv:∀wx,Calls Tryz.prog 151 #[.string t] wx fun e w'=>e=.returned (.bool false)/\wx=w'):
 Calls Tryz.prog 146 #[.pointer (some ⟨sb,0,none⟩),.string t] ws (qf base ws sb B qb Zb lv sv none):=by
 unfold kI at *;have HF:Hid (∀wx,_):=fun wx=>qB wx
 have HU:=Xh hru;have HV:=Xh hrv;clear hru hrv;go_enter Tryz.func146,Tryz.ntmps146;go_upto_region 3 with(first
  |(go_fit (T0.knowsY t ht hk);rintro e w1 hP;obtain⟨hB1,rfl,lv1,sv1,hS1,hk1⟩:=hP.ok';(have T1:=T0.next hB1 hS1 hk1);(have T1a:=T1.alloc (.cells #[.string ⟨#[73]⟩] 9)))
  |(go_fit (T1.takeOY hS ⟨#[73]⟩ (zac _) _ (by simp) hq1);rintro e w2 hP;obtain⟨hB2,rfl,lv2,sv2,hS2,hk2⟩:=hP.ok';(have T2:=T1a.next hB2 hS2 hk2);(have hN2:=qj hq1 hS))
  |(go_fit (T2.refY hN2 hq2);rintro e w3 hP;obtain⟨hB3,rfl,lv3,sv3,hS3,hk3⟩:=hP.ok'))
 have T3:=(T2.next hB3 hS3 hk3).over Xb.drew;have HT3:=Xh T3;have q3:w3.drew.cell? ⟨sb,0,none⟩=some (.map (some B)):=T3.step.blk.cell 0;clear T0 T1 T1a T2 T3 hB1 hB2 hB3 hS1 hS2 hS3 hk1 hk2 hk3 hP hq1 hq2 hN2 hS;have HD:=Xh (Qat w0 _ B l HT3.out.env.map (k.extract 1 k.size) t hkk hk);rw[hd]at HD;refine wp_region_held_drew (S:=fun w'=>w'.cell? ⟨sb,0,none⟩=some (.map (some B))) (by kernel_rfl) q3 (fun hHeld=>?_);change wpAnyH _ _ _ _ _ 26 _ _ _;iterate 14 ((first|(refine tkN rfl rfl (by kernel_rfl) (by kernel_rfl) (by kernel_rfl) (fun _ _ _ h=>h) (by rfl) hHeld ?_)|(refine tkY (v:=?_) rfl rfl (by kernel_rfl) (by kernel_rfl) (by kernel_rfl) (fun _ _ _ h=>h) (by rfl) hHeld ?_ ?_;rotate_left;focus (intro w hSw;((try dsimp only at hSw));go_simp;all_goals with_reducible rfl)));try simp only[Act.put,Xa,Xc,Xd])
 refine wpAnyH_ready (rs:=[14]) (fuel:=11) (by kernel_rfl) (by simp) ?_;refine AllReadyH.cons (i:=14) rfl (fun K hK=>?_) AllReadyH.nil;go_simp;refine HD.out.mono ?_;rintro e w5⟨rfl,hB5⟩;have HT5:=Xh (HT3.out.over hB5);refine hK.out _ _ (HT5.out.step.blk.cell 0) (fun hHeld=>?_);clear hK K;try dsimp only[Act.put]
 change wpAnyH _ _ _ _ _ 11 _ _ _;iterate 4 ((first|(refine tkN rfl rfl (by kernel_rfl) (by kernel_rfl) (by kernel_rfl) (fun _ _ _ h=>h) (by rfl) hHeld ?_)|(refine tkY (v:=?_) rfl rfl (by kernel_rfl) (by kernel_rfl) (by kernel_rfl) (fun _ _ _ h=>h) (by rfl) hHeld ?_ ?_;rotate_left;focus (intro w hSw;((try dsimp only at hSw));go_simp;all_goals with_reducible rfl)));try simp only[Act.put,Xa,Xc,Xd])
 refine tkI (i:=20) (fuel:=6) (v:=?_) rfl (by kernel_rfl) (by kernel_rfl) (by kernel_rfl) (fun _ _ _ h=>h) (by rfl) hHeld ?_ ?_;rotate_left;focus (intro w hSw;((try dsimp only at hSw));go_simp;all_goals with_reducible rfl);(try simp only[Act.put]);(try simp only[Xa]);(try simp only[Xd]);(try simp only[Xc])
 refine wpAnyH_ready (rs:=[19]) (fuel:=5) (by kernel_rfl) (by simp) ?_;refine AllReadyH.cons (i:=19) rfl (fun K hK=>?_) AllReadyH.nil;go_simp;refine(HU.out _).mono ?_;rintro e wr⟨rfl,rfl⟩;refine hK.out _ _ (HT5.out.step.blk.cell 0) (fun hHeld=>?_);clear hK K;try dsimp only[Act.put]
 refine wpAnyH_ready (rs:=[21]) (fuel:=4) (by kernel_rfl) (by simp) ?_;refine AllReadyH.cons (i:=21) rfl (fun K hK=>?_) AllReadyH.nil;go_simp;refine(HV.out _).mono ?_;rintro e wr⟨rfl,rfl⟩;refine hK.out _ _ (HT5.out.step.blk.cell 0) (fun hHeld=>?_);clear hK K;try dsimp only[Act.put]
 change wpAnyH _ _ _ _ _ 4 _ _ _;iterate 3 ((first|(refine tkN rfl rfl (by kernel_rfl) (by kernel_rfl) (by kernel_rfl) (fun _ _ _ h=>h) (by rfl) hHeld ?_)|(refine tkY (v:=?_) rfl rfl (by kernel_rfl) (by kernel_rfl) (by kernel_rfl) (fun _ _ _ h=>h) (by rfl) hHeld ?_ ?_;rotate_left;focus (intro w hSw;((try dsimp only at hSw));go_simp;all_goals with_reducible rfl)));(try simp only[Act.put]);(try simp only[Xa]);(try simp only[Xd]);(try simp only[Xc]))
 refine wpAnyH_ready (rs:=[25]) (fuel:=0) (by kernel_rfl) (by simp) ?_;refine AllReadyH.cons (i:=25) rfl (fun K hK=>?_) AllReadyH.nil;go_simp;refine(HF.out _).mono ?_;rintro e wq⟨rfl,rfl⟩;exact And.intro rfl (HT5.out.stop Xb rfl)
theorem Zd4(w0 w:World)(B:Nat)(l:List Qb)(base:Nat)(ws:World)(sb:Nat)(qb Zb:Str)(lv sv:Value)(L S:List Str)(hS:Qm (Za l) S)(xb:Nat)(xv:List Value)(T0:SA w0 w B l base ws lv sv sb qb Zb xb xv ws lv sv L S)(t k:Str)(ht:t.size<=maxLen)(hk:zd (Za l) t=0)(S1 S2:List Str)(hq1:zh (Za l) [kI] S=some S1)(hq2:qK S1=some (k,S2))(hn:(k.toList==[78])=false)(hp:0<k.size)(hf:(((k[0]'hp).toNat:Int)==91)=true)(h1:(1:Int)<=(k.size:Int))(hkk:zd (Za l) (k.extract 1 k.size)=0)(hd:Zx (Za l) (Zo (k.extract 1 k.size)) (Zo t)=true)(hru:∀wx,Calls Tryz.prog 151 #[.string (k.extract 1 k.size)] wx fun e w'=>e=.returned (.bool false)/\wx=w')(hrv:∀wx,Calls Tryz.prog 151 #[.string t] wx fun e w'=>e=.returned (.bool true)/\wx=w'):
 Calls Tryz.prog 146 #[.pointer (some ⟨sb,0,none⟩),.string t] ws (qf base ws sb B qb Zb lv sv none):=by
 unfold kI at *;have HF:Hid (∀wx,_):=fun wx=>qB wx
 have HU:=Xh hru;have HV:=Xh hrv;clear hru hrv;go_enter Tryz.func146,Tryz.ntmps146;go_upto_region 3 with(first
  |(go_fit (T0.knowsY t ht hk);rintro e w1 hP;obtain⟨hB1,rfl,lv1,sv1,hS1,hk1⟩:=hP.ok';(have T1:=T0.next hB1 hS1 hk1);(have T1a:=T1.alloc (.cells #[.string ⟨#[73]⟩] 9)))
  |(go_fit (T1.takeOY hS ⟨#[73]⟩ (zac _) _ (by simp) hq1);rintro e w2 hP;obtain⟨hB2,rfl,lv2,sv2,hS2,hk2⟩:=hP.ok';(have T2:=T1a.next hB2 hS2 hk2);(have hN2:=qj hq1 hS))
  |(go_fit (T2.refY hN2 hq2);rintro e w3 hP;obtain⟨hB3,rfl,lv3,sv3,hS3,hk3⟩:=hP.ok'))
 have T3:=(T2.next hB3 hS3 hk3).over Xb.drew;have HT3:=Xh T3;have q3:w3.drew.cell? ⟨sb,0,none⟩=some (.map (some B)):=T3.step.blk.cell 0;clear T0 T1 T1a T2 T3 hB1 hB2 hB3 hS1 hS2 hS3 hk1 hk2 hk3 hP hq1 hq2 hN2 hS;have HD:=Xh (Qat w0 _ B l HT3.out.env.map (k.extract 1 k.size) t hkk hk);rw[hd]at HD;refine wp_region_held_drew (S:=fun w'=>w'.cell? ⟨sb,0,none⟩=some (.map (some B))) (by kernel_rfl) q3 (fun hHeld=>?_);change wpAnyH _ _ _ _ _ 26 _ _ _;iterate 14 ((first|(refine tkN rfl rfl (by kernel_rfl) (by kernel_rfl) (by kernel_rfl) (fun _ _ _ h=>h) (by rfl) hHeld ?_)|(refine tkY (v:=?_) rfl rfl (by kernel_rfl) (by kernel_rfl) (by kernel_rfl) (fun _ _ _ h=>h) (by rfl) hHeld ?_ ?_;rotate_left;focus (intro w hSw;((try dsimp only at hSw));go_simp;all_goals with_reducible rfl)));try simp only[Act.put,Xa,Xc,Xd])
 refine wpAnyH_ready (rs:=[14]) (fuel:=11) (by kernel_rfl) (by simp) ?_;refine AllReadyH.cons (i:=14) rfl (fun K hK=>?_) AllReadyH.nil;go_simp;refine HD.out.mono ?_;rintro e w5⟨rfl,hB5⟩;have HT5:=Xh (HT3.out.over hB5);refine hK.out _ _ (HT5.out.step.blk.cell 0) (fun hHeld=>?_);clear hK K;try dsimp only[Act.put]
 change wpAnyH _ _ _ _ _ 11 _ _ _;iterate 4 ((first|(refine tkN rfl rfl (by kernel_rfl) (by kernel_rfl) (by kernel_rfl) (fun _ _ _ h=>h) (by rfl) hHeld ?_)|(refine tkY (v:=?_) rfl rfl (by kernel_rfl) (by kernel_rfl) (by kernel_rfl) (fun _ _ _ h=>h) (by rfl) hHeld ?_ ?_;rotate_left;focus (intro w hSw;((try dsimp only at hSw));go_simp;all_goals with_reducible rfl)));try simp only[Act.put,Xa,Xc,Xd])
 refine tkI (i:=20) (fuel:=6) (v:=?_) rfl (by kernel_rfl) (by kernel_rfl) (by kernel_rfl) (fun _ _ _ h=>h) (by rfl) hHeld ?_ ?_;rotate_left;focus (intro w hSw;((try dsimp only at hSw));go_simp;all_goals with_reducible rfl);(try simp only[Act.put]);(try simp only[Xa]);(try simp only[Xd]);(try simp only[Xc])
 refine wpAnyH_ready (rs:=[19]) (fuel:=5) (by kernel_rfl) (by simp) ?_;refine AllReadyH.cons (i:=19) rfl (fun K hK=>?_) AllReadyH.nil;go_simp;refine(HU.out _).mono ?_;rintro e wr⟨rfl,rfl⟩;refine hK.out _ _ (HT5.out.step.blk.cell 0) (fun hHeld=>?_);clear hK K;try dsimp only[Act.put]
 refine wpAnyH_ready (rs:=[21]) (fuel:=4) (by kernel_rfl) (by simp) ?_;refine AllReadyH.cons (i:=21) rfl (fun K hK=>?_) AllReadyH.nil;go_simp;refine(HV.out _).mono ?_;rintro e wr⟨rfl,rfl⟩;refine hK.out _ _ (HT5.out.step.blk.cell 0) (fun hHeld=>?_);clear hK K;try dsimp only[Act.put]
 change wpAnyH _ _ _ _ _ 4 _ _ _;iterate 3 ((first|(refine tkN rfl rfl (by kernel_rfl) (by kernel_rfl) (by kernel_rfl) (fun _ _ _ h=>h) (by rfl) hHeld ?_)|(refine tkY (v:=?_) rfl rfl (by kernel_rfl) (by kernel_rfl) (by kernel_rfl) (fun _ _ _ h=>h) (by rfl) hHeld ?_ ?_;rotate_left;focus (intro w hSw;((try dsimp only at hSw));go_simp;all_goals with_reducible rfl)));(try simp only[Act.put]);(try simp only[Xa]);(try simp only[Xd]);(try simp only[Xc]))
 refine wpAnyH_ready (rs:=[25]) (fuel:=0) (by kernel_rfl) (by simp) ?_;refine AllReadyH.cons (i:=25) rfl (fun K hK=>?_) AllReadyH.nil;go_simp;refine(HF.out _).mono ?_;rintro e wq⟨rfl,rfl⟩;exact And.intro rfl (HT5.out.stop Xb rfl)
theorem qd4(w0 w:World)(B:Nat)(l:List Qb)(base:Nat)(ws:World)(sb:Nat)(qb Zb:Str)(lv sv:Value)(L S:List Str)(hS:Qm (Za l) S)(xb:Nat)(xv:List Value)(T0:SA w0 w B l base ws lv sv sb qb Zb xb xv ws lv sv L S)(t k:Str)(ht:t.size<=maxLen)(hk:zd (Za l) t=0)(S1 S2:List Str)(hq1:zh (Za l) [kI] S=some S1)(hq2:qK S1=some (k,S2))(hn:(k.toList==[78])=false)(hp:0<k.size)(hf:(((k[0]'hp).toNat:Int)==91)=true)(h1:(1:Int)<=(k.size:Int))(hkk:zd (Za l) (k.extract 1 k.size)=0)(hd:Zx (Za l) (Zo (k.extract 1 k.size)) (Zo t)=true)(hru:∀wx,Calls Tryz.prog 151 #[.string (k.extract 1 k.size)] wx fun e w'=>e=.returned (.bool false)/\wx=w')(hrv:∀wx,Calls Tryz.prog 151 #[.string t] wx fun e w'=>e=.returned (.bool false)/\wx=w'):
 Calls Tryz.prog 146 #[.pointer (some ⟨sb,0,none⟩),.string t] ws (qf base ws sb B qb Zb lv sv (some (.tuple #[],L,S2))):=by
 unfold kI at *;have HT:Hid (∀wx,_):=fun wx=>zI wx
 have HU:=Xh hru;have HV:=Xh hrv;clear hru hrv;go_enter Tryz.func146,Tryz.ntmps146;go_upto_region 3 with(first
  |(go_fit (T0.knowsY t ht hk);rintro e w1 hP;obtain⟨hB1,rfl,lv1,sv1,hS1,hk1⟩:=hP.ok';(have T1:=T0.next hB1 hS1 hk1);(have T1a:=T1.alloc (.cells #[.string ⟨#[73]⟩] 9)))
  |(go_fit (T1.takeOY hS ⟨#[73]⟩ (zac _) _ (by simp) hq1);rintro e w2 hP;obtain⟨hB2,rfl,lv2,sv2,hS2,hk2⟩:=hP.ok';(have T2:=T1a.next hB2 hS2 hk2);(have hN2:=qj hq1 hS))
  |(go_fit (T2.refY hN2 hq2);rintro e w3 hP;obtain⟨hB3,rfl,lv3,sv3,hS3,hk3⟩:=hP.ok'))
 have T3:=(T2.next hB3 hS3 hk3).over Xb.drew;have HT3:=Xh T3;have q3:w3.drew.cell? ⟨sb,0,none⟩=some (.map (some B)):=T3.step.blk.cell 0;clear T0 T1 T1a T2 T3 hB1 hB2 hB3 hS1 hS2 hS3 hk1 hk2 hk3 hP hq1 hq2 hN2 hS;have HD:=Xh (Qat w0 _ B l HT3.out.env.map (k.extract 1 k.size) t hkk hk);rw[hd]at HD;refine wp_region_held_drew (S:=fun w'=>w'.cell? ⟨sb,0,none⟩=some (.map (some B))) (by kernel_rfl) q3 (fun hHeld=>?_);change wpAnyH _ _ _ _ _ 26 _ _ _;iterate 14 ((first|(refine tkN rfl rfl (by kernel_rfl) (by kernel_rfl) (by kernel_rfl) (fun _ _ _ h=>h) (by rfl) hHeld ?_)|(refine tkY (v:=?_) rfl rfl (by kernel_rfl) (by kernel_rfl) (by kernel_rfl) (fun _ _ _ h=>h) (by rfl) hHeld ?_ ?_;rotate_left;focus (intro w hSw;((try dsimp only at hSw));go_simp;all_goals with_reducible rfl)));try simp only[Act.put,Xa,Xc,Xd])
 refine wpAnyH_ready (rs:=[14]) (fuel:=11) (by kernel_rfl) (by simp) ?_;refine AllReadyH.cons (i:=14) rfl (fun K hK=>?_) AllReadyH.nil;go_simp;refine HD.out.mono ?_;rintro e w5⟨rfl,hB5⟩;have HT5:=Xh (HT3.out.over hB5);refine hK.out _ _ (HT5.out.step.blk.cell 0) (fun hHeld=>?_);clear hK K;try dsimp only[Act.put]
 change wpAnyH _ _ _ _ _ 11 _ _ _;iterate 4 ((first|(refine tkN rfl rfl (by kernel_rfl) (by kernel_rfl) (by kernel_rfl) (fun _ _ _ h=>h) (by rfl) hHeld ?_)|(refine tkY (v:=?_) rfl rfl (by kernel_rfl) (by kernel_rfl) (by kernel_rfl) (fun _ _ _ h=>h) (by rfl) hHeld ?_ ?_;rotate_left;focus (intro w hSw;((try dsimp only at hSw));go_simp;all_goals with_reducible rfl)));try simp only[Act.put,Xa,Xc,Xd])
 refine tkI (i:=20) (fuel:=6) (v:=?_) rfl (by kernel_rfl) (by kernel_rfl) (by kernel_rfl) (fun _ _ _ h=>h) (by rfl) hHeld ?_ ?_;rotate_left;focus (intro w hSw;((try dsimp only at hSw));go_simp;all_goals with_reducible rfl);(try simp only[Act.put]);(try simp only[Xa]);(try simp only[Xd]);(try simp only[Xc])
 refine wpAnyH_ready (rs:=[19]) (fuel:=5) (by kernel_rfl) (by simp) ?_;refine AllReadyH.cons (i:=19) rfl (fun K hK=>?_) AllReadyH.nil;go_simp;refine(HU.out _).mono ?_;rintro e wr⟨rfl,rfl⟩;refine hK.out _ _ (HT5.out.step.blk.cell 0) (fun hHeld=>?_);clear hK K;try dsimp only[Act.put]
 refine wpAnyH_ready (rs:=[21]) (fuel:=4) (by kernel_rfl) (by simp) ?_;refine AllReadyH.cons (i:=21) rfl (fun K hK=>?_) AllReadyH.nil;go_simp;refine(HV.out _).mono ?_;rintro e wr⟨rfl,rfl⟩;refine hK.out _ _ (HT5.out.step.blk.cell 0) (fun hHeld=>?_);clear hK K;try dsimp only[Act.put]
 change wpAnyH _ _ _ _ _ 4 _ _ _;iterate 3 ((first|(refine tkN rfl rfl (by kernel_rfl) (by kernel_rfl) (by kernel_rfl) (fun _ _ _ h=>h) (by rfl) hHeld ?_)|(refine tkY (v:=?_) rfl rfl (by kernel_rfl) (by kernel_rfl) (by kernel_rfl) (fun _ _ _ h=>h) (by rfl) hHeld ?_ ?_;rotate_left;focus (intro w hSw;((try dsimp only at hSw));go_simp;all_goals with_reducible rfl)));(try simp only[Act.put]);(try simp only[Xa]);(try simp only[Xd]);(try simp only[Xc]))
 refine wpAnyH_ready (rs:=[25]) (fuel:=0) (by kernel_rfl) (by simp) ?_;refine AllReadyH.cons (i:=25) rfl (fun K hK=>?_) AllReadyH.nil;go_simp;refine(HT.out _).mono ?_;rintro e wq⟨rfl,rfl⟩;refine hK.out _ _ (HT5.out.step.blk.cell 0) (fun hHeld=>?_);clear hK K;try dsimp only[Act.put]
 refine wpAnyH_done (by kernel_rfl) ?_ _;clear hHeld;go_wp2_with fail;go_end0;exact HT5.out.done rfl
set_option maxRecDepth 512
theorem QaH{x:Ty}:Zf x≠[78]/\Zf x≠[84]:=by cases x<;>simp[Zf]
theorem QaD{cs:List Qb}{k:Str}{x:Ty}(hx:Zf x=lst k)(hn:qao x=true)(hd:Qp x<=3)(hg:ZH cs x=true):zd cs k=0:=by
 unfold zd;rw[<-hx,if_neg (by rintro(h|h);exact QaH.1 h;exact QaH.2 h),QaE hn hd,if_neg (by decide),Qb6 hn hd];rcases zbF x hg with h|h
 ·rw[h];rfl
 ·rw[if_pos h];split<;>rfl
theorem zbl{cs:List Qb}{k:Str}{x:Ty}(hx:Zf x=lst k)(h:zd cs k=0):qbj k x/\ZH cs x=true:=by
 have hT:qbj k x:=by
  unfold zd at h;rw[if_neg (by rw[<-hx];rintro(h|h);exact QaH.1 h;exact QaH.2 h)]at h;split at h
  ·cases h
  ·rename_i ht;obtain⟨y,hy⟩:=Qaq (t:=k) (by simpa using ht);have:=ZaE (hy.text.trans hx.symm);subst this;exact hy
 obtain⟨X,hX,hg⟩:=zM h;have:X=.ty x:=qbg (hX.trans hx.symm);subst this;exact⟨hT,hg⟩
theorem qdg{cs:List Qb}{k:Str}{e:Ty}(hx:Zf (.ar e)=lst k)(h:zd cs k=0):zd cs (k.extract 1 k.size)=0:=by
 obtain⟨hT,hg⟩:=zbl hx h;have hd:=hT.deep;exact QaD (Zaa hx).1 hT.name (by unfold Qp at hd;omega) hg
theorem za7{S S':List Str}{k:Str}(h:qK S=some (k,S')):QH S=some (k,S')/\q9 (Zo k)=true:=by
 unfold qK at h;cases hp:QH S with
 |none=>rw[hp]at h;cases h
 |some p =>
  obtain⟨k1,S1⟩:=p;rw[hp,Option.bind_some]at h;dsimp only at h;split at h
  ·rename_i hr;injection h with h
   injection h with h1 h2
   subst h1 h2;exact⟨rfl,hr⟩
  ·cases h
theorem Qee{cs:List Qb}{k t:Str}(h:Zo k=.n):qaV cs k t=true:=by unfold qaV;rw[h]
theorem zef{cs:List Qb}{k t c:Str}(h:Zo k=.ty (.cl c)):qaV cs k t=false:=by unfold qaV;rw[h]
theorem Zef{cs:List Qb}{k t m:Str}{e:Ty}(h:Zo k=.ty (.ar e))(g:Zo m=.ty e):qaV cs k t=(Zx cs (Zo m) (Zo t)&&(Ql e==qt (Zo t))):=by unfold qaV;rw[h,g]
set_option maxRecDepth 100000
theorem Zct(w0 w:World)(B:Nat)(l:List Qb)(base:Nat)(ws:World)(hE:Env w0 w B l base ws)(sb:Nat)(qb Zb:Str)(lv sv:Value)(L S:List Str)(h:Qi base ws sb B qb Zb lv sv L S)(hS:Qm (Za l) S)(xb:Nat)(xv:List Value)(hb:Blk ws xb 24 xv)(hx:ZaL sb lv sv xb)(t:Str)(ht:t.size<=maxLen):
 Calls Tryz.prog 146 #[.pointer (some ⟨sb,0,none⟩),.string t] ws (qf base ws sb B qb Zb lv sv ((zK (Za l) t S).map fun S'=>(.tuple #[],L,S'))):=by
 have T0:SA w0 w B l base ws lv sv sb qb Zb xb xv ws lv sv L S:=⟨hE,h,hb,hx,Xb,Kp.below Xb⟩;unfold zK;by_cases hk:zd (Za l) t=0
 ·rw[if_neg (by rw[hk];decide)];cases hq1:zh (Za l) [kI] S with
  |none =>
   rw[Option.bind_none,Option.map_none];unfold kI at hq1;go_enter Tryz.func146,Tryz.ntmps146;go_wp2_with (first
    |(go_fit (T0.knowsY t ht hk);rintro e w1 hP;obtain⟨hB1,rfl,lv1,sv1,hS1,hk1⟩:=hP.ok';(have T1:=T0.next hB1 hS1 hk1);(have T1a:=T1.alloc (.cells #[.string ⟨#[73]⟩] 9)))
    |(go_fit (T1.takeON hS ⟨#[73]⟩ (zac _) _ (by simp) hq1);rintro e w2 hP;obtain⟨hB2,rfl⟩:=hP.no'))
   exact And.intro rfl (T1a.stop hB2 rfl)
  |some S1 =>
   rw[Option.bind_some];have hN1:=qj hq1 hS;cases hq2:qK S1 with
   |none =>
    rw[Option.bind_none,Option.map_none];unfold kI at hq1;go_enter Tryz.func146,Tryz.ntmps146;go_wp2_with (first
     |(go_fit (T0.knowsY t ht hk);rintro e w1 hP;obtain⟨hB1,rfl,lv1,sv1,hS1,hk1⟩:=hP.ok';(have T1:=T0.next hB1 hS1 hk1);(have T1a:=T1.alloc (.cells #[.string ⟨#[73]⟩] 9)))
     |(go_fit (T1.takeOY hS ⟨#[73]⟩ (zac _) _ (by simp) hq1);rintro e w2 hP;obtain⟨hB2,rfl,lv2,sv2,hS2,hk2⟩:=hP.ok';(have T2:=T1a.next hB2 hS2 hk2))
     |(go_fit (T2.refN hN1 hq2);rintro e w3 hP;obtain⟨hB3,rfl⟩:=hP.no'))
    exact And.intro rfl (T2.stop hB3 rfl)
   |some p =>
    obtain⟨k,S2⟩:=p;rw[Option.bind_some];dsimp only;obtain⟨hp,hr⟩:=za7 hq2;obtain⟨hkk,_⟩:=zae hp hN1;obtain⟨X,hX,_⟩:=zM hkk;have hn:=ZP hX .n;rw[show qo Kd.n=[78] from rfl]at hn;have hXe:=qz hX;rw[hXe]at hr;cases X with
    |n =>
     rw[Xj rfl]at hn;rw[Qee hXe];exact zee w0 w B l base ws sb qb Zb lv sv L S hS xb xv T0 t k ht hk S1 S2 hq1 hq2 hn
    |t=>cases hr
    |ty x =>
     rw[Xi (by intro h;cases h)]at hn;have hpos:0<k.size:=by
      have h1:(lst k).length=k.size:=rfl;have h2:lst k=Zf x:=hX.symm;rw[<-h1,h2];cases x<;>simp[Zf]
     have hf:=qb3 (k:=k) (x:=x) hX hpos;cases x with
     |i=>cases hr
     |j=>cases hr
     |cl c =>
      rw[zef hXe];exact Zee w0 w B l base ws sb qb Zb lv sv L S hS xb xv T0 t k ht hk S1 S2 hq1 hq2 hn hpos hf
     |ar e =>
      obtain⟨ht1,_,hs1⟩:=Zaa hX;have hk1:=qdg hX hkk;have hd1:Zo (k.extract 1 k.size)=.ty e:=qz (x:=.ty e) ht1;rw[Zef hXe hd1];cases hd:Zx (Za l) (Zo (k.extract 1 k.size)) (Zo t) with
      |false =>
       rw[Bool.false_and,if_neg (by decide)];exact qee w0 w B l base ws sb qb Zb lv sv L S hS xb xv T0 t k ht hk S1 S2 hq1 hq2 hn hpos hf (by omega) hk1 hd
      |true =>
       rw[Bool.true_and];obtain⟨Y,hY,_⟩:=zM hk;have hU:∀wx,_:=fun wx=>zN (k.extract 1 k.size) (.ty e) wx ht1
       have hV:∀wx,_:=fun wx=>zN t Y wx hY
       rw[show qt (.ty e)=Ql e from rfl]at hU;rw[qz hY];cases hu:Ql e<;>cases hv:qt Y<;>rw[hu]at hU<;>rw[hv]at hV
       ·exact qd4 w0 w B l base ws sb qb Zb lv sv L S hS xb xv T0 t k ht hk S1 S2 hq1 hq2 hn hpos hf (by omega) hk1 hd hU hV
       ·exact Zd4 w0 w B l base ws sb qb Zb lv sv L S hS xb xv T0 t k ht hk S1 S2 hq1 hq2 hn hpos hf (by omega) hk1 hd hU hV
       ·exact zd4 w0 w B l base ws sb qb Zb lv sv L S hS xb xv T0 t k ht hk S1 S2 hq1 hq2 hn hpos hf (by omega) hk1 hd hU hV
       ·exact Qd3 w0 w B l base ws sb qb Zb lv sv L S hS xb xv T0 t k ht hk S1 S2 hq1 hq2 hn hpos hf (by omega) hk1 hd hU hV
 ·rw[if_pos hk,Option.map_none];go_enter Tryz.func146,Tryz.ntmps146;go_wp2_with (first
   |(go_fit (T0.knowsN t ht hk);rintro e w1 hP;obtain⟨hB1,rfl⟩:=hP.no'))
  exact And.intro rfl (T0.stop hB1 rfl)
set_option maxRecDepth 512
def knK{α:Type}(cs:List Qb)(t:Str)(o:Option α):Option α:=if zd cs t≠0 then none else o
theorem qa4{α:Type}{cs:List Qb}{t:Str}{o:Option α}(h:¬zd cs t=0):knK cs t o=none:=by unfold knK;rw[if_pos h]
theorem zW{α:Type}{cs:List Qb}{t:Str}{o:Option α}(h:¬¬zd cs t=0):knK cs t o=o:=by unfold knK;rw[if_neg h]
def qW(k:Str):Bool:=(k.toList==[78])||Lib.hasPrefix k.toList [91]
def Zba(cs:List Qb)(cls:Str)(L S:List Str):Option (List Str×List Str):=if (qh cs cls).face=true then none else zv L S (Zd cls)
def zP(cs:List Qb)(qb:Str)(x:Ins)(L S:List Str):Option (List Str×List Str) :=
 if x.op=15 then knK cs (Zd x.cls) (Zba cs x.cls L S)
 else if x.op=16 then (qF cs x.cls x.name).bind fun t=>(zh cs [Zd x.cls] S).bind fun S1=>zv L S1 t
 else if x.op=17 then (qF cs x.cls x.name).bind fun t=>(zh cs [t,Zd x.cls] S).map fun S1=>(L,S1)
 else if x.op=18 then knK cs x.type ((zh cs [kI] S).bind fun S1=>zv L S1 (QE x.type))
 else if x.op=19 then (qK S).bind fun p=>if qW p.1=true then zv L p.2 kI else none
 else if x.op=20 then (zK cs x.type S).bind fun S1=>zv L S1 x.type
 else if x.op=21 then knK cs x.type ((zh cs [x.type] S).bind fun S1=>(zK cs x.type S1).map fun S2=>(L,S2))
 else if x.op=22 then knK cs x.type ((qK S).bind fun p=>zv L p.2 x.type)
 else if x.op=23 then knK cs x.type ((qK S).bind fun p=>zv L p.2 kI)
 else if x.op=24 then Qam cs qb x.cls x.name x.type false L S
 else if x.op=25 then Qam cs qb x.cls x.name x.type true L S
 else some (L,S)
theorem zbz{cs:List Qb}{t:Str}{S S':List Str}(h:zK cs t S=some S')(hk:Qm cs S):Qm cs S':=by
 unfold zK at h;split at h
 ·cases h
 ·cases hq:zh cs [kI] S with
  |none=>rw[hq]at h;cases h
  |some S1 =>
   rw[hq,Option.bind_some]at h;cases hp:qK S1 with
   |none=>rw[hp]at h;cases h
   |some p =>
    obtain⟨k,S2⟩:=p;rw[hp,Option.bind_some]at h;dsimp only at h;split at h
    ·injection h with h
     subst h;exact(zae (za7 hp).1 (qj hq hk)).2
    ·cases h
variable {w0 w:World} {B:Nat} {l:List Qb} {base:Nat} {ws:World} {lv0 sv0:Value} {sb:Nat} {qb Zb:Str} {xb:Nat} {xv:List Value} {wx:World} {lv sv:Value} {L S:List Str}
theorem SA.arrayN(T:SA w0 w B l base ws lv0 sv0 sb qb Zb xb xv wx lv sv L S)(hS:Qm (Za l) S)(t:Str)(ht:t.size<=maxLen)(hq:zK (Za l) t S=none):Calls Tryz.prog 146 #[.pointer (some ⟨sb,0,none⟩),.string t] wx (qf base wx sb B qb Zb lv sv none):=by
 have h:=Zct w0 w B l base wx T.env sb qb Zb lv sv L S T.step hS xb xv T.box T.apart t ht;rw[hq]at h;exact h
theorem SA.arrayY(T:SA w0 w B l base ws lv0 sv0 sb qb Zb xb xv wx lv sv L S)(hS:Qm (Za l) S)(t:Str)(ht:t.size<=maxLen){S':List Str}(hq:zK (Za l) t S=some S'):Calls Tryz.prog 146 #[.pointer (some ⟨sb,0,none⟩),.string t] wx (qf base wx sb B qb Zb lv sv (some (.tuple #[],L,S'))):=by
 have h:=Zct w0 w B l base wx T.env sb qb Zb lv sv L S T.step hS xb xv T.box T.apart t ht;rw[hq]at h;exact h
theorem SA.fieldN(T:SA w0 w B l base ws lv0 sv0 sb qb Zb xb xv wx lv sv L S)(op a b:Int)(type cls name:Str)(hc:cls.size<=1048576)(hq:qF (Za l) cls name=none):Calls Tryz.prog 144 #[.pointer (some ⟨sb,0,none⟩),.agg #[.int .i64 op,.int .i64 a,.int .i64 b,.string type,.string cls,.string name]] wx (qf base wx sb B qb Zb lv sv none):=by
 have h:=zcj w0 w B l base wx T.env sb qb Zb lv sv L S T.step op a b type cls name hc;rw[hq]at h;exact h
theorem SA.fieldY(T:SA w0 w B l base ws lv0 sv0 sb qb Zb xb xv wx lv sv L S)(op a b:Int)(type cls name:Str)(hc:cls.size<=1048576){t:Str}(hq:qF (Za l) cls name=some t):Calls Tryz.prog 144 #[.pointer (some ⟨sb,0,none⟩),.agg #[.int .i64 op,.int .i64 a,.int .i64 b,.string type,.string cls,.string name]] wx (qf base wx sb B qb Zb lv sv (some (.string t,L,S))):=by
 have h:=zcj w0 w B l base wx T.env sb qb Zb lv sv L S T.step op a b type cls name hc;rw[hq]at h;exact h
theorem zap{cs:List Qb}{c n t:Str}(h:qF cs c n=some t):zd cs (Zd c)=0/\zd cs t=0:=by
 unfold qF at h;split at h
 ·cases h
 ·rename_i h0;refine⟨Decidable.not_not.1 h0,?_⟩;cases hf:Zam cs c n with
  |none=>rw[hf]at h;cases h
  |some p =>
   obtain⟨d,f⟩:=p;rw[hf]at h;dsimp only at h;split at h
   ·rename_i hk;injection h with h
    subst h;exact hk
   ·cases h
set_option maxRecDepth 100000
theorem QdH(w0 w:World)(B:Nat)(l:List Qb)(base:Nat)(ws:World)(hE:Env w0 w B l base ws)(sb:Nat)(qb Zb:Str)(lv sv:Value)(L S:List Str)(h:Qi base ws sb B qb Zb lv sv L S)(hS:Qm (Za l) S)(a b:Int)(type cls name:Str)(_hty:type.size<=1048576)(hc:cls.size<=1048576)(_hfr:qb.size<=maxLen):
 Calls Tryz.prog 102 #[.pointer (some ⟨sb,0,none⟩),.agg #[.int .i64 16,.int .i64 a,.int .i64 b,.string type,.string cls,.string name]] ws (qf base ws sb B qb Zb lv sv (Zn ((qF (Za l) cls name).bind fun t=>(zh (Za l) [Zd cls] S).bind fun S1=>zv L S1 t))):=by
 have T0:SA w0 w B l base ws lv sv sb qb Zb ws.heap.size [.int .i64 16,.int .i64 a,.int .i64 b,.string type,.string cls,.string name] (ws.alloc (.cells #[.int .i64 16,.int .i64 a,.int .i64 b,.string type,.string cls,.string name] 24)) lv sv L S:=SA.new hE h _;obtain⟨i0,i1,i2,i3,i4,i5⟩:=T0.cells;obtain⟨res,hres⟩:∃r,Zn ((qF (Za l) cls name).bind fun t=>(zh (Za l) [Zd cls] S).bind fun S1=>zv L S1 t)=r:=⟨_,rfl⟩;have HR:=Xh hres;rw[hres];have HTh:Hid (∀wx,_):=fun wx=>ZX cls wx (Xf hc (by decide))
 have hth:(Zd cls).size<=maxLen:=by rw[qam];exact Xf (Nat.add_le_add_right hc 2) (by decide)
 clear hres hE h;go_enter Tryz.func102,Tryz.ntmps102;go_wp2_with (first
  |(go_at_call 144;rcases hq0:qF (Za l) cls name with _|tf;(with_reducible refine(T0.fieldN 16 a b type cls name hc hq0).mono ?_);(rintro e w1 hP;obtain⟨hB,rfl⟩:=hP.no';exact And.intro rfl (T0.stop hB (HR.out.symm.trans (Qd (Zu hq0)))));(with_reducible refine(T0.fieldY 16 a b type cls name hc hq0).mono ?_);rintro e w1 hP;obtain⟨hB1,rfl,lv1,sv1,hS1,hk1⟩:=hP.ok';(have T1:=T0.next hB1 hS1 hk1);obtain⟨i0,i1,i2,i3,i4,i5⟩:=T1.cells)
  |(go_at_call 139;(have T1a:=T1.alloc (.cells #[.string (Zd cls)] 9));rcases hq1:zh (Za l) [(Zd cls)] S with _|S2;(with_reducible refine(T1.takeON hS (Zd cls) hth _ (by simp) hq1).mono ?_);(rintro e w2 hP;obtain⟨hB,rfl⟩:=hP.no';exact And.intro rfl (T1a.stop hB (HR.out.symm.trans (Qd ((Qe hq0).trans (Zu hq1))))));(with_reducible refine(T1.takeOY hS (Zd cls) hth _ (by simp) hq1).mono ?_);rintro e w2 hP;obtain⟨hB2,rfl,lv2,sv2,hS2,hk2⟩:=hP.ok';(have T2:=T1a.next hB2 hS2 hk2);(have hN2:=qj hq1 hS);obtain⟨i0,i1,i2,i3,i4,i5⟩:=T2.cells)
  |(go_at_call 136;rcases hq2:QK S2 tf with _|S3;(with_reducible refine(T2.putN tf hq2).mono ?_);(rintro e w3 hP;obtain⟨hB,rfl⟩:=hP.no';exact And.intro rfl (T2.stop hB (HR.out.symm.trans (Qd ((Qe hq0).trans ((Qe hq1).trans (qD hq2)))))));(with_reducible refine(T2.putY tf hq2).mono ?_);rintro e w3 hP;obtain⟨hB3,rfl,lv3,sv3,hS3,hk3⟩:=hP.ok';(have T3:=T2.next hB3 hS3 hk3);obtain⟨i0,i1,i2,i3,i4,i5⟩:=T3.cells)
  |(go_fit (HTh.out _);rintro e wq⟨rfl,rfl⟩))
 go_end0;exact T3.done (HR.out.symm.trans (zl ((Qe hq0).trans ((Qe hq1).trans (zD hq2)))))
theorem zdI(w0 w:World)(B:Nat)(l:List Qb)(base:Nat)(ws:World)(hE:Env w0 w B l base ws)(sb:Nat)(qb Zb:Str)(lv sv:Value)(L S:List Str)(h:Qi base ws sb B qb Zb lv sv L S)(hS:Qm (Za l) S)(a b:Int)(type cls name:Str)(hty:type.size<=1048576)(_hc:cls.size<=1048576)(_hfr:qb.size<=maxLen):
 Calls Tryz.prog 102 #[.pointer (some ⟨sb,0,none⟩),.agg #[.int .i64 18,.int .i64 a,.int .i64 b,.string type,.string cls,.string name]] ws (qf base ws sb B qb Zb lv sv (Zn (knK (Za l) type ((zh (Za l) [kI] S).bind fun S1=>zv L S1 (QE type))))):=by
 have T0:SA w0 w B l base ws lv sv sb qb Zb ws.heap.size [.int .i64 18,.int .i64 a,.int .i64 b,.string type,.string cls,.string name] (ws.alloc (.cells #[.int .i64 18,.int .i64 a,.int .i64 b,.string type,.string cls,.string name] 24)) lv sv L S:=SA.new hE h _;obtain⟨i0,i1,i2,i3,i4,i5⟩:=T0.cells;obtain⟨res,hres⟩:∃r,Zn (knK (Za l) type ((zh (Za l) [kI] S).bind fun S1=>zv L S1 (QE type)))=r:=⟨_,rfl⟩;have HR:=Xh hres;rw[hres];have hml:type.size<=maxLen:=Xf hty (by decide);unfold kI at *;have hcat:(⟨#[91]⟩:Str)++type=QE type:=rfl;clear hres hE h;go_enter Tryz.func102,Tryz.ntmps102;go_wp2_with (first
  |(go_at_call 143;by_cases hq0:¬zd (Za l) type=0;(with_reducible refine(T0.knowsN type hml hq0).mono ?_);(rintro e w1 hP;obtain⟨hB,rfl⟩:=hP.no';exact And.intro rfl (T0.stop hB (HR.out.symm.trans (Qd (qa4 hq0)))));(with_reducible refine(T0.knowsY type hml (Decidable.not_not.1 hq0)).mono ?_);rintro e w1 hP;obtain⟨hB1,rfl,lv1,sv1,hS1,hk1⟩:=hP.ok';(have T1:=T0.next hB1 hS1 hk1);obtain⟨i0,i1,i2,i3,i4,i5⟩:=T1.cells)
  |(go_at_call 139;(have T1a:=T1.alloc (.cells #[.string ⟨#[73]⟩] 9));rcases hq1:zh (Za l) [⟨#[73]⟩] S with _|S2;(with_reducible refine(T1.takeON hS ⟨#[73]⟩ (zac _) _ (by simp) hq1).mono ?_);(rintro e w2 hP;obtain⟨hB,rfl⟩:=hP.no';exact And.intro rfl (T1a.stop hB (HR.out.symm.trans (Qd ((zW hq0).trans (Zu hq1))))));(with_reducible refine(T1.takeOY hS ⟨#[73]⟩ (zac _) _ (by simp) hq1).mono ?_);rintro e w2 hP;obtain⟨hB2,rfl,lv2,sv2,hS2,hk2⟩:=hP.ok';(have T2:=T1a.next hB2 hS2 hk2);(have hN2:=qj hq1 hS);obtain⟨i0,i1,i2,i3,i4,i5⟩:=T2.cells)
  |(go_at_call 136;rcases hq2:QK S2 (QE type) with _|S3;(with_reducible refine(T2.putN (QE type) hq2).mono ?_);(rintro e w3 hP;obtain⟨hB,rfl⟩:=hP.no';exact And.intro rfl (T2.stop hB (HR.out.symm.trans (Qd ((zW hq0).trans ((Qe hq1).trans (qD hq2)))))));(with_reducible refine(T2.putY (QE type) hq2).mono ?_);rintro e w3 hP;obtain⟨hB3,rfl,lv3,sv3,hS3,hk3⟩:=hP.ok';(have T3:=T2.next hB3 hS3 hk3);obtain⟨i0,i1,i2,i3,i4,i5⟩:=T3.cells))
 go_end0;exact T3.done (HR.out.symm.trans (zl ((zW hq0).trans ((Qe hq1).trans (zD hq2)))))
theorem ZdI(w0 w:World)(B:Nat)(l:List Qb)(base:Nat)(ws:World)(hE:Env w0 w B l base ws)(sb:Nat)(qb Zb:Str)(lv sv:Value)(L S:List Str)(h:Qi base ws sb B qb Zb lv sv L S)(hS:Qm (Za l) S)(a b:Int)(type cls name:Str)(hty:type.size<=1048576)(_hc:cls.size<=1048576)(_hfr:qb.size<=maxLen):
 Calls Tryz.prog 102 #[.pointer (some ⟨sb,0,none⟩),.agg #[.int .i64 20,.int .i64 a,.int .i64 b,.string type,.string cls,.string name]] ws (qf base ws sb B qb Zb lv sv (Zn ((zK (Za l) type S).bind fun S1=>zv L S1 type))):=by
 have T0:SA w0 w B l base ws lv sv sb qb Zb ws.heap.size [.int .i64 20,.int .i64 a,.int .i64 b,.string type,.string cls,.string name] (ws.alloc (.cells #[.int .i64 20,.int .i64 a,.int .i64 b,.string type,.string cls,.string name] 24)) lv sv L S:=SA.new hE h _;obtain⟨i0,i1,i2,i3,i4,i5⟩:=T0.cells;obtain⟨res,hres⟩:∃r,Zn ((zK (Za l) type S).bind fun S1=>zv L S1 type)=r:=⟨_,rfl⟩;have HR:=Xh hres;rw[hres];have hml:type.size<=maxLen:=Xf hty (by decide);clear hres hE h;go_enter Tryz.func102,Tryz.ntmps102;go_wp2_with (first
  |(go_at_call 146;rcases hq0:zK (Za l) type S with _|S1;(with_reducible refine(T0.arrayN hS type hml hq0).mono ?_);(rintro e w1 hP;obtain⟨hB,rfl⟩:=hP.no';exact And.intro rfl (T0.stop hB (HR.out.symm.trans (Qd (Zu hq0)))));(with_reducible refine(T0.arrayY hS type hml hq0).mono ?_);rintro e w1 hP;obtain⟨hB1,rfl,lv1,sv1,hS1,hk1⟩:=hP.ok';(have T1:=T0.next hB1 hS1 hk1);(have hN1:=zbz hq0 hS);obtain⟨i0,i1,i2,i3,i4,i5⟩:=T1.cells)
  |(go_at_call 136;rcases hq1:QK S1 type with _|S2;(with_reducible refine(T1.putN type hq1).mono ?_);(rintro e w2 hP;obtain⟨hB,rfl⟩:=hP.no';exact And.intro rfl (T1.stop hB (HR.out.symm.trans (Qd ((Qe hq0).trans (qD hq1))))));(with_reducible refine(T1.putY type hq1).mono ?_);rintro e w2 hP;obtain⟨hB2,rfl,lv2,sv2,hS2,hk2⟩:=hP.ok';(have T2:=T1.next hB2 hS2 hk2);obtain⟨i0,i1,i2,i3,i4,i5⟩:=T2.cells))
 go_end0;exact T2.done (HR.out.symm.trans (zl ((Qe hq0).trans (zD hq1))))
theorem qdI(w0 w:World)(B:Nat)(l:List Qb)(base:Nat)(ws:World)(hE:Env w0 w B l base ws)(sb:Nat)(qb Zb:Str)(lv sv:Value)(L S:List Str)(h:Qi base ws sb B qb Zb lv sv L S)(hS:Qm (Za l) S)(a b:Int)(type cls name:Str)(hty:type.size<=1048576)(_hc:cls.size<=1048576)(_hfr:qb.size<=maxLen):
 Calls Tryz.prog 102 #[.pointer (some ⟨sb,0,none⟩),.agg #[.int .i64 21,.int .i64 a,.int .i64 b,.string type,.string cls,.string name]] ws (qf base ws sb B qb Zb lv sv (Zn (knK (Za l) type ((zh (Za l) [type] S).bind fun S1=>(zK (Za l) type S1).map fun S2=>(L,S2))))):=by
 have T0:SA w0 w B l base ws lv sv sb qb Zb ws.heap.size [.int .i64 21,.int .i64 a,.int .i64 b,.string type,.string cls,.string name] (ws.alloc (.cells #[.int .i64 21,.int .i64 a,.int .i64 b,.string type,.string cls,.string name] 24)) lv sv L S:=SA.new hE h _;obtain⟨i0,i1,i2,i3,i4,i5⟩:=T0.cells;obtain⟨res,hres⟩:∃r,Zn (knK (Za l) type ((zh (Za l) [type] S).bind fun S1=>(zK (Za l) type S1).map fun S2=>(L,S2)))=r:=⟨_,rfl⟩;have HR:=Xh hres;rw[hres];have hml:type.size<=maxLen:=Xf hty (by decide);clear hres hE h;go_enter Tryz.func102,Tryz.ntmps102;go_wp2_with (first
  |(go_at_call 143;by_cases hq0:¬zd (Za l) type=0;(with_reducible refine(T0.knowsN type hml hq0).mono ?_);(rintro e w1 hP;obtain⟨hB,rfl⟩:=hP.no';exact And.intro rfl (T0.stop hB (HR.out.symm.trans (Qd (qa4 hq0)))));(with_reducible refine(T0.knowsY type hml (Decidable.not_not.1 hq0)).mono ?_);rintro e w1 hP;obtain⟨hB1,rfl,lv1,sv1,hS1,hk1⟩:=hP.ok';(have T1:=T0.next hB1 hS1 hk1);obtain⟨i0,i1,i2,i3,i4,i5⟩:=T1.cells)
  |(go_at_call 139;(have T1a:=T1.alloc (.cells #[.string type] 9));rcases hq1:zh (Za l) [type] S with _|S2;(with_reducible refine(T1.takeON hS type hml _ (by simp) hq1).mono ?_);(rintro e w2 hP;obtain⟨hB,rfl⟩:=hP.no';exact And.intro rfl (T1a.stop hB (HR.out.symm.trans (Qd ((zW hq0).trans (Zu hq1))))));(with_reducible refine(T1.takeOY hS type hml _ (by simp) hq1).mono ?_);rintro e w2 hP;obtain⟨hB2,rfl,lv2,sv2,hS2,hk2⟩:=hP.ok';(have T2:=T1a.next hB2 hS2 hk2);(have hN2:=qj hq1 hS);obtain⟨i0,i1,i2,i3,i4,i5⟩:=T2.cells)
  |(go_at_call 146;rcases hq2:zK (Za l) type S2 with _|S3;(with_reducible refine(T2.arrayN hN2 type hml hq2).mono ?_);(rintro e w3 hP;obtain⟨hB,rfl⟩:=hP.no';exact And.intro rfl (T2.stop hB (HR.out.symm.trans (Qd ((zW hq0).trans ((Qe hq1).trans (ZaH hq2)))))));(with_reducible refine(T2.arrayY hN2 type hml hq2).mono ?_);rintro e w3 hP;obtain⟨hB3,rfl,lv3,sv3,hS3,hk3⟩:=hP.ok';(have T3:=T2.next hB3 hS3 hk3);(have hN3:=zbz hq2 hN2);obtain⟨i0,i1,i2,i3,i4,i5⟩:=T3.cells))
 go_end0;exact T3.done (HR.out.symm.trans (zl ((zW hq0).trans ((Qe hq1).trans (Z7 hq2)))))
theorem QdI(w0 w:World)(B:Nat)(l:List Qb)(base:Nat)(ws:World)(hE:Env w0 w B l base ws)(sb:Nat)(qb Zb:Str)(lv sv:Value)(L S:List Str)(h:Qi base ws sb B qb Zb lv sv L S)(hS:Qm (Za l) S)(a b:Int)(type cls name:Str)(hty:type.size<=1048576)(_hc:cls.size<=1048576)(_hfr:qb.size<=maxLen):
 Calls Tryz.prog 102 #[.pointer (some ⟨sb,0,none⟩),.agg #[.int .i64 22,.int .i64 a,.int .i64 b,.string type,.string cls,.string name]] ws (qf base ws sb B qb Zb lv sv (Zn (knK (Za l) type ((qK S).bind fun p=>zv L p.2 type)))):=by
 have T0:SA w0 w B l base ws lv sv sb qb Zb ws.heap.size [.int .i64 22,.int .i64 a,.int .i64 b,.string type,.string cls,.string name] (ws.alloc (.cells #[.int .i64 22,.int .i64 a,.int .i64 b,.string type,.string cls,.string name] 24)) lv sv L S:=SA.new hE h _;obtain⟨i0,i1,i2,i3,i4,i5⟩:=T0.cells;obtain⟨res,hres⟩:∃r,Zn (knK (Za l) type ((qK S).bind fun p=>zv L p.2 type))=r:=⟨_,rfl⟩;have HR:=Xh hres;rw[hres];have hml:type.size<=maxLen:=Xf hty (by decide);clear hres hE h;go_enter Tryz.func102,Tryz.ntmps102;go_wp2_with (first
  |(go_at_call 143;by_cases hq0:¬zd (Za l) type=0;(with_reducible refine(T0.knowsN type hml hq0).mono ?_);(rintro e w1 hP;obtain⟨hB,rfl⟩:=hP.no';exact And.intro rfl (T0.stop hB (HR.out.symm.trans (Qd (qa4 hq0)))));(with_reducible refine(T0.knowsY type hml (Decidable.not_not.1 hq0)).mono ?_);rintro e w1 hP;obtain⟨hB1,rfl,lv1,sv1,hS1,hk1⟩:=hP.ok';(have T1:=T0.next hB1 hS1 hk1);obtain⟨i0,i1,i2,i3,i4,i5⟩:=T1.cells)
  |(go_at_call 141;rcases hq1:qK S with _|⟨k1,S2⟩;(with_reducible refine(T1.refN hS hq1).mono ?_);(rintro e w2 hP;obtain⟨hB,rfl⟩:=hP.no';exact And.intro rfl (T1.stop hB (HR.out.symm.trans (Qd ((zW hq0).trans (Zu hq1))))));(with_reducible refine(T1.refY hS hq1).mono ?_);rintro e w2 hP;obtain⟨hB2,rfl,lv2,sv2,hS2,hk2⟩:=hP.ok';(have T2:=T1.next hB2 hS2 hk2);(have hN2:=(zae (za7 hq1).1 hS).2);obtain⟨i0,i1,i2,i3,i4,i5⟩:=T2.cells)
  |(go_at_call 136;rcases hq2:QK S2 type with _|S3;(with_reducible refine(T2.putN type hq2).mono ?_);(rintro e w3 hP;obtain⟨hB,rfl⟩:=hP.no';exact And.intro rfl (T2.stop hB (HR.out.symm.trans (Qd ((zW hq0).trans ((Qe hq1).trans (qD hq2)))))));(with_reducible refine(T2.putY type hq2).mono ?_);rintro e w3 hP;obtain⟨hB3,rfl,lv3,sv3,hS3,hk3⟩:=hP.ok';(have T3:=T2.next hB3 hS3 hk3);obtain⟨i0,i1,i2,i3,i4,i5⟩:=T3.cells))
 go_end0;exact T3.done (HR.out.symm.trans (zl ((zW hq0).trans ((Qe hq1).trans (zD hq2)))))
set_option maxRecDepth 512
theorem SA.boxed{w0 w:World}{B:Nat}{l:List Qb}{base:Nat}{ws:World}{lv0 sv0:Value}{sb:Nat}{qb Zb:Str}{xb:Nat}{xv:List Value}{wx:World}{lv sv:Value}{L S:List Str}(T:SA w0 w B l base ws lv0 sv0 sb qb Zb xb xv wx lv sv L S)(hb:ws.heap.size<=xb)(hbb:base<=xb)(j:Nat)(u:Value):SA w0 w B l base ws lv0 sv0 sb qb Zb xb (xv.set j u) (wx.setCell ⟨xb,j,none⟩ u) lv sv L S :=
 ⟨⟨T.env.map0,T.env.le,T.env.below.setCell (p:=⟨xb,j,none⟩) (Xf T.env.le hbb) u⟩,T.step.aside T.apart j u,T.box.put j u,T.apart,T.below.setCell (p:=⟨xb,j,none⟩) hbb u,⟨T.kp.1,fun g hg hga=>⟨(Xk wx ⟨xb,j,none⟩ g u (by show g≠xb;omega)).trans (T.kp.2 g hg hga).1,(T.kp.2 g hg hga).2⟩⟩⟩
theorem ZcY(w0 w:World)(B:Nat)(l:List Qb)(base:Nat)(ws:World)(hE:Env w0 w B l base ws)(sb:Nat)(qb Zb:Str)(lv sv:Value)(L S:List Str)(h:Qi base ws sb B qb Zb lv sv L S)(hS:Qm (Za l) S)(op a b:Int)(type cls name:Str)(static:Bool)(hc:cls.size<=1048576)(hfr:qb.size<=maxLen)(hty:type.size<=1048576):
 Calls Tryz.prog 147 #[.pointer (some ⟨sb,0,none⟩),.agg #[.int .i64 op,.int .i64 a,.int .i64 b,.string type,.string cls,.string name],.bool static] ws (qf base ws sb B qb Zb lv sv (Zn (Qam (Za l) qb cls name type static L S))):=by
 unfold Qam;by_cases hf:Zz (Za l) qb cls name type static=0
 ·rw[if_neg (by rw[hf];decide)];cases static with
  |true=>exact Qei w0 w B l base ws hE sb qb Zb lv sv L S h hS op a b type cls name hc hfr hty hf
  |false=>exact zej w0 w B l base ws hE sb qb Zb lv sv L S h hS op a b type cls name hc hfr hty hf
 ·rw[if_pos hf];exact zd7 w0 w B l base ws hE sb qb Zb lv sv L S h op a b type cls name static hc hfr hf
theorem SA.callN{w0 w:World}{B:Nat}{l:List Qb}{base:Nat}{ws:World}{lv0 sv0:Value}{sb:Nat}{qb Zb:Str}{xb:Nat}{xv:List Value}{wx:World}{lv sv:Value}{L S:List Str}(T:SA w0 w B l base ws lv0 sv0 sb qb Zb xb xv wx lv sv L S)(hS:Qm (Za l) S)(op a b:Int)(type cls name:Str)(static:Bool)(hc:cls.size<=1048576)(hfr:qb.size<=maxLen)(hty:type.size<=1048576)(hq:Qam (Za l) qb cls name type static L S=none):
 Calls Tryz.prog 147 #[.pointer (some ⟨sb,0,none⟩),.agg #[.int .i64 op,.int .i64 a,.int .i64 b,.string type,.string cls,.string name],.bool static] wx (qf base wx sb B qb Zb lv sv none):=by
 have h:=ZcY w0 w B l base wx T.env sb qb Zb lv sv L S T.step hS op a b type cls name static hc hfr hty;rw[hq]at h;exact h
theorem SA.callY{w0 w:World}{B:Nat}{l:List Qb}{base:Nat}{ws:World}{lv0 sv0:Value}{sb:Nat}{qb Zb:Str}{xb:Nat}{xv:List Value}{wx:World}{lv sv:Value}{L S:List Str}(T:SA w0 w B l base ws lv0 sv0 sb qb Zb xb xv wx lv sv L S)(hS:Qm (Za l) S)(op a b:Int)(type cls name:Str)(static:Bool)(hc:cls.size<=1048576)(hfr:qb.size<=maxLen)(hty:type.size<=1048576){L' S':List Str}(hq:Qam (Za l) qb cls name type static L S=some (L',S')):
 Calls Tryz.prog 147 #[.pointer (some ⟨sb,0,none⟩),.agg #[.int .i64 op,.int .i64 a,.int .i64 b,.string type,.string cls,.string name],.bool static] wx (qf base wx sb B qb Zb lv sv (some (.tuple #[],L',S'))):=by
 have h:=ZcY w0 w B l base wx T.env sb qb Zb lv sv L S T.step hS op a b type cls name static hc hfr hty;rw[hq]at h;exact h
set_option maxRecDepth 100000
theorem Qdg(w0 w:World)(B:Nat)(l:List Qb)(base:Nat)(ws:World)(hE:Env w0 w B l base ws)(sb:Nat)(qb Zb:Str)(lv sv:Value)(L S:List Str)(h:Qi base ws sb B qb Zb lv sv L S)(_hS:Qm (Za l) S)(a b:Int)(type cls name:Str)(_hty:type.size<=1048576)(hc:cls.size<=1048576)(_hfr:qb.size<=maxLen)(hk:¬zd (Za l) (Zd cls)=0):
 Calls Tryz.prog 102 #[.pointer (some ⟨sb,0,none⟩),.agg #[.int .i64 15,.int .i64 a,.int .i64 b,.string type,.string cls,.string name]] ws (qf base ws sb B qb Zb lv sv (Zn (knK (Za l) (Zd cls) (Zba (Za l) cls L S)))):=by
 have T0:SA w0 w B l base ws lv sv sb qb Zb ws.heap.size [.int .i64 15,.int .i64 a,.int .i64 b,.string type,.string cls,.string name] (ws.alloc (.cells #[.int .i64 15,.int .i64 a,.int .i64 b,.string type,.string cls,.string name] 24)) lv sv L S:=SA.new hE h _;obtain⟨i0,i1,i2,i3,i4,i5⟩:=T0.cells;obtain⟨res,hres⟩:∃r,Zn (knK (Za l) (Zd cls) (Zba (Za l) cls L S))=r:=⟨_,rfl⟩;have HR:=Xh hres;rw[hres];have HTh:Hid (∀wx,_):=fun wx=>ZX cls wx (Xf hc (by decide))
 have hth:(Zd cls).size<=maxLen:=by rw[qam];exact Xf (Nat.add_le_add_right hc 2) (by decide)
 clear hres hE h;go_enter Tryz.func102,Tryz.ntmps102;go_wp2_with (first
  |(go_fit (T0.knowsN (Zd cls) hth hk);rintro e w1 hP;obtain⟨hB1,rfl⟩:=hP.no')
  |(go_fit (HTh.out _);rintro e wq⟨rfl,rfl⟩))
 exact And.intro rfl (T0.stop hB1 (HR.out.symm.trans (Qd (qa4 hk))))
theorem zdh(w0 w:World)(B:Nat)(l:List Qb)(base:Nat)(ws:World)(hE:Env w0 w B l base ws)(sb:Nat)(qb Zb:Str)(lv sv:Value)(L S:List Str)(h:Qi base ws sb B qb Zb lv sv L S)(_hS:Qm (Za l) S)(a b:Int)(type cls name:Str)(_hty:type.size<=1048576)(hc:cls.size<=1048576)(_hfr:qb.size<=maxLen)(hk:zd (Za l) (Zd cls)=0)(hface:(qh (Za l) cls).face=true):
 Calls Tryz.prog 102 #[.pointer (some ⟨sb,0,none⟩),.agg #[.int .i64 15,.int .i64 a,.int .i64 b,.string type,.string cls,.string name]] ws (qf base ws sb B qb Zb lv sv (Zn (knK (Za l) (Zd cls) (Zba (Za l) cls L S)))):=by
 have T0:SA w0 w B l base ws lv sv sb qb Zb ws.heap.size [.int .i64 15,.int .i64 a,.int .i64 b,.string type,.string cls,.string name] (ws.alloc (.cells #[.int .i64 15,.int .i64 a,.int .i64 b,.string type,.string cls,.string name] 24)) lv sv L S:=SA.new hE h _;obtain⟨i0,i1,i2,i3,i4,i5⟩:=T0.cells;obtain⟨res,hres⟩:∃r,Zn (knK (Za l) (Zd cls) (Zba (Za l) cls L S))=r:=⟨_,rfl⟩;have HR:=Xh hres;rw[hres];have HTh:Hid (∀wx,_):=fun wx=>ZX cls wx (Xf hc (by decide))
 have hth:(Zd cls).size<=maxLen:=by rw[qam];exact Xf (Nat.add_le_add_right hc 2) (by decide)
 obtain⟨pf,kf,pd,kd,pm,km,_,_,_,hlk⟩:=hE.map0.map.look3 hE.map0.right.nodup cls (Xf hc (by decide));have HX:Hid (∀L S,Zba (Za l) cls L S=none):=Xh (fun L S=>by unfold Zba;rw[hface];rfl);unfold qh at hface;unfold Qz at hlk;generalize (Qc (Za l) cls).getD zg=cc at *;have hfd:∀wz:World,(Instr.field 36 (.agg #[.string cc.name,.string cc.super,.slice pf cc.faces.length kf,.bool true,.slice pd cc.fields.length kd,.slice pm cc.methods.length km]) 3).run Tryz.prog wz=.ok (.bool true) wz:=fun _=>by kernel_rfl
 have HT:Hid (∀wx,_):=fun wx=>qB wx
 clear hres hE h;go_enter Tryz.func102,Tryz.ntmps102;go_upto_region 4 with(first
  |(go_fit (T0.knowsY (Zd cls) hth hk);rintro e w1 hP;obtain⟨hB1,rfl,lv1,sv1,hS1,hk1⟩:=hP.ok';(have T1:=T0.next hB1 hS1 hk1);obtain⟨i0,i1,i2,i3,i4,i5⟩:=T1.cells)
  |(go_fit (HTh.out _);rintro e wq⟨rfl,rfl⟩))
 have HT1:=Xh (T1.over Xb.drew);have hS0:=And.intro HT1.out.env.below (And.intro (HT1.out.step.blk.cell 0) HT1.out.cells.2.2.2.2.1);clear T0 T1 hB1 hS1 hk1 hP;refine wp_region_held_drew (S:=fun w'=>Below w.heap.size w w'/\w'.cell? ⟨sb,0,none⟩=some (.map (some B))/\w'.cell? ⟨ws.heap.size,4,none⟩=some (.string cls)) (by kernel_rfl) hS0 (fun hHeld=>?_);change wpAnyH _ _ _ _ _ 10 _ _ _;iterate 6 ((first|(refine tkN rfl rfl (by kernel_rfl) (by kernel_rfl) (by kernel_rfl) (fun _ _ _ h=>h) (by rfl) hHeld ?_)|(refine tkY (v:=?_) rfl rfl (by kernel_rfl) (by kernel_rfl) (by kernel_rfl) (fun _ _ _ h=>h) (by rfl) hHeld ?_ ?_;rotate_left;focus (intro w hSw;(obtain⟨s0,s1,s2⟩:=hSw);go_simp;all_goals with_reducible rfl)));try simp only[Act.put,Xa,Xc,Xd])
 change wpAnyH _ _ _ _ _ 4 _ _ _;iterate 1 ((first|(refine tkN rfl rfl (by kernel_rfl) (by kernel_rfl) (by kernel_rfl) (fun _ _ _ h=>h) (by rfl) hHeld ?_)|(refine tkY (v:=?_) rfl rfl (by kernel_rfl) (by kernel_rfl) (by kernel_rfl) (fun _ _ _ h=>h) (by rfl) hHeld ?_ ?_;rotate_left;focus (intro w hSw;(obtain⟨s0,s1,s2⟩:=hSw;have hl:=(hlk _ s0).2);go_simp;all_goals with_reducible rfl)));(try simp only[Act.put]);(try simp only[Xa]);(try simp only[Xd]);(try simp only[Xc]))
 change wpAnyH _ _ _ _ _ 3 _ _ _;iterate 2 ((first|(refine tkN rfl rfl (by kernel_rfl) (by kernel_rfl) (by kernel_rfl) (fun _ _ _ h=>h) (by rfl) hHeld ?_)|(refine tkY (v:=?_) rfl rfl (by kernel_rfl) (by kernel_rfl) (by kernel_rfl) (fun _ _ _ h=>h) (by rfl) hHeld ?_ ?_;rotate_left;focus (intro w hSw;(obtain⟨s0,s1,s2⟩:=hSw);go_simp;all_goals with_reducible rfl)));(try simp only[Act.put]);(try simp only[Xa]);(try simp only[Xd]);(try simp only[Xc]))
 refine wpAnyH_ready (rs:=[9]) (fuel:=0) (by kernel_rfl) (by simp) ?_;refine AllReadyH.cons (i:=9) rfl (fun K hK=>?_) AllReadyH.nil;go_simp;refine(HT.out _).mono ?_;rintro e wq⟨rfl,rfl⟩;exact And.intro rfl (HT1.out.stop Xb (HR.out.symm.trans (Qd ((zW (Decidable.not_not.2 hk)).trans (HX.out _ _)))))
theorem Zdh(w0 w:World)(B:Nat)(l:List Qb)(base:Nat)(ws:World)(hE:Env w0 w B l base ws)(sb:Nat)(qb Zb:Str)(lv sv:Value)(L S:List Str)(h:Qi base ws sb B qb Zb lv sv L S)(_hS:Qm (Za l) S)(a b:Int)(type cls name:Str)(_hty:type.size<=1048576)(hc:cls.size<=1048576)(_hfr:qb.size<=maxLen)(hk:zd (Za l) (Zd cls)=0)(hface:(qh (Za l) cls).face=false):
 Calls Tryz.prog 102 #[.pointer (some ⟨sb,0,none⟩),.agg #[.int .i64 15,.int .i64 a,.int .i64 b,.string type,.string cls,.string name]] ws (qf base ws sb B qb Zb lv sv (Zn (knK (Za l) (Zd cls) (Zba (Za l) cls L S)))):=by
 have T0:SA w0 w B l base ws lv sv sb qb Zb ws.heap.size [.int .i64 15,.int .i64 a,.int .i64 b,.string type,.string cls,.string name] (ws.alloc (.cells #[.int .i64 15,.int .i64 a,.int .i64 b,.string type,.string cls,.string name] 24)) lv sv L S:=SA.new hE h _;obtain⟨i0,i1,i2,i3,i4,i5⟩:=T0.cells;obtain⟨res,hres⟩:∃r,Zn (knK (Za l) (Zd cls) (Zba (Za l) cls L S))=r:=⟨_,rfl⟩;have HR:=Xh hres;rw[hres];have HTh:Hid (∀wx,_):=fun wx=>ZX cls wx (Xf hc (by decide))
 have hth:(Zd cls).size<=maxLen:=by rw[qam];exact Xf (Nat.add_le_add_right hc 2) (by decide)
 obtain⟨pf,kf,pd,kd,pm,km,_,_,_,hlk⟩:=hE.map0.map.look3 hE.map0.right.nodup cls (Xf hc (by decide));have HX:Hid (∀L S,Zba (Za l) cls L S=zv L S (Zd cls)):=Xh (fun L S=>by unfold Zba;rw[hface];rfl);unfold qh at hface;unfold Qz at hlk;generalize (Qc (Za l) cls).getD zg=cc at *;have hfd:∀wz:World,(Instr.field 36 (.agg #[.string cc.name,.string cc.super,.slice pf cc.faces.length kf,.bool false,.slice pd cc.fields.length kd,.slice pm cc.methods.length km]) 3).run Tryz.prog wz=.ok (.bool false) wz:=fun _=>by kernel_rfl
 have HT:Hid (∀wx,_):=fun wx=>zI wx
 clear hres hE h;go_enter Tryz.func102,Tryz.ntmps102;go_upto_region 4 with(first
  |(go_fit (T0.knowsY (Zd cls) hth hk);rintro e w1 hP;obtain⟨hB1,rfl,lv1,sv1,hS1,hk1⟩:=hP.ok';(have T1:=T0.next hB1 hS1 hk1);obtain⟨i0,i1,i2,i3,i4,i5⟩:=T1.cells)
  |(go_fit (HTh.out _);rintro e wq⟨rfl,rfl⟩))
 have HT1:=Xh (T1.over Xb.drew);have hS0:=And.intro HT1.out.env.below (And.intro (HT1.out.step.blk.cell 0) HT1.out.cells.2.2.2.2.1);clear T0 T1 hB1 hS1 hk1 hP;refine wp_region_held_drew (S:=fun w'=>Below w.heap.size w w'/\w'.cell? ⟨sb,0,none⟩=some (.map (some B))/\w'.cell? ⟨ws.heap.size,4,none⟩=some (.string cls)) (by kernel_rfl) hS0 (fun hHeld=>?_);change wpAnyH _ _ _ _ _ 10 _ _ _;iterate 6 ((first|(refine tkN rfl rfl (by kernel_rfl) (by kernel_rfl) (by kernel_rfl) (fun _ _ _ h=>h) (by rfl) hHeld ?_)|(refine tkY (v:=?_) rfl rfl (by kernel_rfl) (by kernel_rfl) (by kernel_rfl) (fun _ _ _ h=>h) (by rfl) hHeld ?_ ?_;rotate_left;focus (intro w hSw;(obtain⟨s0,s1,s2⟩:=hSw);go_simp;all_goals with_reducible rfl)));try simp only[Act.put,Xa,Xc,Xd])
 change wpAnyH _ _ _ _ _ 4 _ _ _;iterate 1 ((first|(refine tkN rfl rfl (by kernel_rfl) (by kernel_rfl) (by kernel_rfl) (fun _ _ _ h=>h) (by rfl) hHeld ?_)|(refine tkY (v:=?_) rfl rfl (by kernel_rfl) (by kernel_rfl) (by kernel_rfl) (fun _ _ _ h=>h) (by rfl) hHeld ?_ ?_;rotate_left;focus (intro w hSw;(obtain⟨s0,s1,s2⟩:=hSw;have hl:=(hlk _ s0).2);go_simp;all_goals with_reducible rfl)));(try simp only[Act.put]);(try simp only[Xa]);(try simp only[Xd]);(try simp only[Xc]))
 change wpAnyH _ _ _ _ _ 3 _ _ _;iterate 2 ((first|(refine tkN rfl rfl (by kernel_rfl) (by kernel_rfl) (by kernel_rfl) (fun _ _ _ h=>h) (by rfl) hHeld ?_)|(refine tkY (v:=?_) rfl rfl (by kernel_rfl) (by kernel_rfl) (by kernel_rfl) (fun _ _ _ h=>h) (by rfl) hHeld ?_ ?_;rotate_left;focus (intro w hSw;(obtain⟨s0,s1,s2⟩:=hSw);go_simp;all_goals with_reducible rfl)));(try simp only[Act.put]);(try simp only[Xa]);(try simp only[Xd]);(try simp only[Xc]))
 refine wpAnyH_ready (rs:=[9]) (fuel:=0) (by kernel_rfl) (by simp) ?_;refine AllReadyH.cons (i:=9) rfl (fun K hK=>?_) AllReadyH.nil;go_simp;refine(HT.out _).mono ?_;rintro e wq⟨rfl,rfl⟩;refine hK.out _ _ hS0 (fun _=>?_);clear hK K;try dsimp only[Act.put]
 refine wpAnyH_done (by kernel_rfl) ?_ _;obtain⟨i0,i1,i2,i3,i4,i5⟩:=HT1.out.cells;clear hHeld hS0;go_wp2_with (first
  |(go_fit (HTh.out _);rintro e wq⟨rfl,rfl⟩)
  |(go_at_call 136;rcases hq1:QK S (Zd cls) with _|S2;(with_reducible refine(HT1.out.putN (Zd cls) hq1).mono ?_);(rintro e w2 hP;obtain⟨hB,rfl⟩:=hP.no';exact And.intro rfl (HT1.out.stop hB (HR.out.symm.trans (Qd ((zW (Decidable.not_not.2 hk)).trans ((HX.out _ _).trans (qD hq1)))))));(with_reducible refine(HT1.out.putY (Zd cls) hq1).mono ?_);rintro e w2 hP;obtain⟨hB2,rfl,lv2,sv2,hS2,hk2⟩:=hP.ok';(have T2:=HT1.out.next hB2 hS2 hk2)))
 go_end0;exact T2.done (HR.out.symm.trans (zl ((zW (Decidable.not_not.2 hk)).trans ((HX.out _ _).trans (zD hq1)))))
theorem zdJ(w0 w:World)(B:Nat)(l:List Qb)(base:Nat)(ws:World)(hE:Env w0 w B l base ws)(sb:Nat)(qb Zb:Str)(lv sv:Value)(L S:List Str)(h:Qi base ws sb B qb Zb lv sv L S)(hS:Qm (Za l) S)(a b:Int)(type cls name:Str)(_hty:type.size<=1048576)(hc:cls.size<=1048576)(_hfr:qb.size<=maxLen):
 Calls Tryz.prog 102 #[.pointer (some ⟨sb,0,none⟩),.agg #[.int .i64 17,.int .i64 a,.int .i64 b,.string type,.string cls,.string name]] ws (qf base ws sb B qb Zb lv sv (Zn ((qF (Za l) cls name).bind fun t=>(zh (Za l) [t,Zd cls] S).map fun S1=>(L,S1)))):=by
 have T0:SA w0 w B l base ws lv sv sb qb Zb ws.heap.size [.int .i64 17,.int .i64 a,.int .i64 b,.string type,.string cls,.string name] (ws.alloc (.cells #[.int .i64 17,.int .i64 a,.int .i64 b,.string type,.string cls,.string name] 24)) lv sv L S:=SA.new hE h _;obtain⟨i0,i1,i2,i3,i4,i5⟩:=T0.cells;obtain⟨res,hres⟩:∃r,Zn ((qF (Za l) cls name).bind fun t=>(zh (Za l) [t,Zd cls] S).map fun S1=>(L,S1))=r:=⟨_,rfl⟩;have HR:=Xh hres;rw[hres];have HTh:Hid (∀wx,_):=fun wx=>ZX cls wx (Xf hc (by decide))
 have hth:(Zd cls).size<=maxLen:=by rw[qam];exact Xf (Nat.add_le_add_right hc 2) (by decide)
 clear hres hE h;go_enter Tryz.func102,Tryz.ntmps102;go_upto_region 11 with fail;have HT1:=Xh (T0.over Xb.drew);clear T0 i0 i1 i2 i3 i4 i5;refine wp_region_held_drew (S:=fun w'=>w'.cell? ⟨ws.heap.size,0,none⟩=some (.int .i64 17)/\w'.cell? ⟨ws.heap.size,1,none⟩=some (.int .i64 a)/\w'.cell? ⟨ws.heap.size,2,none⟩=some (.int .i64 b)/\w'.cell? ⟨ws.heap.size,3,none⟩=some (.string type)/\w'.cell? ⟨ws.heap.size,4,none⟩=some (.string cls)/\w'.cell? ⟨ws.heap.size,5,none⟩=some (.string name)) (by kernel_rfl) HT1.out.cells (fun hHeld=>?_);change wpAnyH _ _ _ _ _ 9 _ _ _;iterate 3 ((first|(refine tkN rfl rfl (by kernel_rfl) (by kernel_rfl) (by kernel_rfl) (fun _ _ _ h=>h) (by rfl) hHeld ?_)|(refine tkY (v:=?_) rfl rfl (by kernel_rfl) (by kernel_rfl) (by kernel_rfl) (fun _ _ _ h=>h) (by rfl) hHeld ?_ ?_;rotate_left;focus (intro w hSw;(obtain⟨s0,s1,s2,s3,s4,s5⟩:=hSw);go_simp;all_goals with_reducible rfl)));(try simp only[Act.put]);(try simp only[Xa]);(try simp only[Xd]);(try simp only[Xc]))
 refine tkI (i:=4) (fuel:=5) (v:=?_) rfl (by kernel_rfl) (by kernel_rfl) (by kernel_rfl) (fun _ _ _ h=>h) (by rfl) hHeld ?_ ?_;rotate_left;focus (intro w hSw;(obtain⟨s0,s1,s2,s3,s4,s5⟩:=hSw);go_simp;all_goals with_reducible rfl);(try simp only[Act.put]);(try simp only[Xa]);(try simp only[Xd]);(try simp only[Xc])
 refine tkI (i:=5) (fuel:=4) (v:=?_) rfl (by kernel_rfl) (by kernel_rfl) (by kernel_rfl) (fun _ _ _ h=>h) (by rfl) hHeld ?_ ?_;rotate_left;focus (intro w hSw;(obtain⟨s0,s1,s2,s3,s4,s5⟩:=hSw);go_simp;all_goals with_reducible rfl);(try simp only[Act.put]);(try simp only[Xa]);(try simp only[Xd]);(try simp only[Xc])
 refine wpAnyH_ready (rs:=[3]) (fuel:=3) (by kernel_rfl) (by simp) ?_;refine AllReadyH.cons (i:=3) rfl (fun K hK=>?_) AllReadyH.nil;go_simp;rcases hq0:qF (Za l) cls name with _|tf
 ·refine(HT1.out.fieldN 17 a b type cls name hc hq0).mono ?_;rintro e w2 hP;obtain⟨hB,rfl⟩:=hP.no';exact And.intro rfl (HT1.out.stop hB (HR.out.symm.trans (Qd (Zu hq0))))
 ·have htf:tf.size<=maxLen:=Xf (qS (zap hq0).2) (by decide);refine(HT1.out.fieldY 17 a b type cls name hc hq0).mono ?_;rintro e w2 hP;obtain⟨hB2,rfl,lv2,sv2,hS2,hk2⟩:=hP.ok';have HT2:=Xh (HT1.out.next hB2 hS2 hk2);clear hB2 hS2 hk2 hP;refine hK.out _ _ HT2.out.cells (fun _=>?_);clear hK K;try dsimp only[Act.put]
  refine wpAnyH_ready (rs:=[6]) (fuel:=2) (by kernel_rfl) (by simp) ?_;refine AllReadyH.cons (i:=6) rfl (fun K hK=>?_) AllReadyH.nil;go_simp;refine(HTh.out _).mono ?_;rintro e wq⟨rfl,rfl⟩;refine hK.out _ _ HT2.out.cells (fun _=>?_);clear hK K;try dsimp only[Act.put]
  refine wpAnyH_ready (rs:=[7]) (fuel:=1) (by kernel_rfl) (by simp) ?_;refine AllReadyH.cons (i:=7) rfl (fun K hK=>?_) AllReadyH.nil;go_simp;have HT3:=Xh (HT2.out.alloc (.cells #[.string tf,.string (Zd cls)] 9));refine hK.out _ _ HT3.out.cells (fun _=>?_);clear hK K;try dsimp only[Act.put]
  refine wpAnyH_ready (rs:=[8]) (fuel:=0) (by kernel_rfl) (by simp) ?_;refine AllReadyH.cons (i:=8) rfl (fun K hK=>?_) AllReadyH.nil;go_simp;rcases hq1:zh (Za l) [tf,Zd cls] S with _|S2
  ·refine(HT2.out.takeTN hS tf (Zd cls) htf hth _ rfl hq1).mono ?_;rintro e w3 hP;obtain⟨hB,rfl⟩:=hP.no';exact And.intro rfl (HT3.out.stop hB (HR.out.symm.trans (Qd ((Qe hq0).trans (ZaH hq1)))))
  ·refine(HT2.out.takeTY hS tf (Zd cls) htf hth _ rfl hq1).mono ?_;rintro e w3 hP;obtain⟨hB3,rfl,lv3,sv3,hS3,hk3⟩:=hP.ok';have HT4:=Xh (HT3.out.next hB3 hS3 hk3);clear hB3 hS3 hk3 hP;refine hK.out _ _ HT4.out.cells (fun _=>?_);clear hK K;refine wpAnyH_done (by kernel_rfl) ?_ _;clear hHeld;go_wp2_with fail;go_end0;exact HT4.out.done (HR.out.symm.trans (zl ((Qe hq0).trans (Z7 hq1))))
theorem qdh(w0 w:World)(B:Nat)(l:List Qb)(base:Nat)(ws:World)(hE:Env w0 w B l base ws)(sb:Nat)(qb Zb:Str)(lv sv:Value)(L S:List Str)(h:Qi base ws sb B qb Zb lv sv L S)(hS:Qm (Za l) S)(a b:Int)(type cls name:Str)(_hty:type.size<=1048576)(_hc:cls.size<=1048576)(_hfr:qb.size<=maxLen)(hq0:qK S=none):
 Calls Tryz.prog 102 #[.pointer (some ⟨sb,0,none⟩),.agg #[.int .i64 19,.int .i64 a,.int .i64 b,.string type,.string cls,.string name]] ws (qf base ws sb B qb Zb lv sv (Zn ((qK S).bind fun p=>if qW p.1=true then zv L p.2 kI else none))):=by
 have T0:SA w0 w B l base ws lv sv sb qb Zb ws.heap.size [.int .i64 19,.int .i64 a,.int .i64 b,.string type,.string cls,.string name] (ws.alloc (.cells #[.int .i64 19,.int .i64 a,.int .i64 b,.string type,.string cls,.string name] 24)) lv sv L S:=SA.new hE h _;obtain⟨i0,i1,i2,i3,i4,i5⟩:=T0.cells;obtain⟨res,hres⟩:∃r,Zn ((qK S).bind fun p=>if qW p.1=true then zv L p.2 kI else none)=r:=⟨_,rfl⟩;have HR:=Xh hres;rw[hres];clear hres hE h;go_enter Tryz.func102,Tryz.ntmps102;go_wp2_with (first
  |(go_fit (T0.refN hS hq0);rintro e w1 hP;obtain⟨hB1,rfl⟩:=hP.no'))
 exact And.intro rfl (T0.stop hB1 (HR.out.symm.trans (Qd (Zu hq0))))
theorem Qdh(w0 w:World)(B:Nat)(l:List Qb)(base:Nat)(ws:World)(hE:Env w0 w B l base ws)(sb:Nat)(qb Zb:Str)(lv sv:Value)(L S:List Str)(h:Qi base ws sb B qb Zb lv sv L S)(hS:Qm (Za l) S)(a b:Int)(type cls name:Str)(_hty:type.size<=1048576)(_hc:cls.size<=1048576)(_hfr:qb.size<=maxLen)(k:Str)(S1:List Str)(hq0:qK S=some (k,S1))(hn:(k.toList==[78])=true):
 Calls Tryz.prog 102 #[.pointer (some ⟨sb,0,none⟩),.agg #[.int .i64 19,.int .i64 a,.int .i64 b,.string type,.string cls,.string name]] ws (qf base ws sb B qb Zb lv sv (Zn ((qK S).bind fun p=>if qW p.1=true then zv L p.2 kI else none))):=by
 have T0:SA w0 w B l base ws lv sv sb qb Zb ws.heap.size [.int .i64 19,.int .i64 a,.int .i64 b,.string type,.string cls,.string name] (ws.alloc (.cells #[.int .i64 19,.int .i64 a,.int .i64 b,.string type,.string cls,.string name] 24)) lv sv L S:=SA.new hE h _;obtain⟨i0,i1,i2,i3,i4,i5⟩:=T0.cells;obtain⟨res,hres⟩:∃r,Zn ((qK S).bind fun p=>if qW p.1=true then zv L p.2 kI else none)=r:=⟨_,rfl⟩;have HR:=Xh hres;rw[hres];have HT:Hid (∀wx,_):=fun wx=>zI wx
 have hlo:qW k=true:=by unfold qW;rw[hn];rfl
 unfold kI at *;clear hres hE h;go_enter Tryz.func102,Tryz.ntmps102;go_wp2_with (first
  |(go_fit (T0.refY hS hq0);rintro e w1 hP;obtain⟨hB1,rfl,lv1,sv1,hS1,hk1⟩:=hP.ok';(have T1:=T0.next hB1 hS1 hk1);obtain⟨i0,i1,i2,i3,i4,i5⟩:=T1.cells)
  |(go_fit (HT.out _);rintro e wq⟨rfl,rfl⟩)
  |(go_at_call 136;rcases hq1:QK S1 ⟨#[73]⟩ with _|S2;(with_reducible refine(T1.putN ⟨#[73]⟩ hq1).mono ?_);(rintro e w2 hP;obtain⟨hB,rfl⟩:=hP.no';exact And.intro rfl (T1.stop hB (HR.out.symm.trans (Qd ((Qe hq0).trans ((if_pos hlo).trans (qD hq1)))))));(with_reducible refine(T1.putY ⟨#[73]⟩ hq1).mono ?_);rintro e w2 hP;obtain⟨hB2,rfl,lv2,sv2,hS2,hk2⟩:=hP.ok';(have T2:=T1.next hB2 hS2 hk2)))
 go_end0;exact T2.done (HR.out.symm.trans (zl ((Qe hq0).trans ((if_pos hlo).trans (zD hq1)))))
theorem zdi(w0 w:World)(B:Nat)(l:List Qb)(base:Nat)(ws:World)(hE:Env w0 w B l base ws)(sb:Nat)(qb Zb:Str)(lv sv:Value)(L S:List Str)(h:Qi base ws sb B qb Zb lv sv L S)(hS:Qm (Za l) S)(a b:Int)(type cls name:Str)(_hty:type.size<=1048576)(_hc:cls.size<=1048576)(_hfr:qb.size<=maxLen)(k:Str)(S1:List Str)(hq0:qK S=some (k,S1))(hn:(k.toList==[78])=false)(ha:Lib.hasPrefix k.toList [91]=true):
 Calls Tryz.prog 102 #[.pointer (some ⟨sb,0,none⟩),.agg #[.int .i64 19,.int .i64 a,.int .i64 b,.string type,.string cls,.string name]] ws (qf base ws sb B qb Zb lv sv (Zn ((qK S).bind fun p=>if qW p.1=true then zv L p.2 kI else none))):=by
 have T0:SA w0 w B l base ws lv sv sb qb Zb ws.heap.size [.int .i64 19,.int .i64 a,.int .i64 b,.string type,.string cls,.string name] (ws.alloc (.cells #[.int .i64 19,.int .i64 a,.int .i64 b,.string type,.string cls,.string name] 24)) lv sv L S:=SA.new hE h _;obtain⟨i0,i1,i2,i3,i4,i5⟩:=T0.cells;obtain⟨res,hres⟩:∃r,Zn ((qK S).bind fun p=>if qW p.1=true then zv L p.2 kI else none)=r:=⟨_,rfl⟩;have HR:=Xh hres;rw[hres];have HT:Hid (∀wx,_):=fun wx=>zI wx
 have HP:Hid (∀wx,_):=fun wx=>Zy k ⟨#[91]⟩ wx
 rw[<-ByteArray.toList_eq,show(⟨#[91]⟩:Str).data.toList=[91] from rfl,ha]at HP;have hlo:qW k=true:=by unfold qW;rw[hn,ha];rfl
 unfold kI at *;clear hres hE h;go_enter Tryz.func102,Tryz.ntmps102;go_wp2_with (first
  |(go_fit (T0.refY hS hq0);rintro e w1 hP;obtain⟨hB1,rfl,lv1,sv1,hS1,hk1⟩:=hP.ok';(have T1:=T0.next hB1 hS1 hk1);obtain⟨i0,i1,i2,i3,i4,i5⟩:=T1.cells)
  |(go_fit (HP.out _);rintro e wq⟨rfl,rfl⟩)
  |(go_fit (HT.out _);rintro e wq⟨rfl,rfl⟩)
  |(go_at_call 136;rcases hq1:QK S1 ⟨#[73]⟩ with _|S2;(with_reducible refine(T1.putN ⟨#[73]⟩ hq1).mono ?_);(rintro e w2 hP;obtain⟨hB,rfl⟩:=hP.no';exact And.intro rfl (T1.stop hB (HR.out.symm.trans (Qd ((Qe hq0).trans ((if_pos hlo).trans (qD hq1)))))));(with_reducible refine(T1.putY ⟨#[73]⟩ hq1).mono ?_);rintro e w2 hP;obtain⟨hB2,rfl,lv2,sv2,hS2,hk2⟩:=hP.ok';(have T2:=T1.next hB2 hS2 hk2)))
 go_end0;exact T2.done (HR.out.symm.trans (zl ((Qe hq0).trans ((if_pos hlo).trans (zD hq1)))))
theorem Zdi(w0 w:World)(B:Nat)(l:List Qb)(base:Nat)(ws:World)(hE:Env w0 w B l base ws)(sb:Nat)(qb Zb:Str)(lv sv:Value)(L S:List Str)(h:Qi base ws sb B qb Zb lv sv L S)(hS:Qm (Za l) S)(a b:Int)(type cls name:Str)(_hty:type.size<=1048576)(_hc:cls.size<=1048576)(_hfr:qb.size<=maxLen)(k:Str)(S1:List Str)(hq0:qK S=some (k,S1))(hn:(k.toList==[78])=false)(ha:Lib.hasPrefix k.toList [91]=false):
 Calls Tryz.prog 102 #[.pointer (some ⟨sb,0,none⟩),.agg #[.int .i64 19,.int .i64 a,.int .i64 b,.string type,.string cls,.string name]] ws (qf base ws sb B qb Zb lv sv (Zn ((qK S).bind fun p=>if qW p.1=true then zv L p.2 kI else none))):=by
 have T0:SA w0 w B l base ws lv sv sb qb Zb ws.heap.size [.int .i64 19,.int .i64 a,.int .i64 b,.string type,.string cls,.string name] (ws.alloc (.cells #[.int .i64 19,.int .i64 a,.int .i64 b,.string type,.string cls,.string name] 24)) lv sv L S:=SA.new hE h _;obtain⟨i0,i1,i2,i3,i4,i5⟩:=T0.cells;obtain⟨res,hres⟩:∃r,Zn ((qK S).bind fun p=>if qW p.1=true then zv L p.2 kI else none)=r:=⟨_,rfl⟩;have HR:=Xh hres;rw[hres];have HT:Hid (∀wx,_):=fun wx=>qB wx
 have HP:Hid (∀wx,_):=fun wx=>Zy k ⟨#[91]⟩ wx
 rw[<-ByteArray.toList_eq,show(⟨#[91]⟩:Str).data.toList=[91] from rfl,ha]at HP;have hlo:qW k=false:=by unfold qW;rw[hn,ha];rfl
 unfold kI at *;clear hres hE h;go_enter Tryz.func102,Tryz.ntmps102;go_wp2_with (first
  |(go_fit (T0.refY hS hq0);rintro e w1 hP;obtain⟨hB1,rfl,lv1,sv1,hS1,hk1⟩:=hP.ok';(have T1:=T0.next hB1 hS1 hk1);obtain⟨i0,i1,i2,i3,i4,i5⟩:=T1.cells)
  |(go_fit (HP.out _);rintro e wq⟨rfl,rfl⟩)
  |(go_fit (HT.out _);rintro e wq⟨rfl,rfl⟩))
 exact And.intro rfl (T1.stop Xb (HR.out.symm.trans (Qd ((Qe hq0).trans (if_neg (by rw[hlo];decide))))))
theorem qdi(w0 w:World)(B:Nat)(l:List Qb)(base:Nat)(ws:World)(hE:Env w0 w B l base ws)(sb:Nat)(qb Zb:Str)(lv sv:Value)(L S:List Str)(h:Qi base ws sb B qb Zb lv sv L S)(_hS:Qm (Za l) S)(a b:Int)(type cls name:Str)(hty:type.size<=1048576)(_hc:cls.size<=1048576)(_hfr:qb.size<=maxLen)(hk:¬zd (Za l) type=0):
 Calls Tryz.prog 102 #[.pointer (some ⟨sb,0,none⟩),.agg #[.int .i64 23,.int .i64 a,.int .i64 b,.string type,.string cls,.string name]] ws (qf base ws sb B qb Zb lv sv (Zn (knK (Za l) type ((qK S).bind fun p=>zv L p.2 kI)))):=by
 have T0:SA w0 w B l base ws lv sv sb qb Zb ws.heap.size [.int .i64 23,.int .i64 a,.int .i64 b,.string type,.string cls,.string name] (ws.alloc (.cells #[.int .i64 23,.int .i64 a,.int .i64 b,.string type,.string cls,.string name] 24)) lv sv L S:=SA.new hE h _;obtain⟨i0,i1,i2,i3,i4,i5⟩:=T0.cells;obtain⟨res,hres⟩:∃r,Zn (knK (Za l) type ((qK S).bind fun p=>zv L p.2 kI))=r:=⟨_,rfl⟩;have HR:=Xh hres;rw[hres];have hml:type.size<=maxLen:=Xf hty (by decide);clear hres hE h;go_enter Tryz.func102,Tryz.ntmps102;go_wp2_with (first
  |(go_fit (T0.knowsN type hml hk);rintro e w1 hP;obtain⟨hB1,rfl⟩:=hP.no'))
 exact And.intro rfl (T0.stop hB1 (HR.out.symm.trans (Qd (qa4 hk))))
theorem Qdi(w0 w:World)(B:Nat)(l:List Qb)(base:Nat)(ws:World)(hE:Env w0 w B l base ws)(sb:Nat)(qb Zb:Str)(lv sv:Value)(L S:List Str)(h:Qi base ws sb B qb Zb lv sv L S)(hS:Qm (Za l) S)(a b:Int)(type cls name:Str)(hty:type.size<=1048576)(_hc:cls.size<=1048576)(_hfr:qb.size<=maxLen)(hk:zd (Za l) type=0)(hq1:qK S=none):
 Calls Tryz.prog 102 #[.pointer (some ⟨sb,0,none⟩),.agg #[.int .i64 23,.int .i64 a,.int .i64 b,.string type,.string cls,.string name]] ws (qf base ws sb B qb Zb lv sv (Zn (knK (Za l) type ((qK S).bind fun p=>zv L p.2 kI)))):=by
 have T0:SA w0 w B l base ws lv sv sb qb Zb ws.heap.size [.int .i64 23,.int .i64 a,.int .i64 b,.string type,.string cls,.string name] (ws.alloc (.cells #[.int .i64 23,.int .i64 a,.int .i64 b,.string type,.string cls,.string name] 24)) lv sv L S:=SA.new hE h _;obtain⟨i0,i1,i2,i3,i4,i5⟩:=T0.cells;obtain⟨res,hres⟩:∃r,Zn (knK (Za l) type ((qK S).bind fun p=>zv L p.2 kI))=r:=⟨_,rfl⟩;have HR:=Xh hres;rw[hres];have hml:type.size<=maxLen:=Xf hty (by decide);clear hres hE h;go_enter Tryz.func102,Tryz.ntmps102;go_wp2_with (first
  |(go_fit (T0.knowsY type hml hk);rintro e w1 hP;obtain⟨hB1,rfl,lv1,sv1,hS1,hk1⟩:=hP.ok';(have T1:=T0.next hB1 hS1 hk1);obtain⟨i0,i1,i2,i3,i4,i5⟩:=T1.cells)
  |(go_fit (T1.refN hS hq1);rintro e w2 hP;obtain⟨hB2,rfl⟩:=hP.no'))
 exact And.intro rfl (T1.stop hB2 (HR.out.symm.trans (Qd ((zW (Decidable.not_not.2 hk)).trans (Zu hq1)))))
theorem zdj(w0 w:World)(B:Nat)(l:List Qb)(base:Nat)(ws:World)(hE:Env w0 w B l base ws)(sb:Nat)(qb Zb:Str)(lv sv:Value)(L S:List Str)(h:Qi base ws sb B qb Zb lv sv L S)(hS:Qm (Za l) S)(a b:Int)(type cls name:Str)(hty:type.size<=1048576)(_hc:cls.size<=1048576)(_hfr:qb.size<=maxLen)(hk:zd (Za l) type=0)(k:Str)(S1:List Str)(hq1:qK S=some (k,S1)):
 Calls Tryz.prog 102 #[.pointer (some ⟨sb,0,none⟩),.agg #[.int .i64 23,.int .i64 a,.int .i64 b,.string type,.string cls,.string name]] ws (qf base ws sb B qb Zb lv sv (Zn (knK (Za l) type ((qK S).bind fun p=>zv L p.2 kI)))):=by
 have T0:SA w0 w B l base ws lv sv sb qb Zb ws.heap.size [.int .i64 23,.int .i64 a,.int .i64 b,.string type,.string cls,.string name] (ws.alloc (.cells #[.int .i64 23,.int .i64 a,.int .i64 b,.string type,.string cls,.string name] 24)) lv sv L S:=SA.new hE h _;obtain⟨i0,i1,i2,i3,i4,i5⟩:=T0.cells;obtain⟨res,hres⟩:∃r,Zn (knK (Za l) type ((qK S).bind fun p=>zv L p.2 kI))=r:=⟨_,rfl⟩;have HR:=Xh hres;rw[hres];have hml:type.size<=maxLen:=Xf hty (by decide);have hlow:=h.low;have hlt:=h.blk.lt;unfold kI at *;clear hres hE h;go_enter Tryz.func102,Tryz.ntmps102;go_upto_region 32 with(first
  |(go_fit (T0.knowsY type hml hk);rintro e w1 hP;obtain⟨hB1,rfl,lv1,sv1,hS1,hk1⟩:=hP.ok';(have T1:=T0.next hB1 hS1 hk1);obtain⟨i0,i1,i2,i3,i4,i5⟩:=T1.cells)
  |(go_fit (T1.refY hS hq1);rintro e w2 hP;obtain⟨hB2,rfl,lv2,sv2,hS2,hk2⟩:=hP.ok';(have T2:=T1.next hB2 hS2 hk2);obtain⟨i0,i1,i2,i3,i4,i5⟩:=T2.cells))
 have T3:=T2.boxed Xl (Xf hlow (Nat.le_of_lt hlt)) 3 (.string ⟨#[73]⟩);have f3:=T2.box.frozen 3;have j3:(w2.setCell ⟨ws.heap.size,3,none⟩ (.string ⟨#[73]⟩)).cell? ⟨ws.heap.size,3,none⟩=some (.string ⟨#[73]⟩):=T3.box.cell 3;go_wp2_with (first
  |(go_at_call 136;rcases hq2:QK S1 ⟨#[73]⟩ with _|S2;(with_reducible refine(T3.putN ⟨#[73]⟩ hq2).mono ?_);(rintro e w4 hP;obtain⟨hB,rfl⟩:=hP.no';exact And.intro rfl (T3.stop hB (HR.out.symm.trans (Qd ((zW (Decidable.not_not.2 hk)).trans ((Qe hq1).trans (qD hq2)))))));(with_reducible refine(T3.putY ⟨#[73]⟩ hq2).mono ?_);rintro e w4 hP;obtain⟨hB4,rfl,lv4,sv4,hS4,hk4⟩:=hP.ok';(have T4:=T3.next hB4 hS4 hk4)))
 go_end0;exact T4.done (HR.out.symm.trans (zl ((zW (Decidable.not_not.2 hk)).trans ((Qe hq1).trans (zD hq2)))))
theorem ZdJ(w0 w:World)(B:Nat)(l:List Qb)(base:Nat)(ws:World)(hE:Env w0 w B l base ws)(sb:Nat)(qb Zb:Str)(lv sv:Value)(L S:List Str)(h:Qi base ws sb B qb Zb lv sv L S)(hS:Qm (Za l) S)(a b:Int)(type cls name:Str)(hty:type.size<=1048576)(hc:cls.size<=1048576)(hfr:qb.size<=maxLen):
 Calls Tryz.prog 102 #[.pointer (some ⟨sb,0,none⟩),.agg #[.int .i64 24,.int .i64 a,.int .i64 b,.string type,.string cls,.string name]] ws (qf base ws sb B qb Zb lv sv (Zn (Qam (Za l) qb cls name type false L S))):=by
 have T0:SA w0 w B l base ws lv sv sb qb Zb ws.heap.size [.int .i64 24,.int .i64 a,.int .i64 b,.string type,.string cls,.string name] (ws.alloc (.cells #[.int .i64 24,.int .i64 a,.int .i64 b,.string type,.string cls,.string name] 24)) lv sv L S:=SA.new hE h _;obtain⟨i0,i1,i2,i3,i4,i5⟩:=T0.cells;obtain⟨res,hres⟩:∃r,Zn (Qam (Za l) qb cls name type false L S)=r:=⟨_,rfl⟩;have HR:=Xh hres;rw[hres];clear hres hE h;go_enter Tryz.func102,Tryz.ntmps102;go_wp2_with (first
  |(go_at_call 147;rcases hq0:Qam (Za l) qb cls name type false L S with _|⟨L1,S1⟩;(with_reducible refine(T0.callN hS 24 a b type cls name false hc hfr hty hq0).mono ?_);(rintro e w1 hP;obtain⟨hB,rfl⟩:=hP.no';exact And.intro rfl (T0.stop hB (HR.out.symm.trans (Qd hq0))));(with_reducible refine(T0.callY hS 24 a b type cls name false hc hfr hty hq0).mono ?_);rintro e w1 hP;obtain⟨hB1,rfl,lv1,sv1,hS1,hk1⟩:=hP.ok';(have T1:=T0.next hB1 hS1 hk1)))
 go_end0;exact T1.done (HR.out.symm.trans (zl hq0))
theorem qdJ(w0 w:World)(B:Nat)(l:List Qb)(base:Nat)(ws:World)(hE:Env w0 w B l base ws)(sb:Nat)(qb Zb:Str)(lv sv:Value)(L S:List Str)(h:Qi base ws sb B qb Zb lv sv L S)(hS:Qm (Za l) S)(a b:Int)(type cls name:Str)(hty:type.size<=1048576)(hc:cls.size<=1048576)(hfr:qb.size<=maxLen):
 Calls Tryz.prog 102 #[.pointer (some ⟨sb,0,none⟩),.agg #[.int .i64 25,.int .i64 a,.int .i64 b,.string type,.string cls,.string name]] ws (qf base ws sb B qb Zb lv sv (Zn (Qam (Za l) qb cls name type true L S))):=by
 have T0:SA w0 w B l base ws lv sv sb qb Zb ws.heap.size [.int .i64 25,.int .i64 a,.int .i64 b,.string type,.string cls,.string name] (ws.alloc (.cells #[.int .i64 25,.int .i64 a,.int .i64 b,.string type,.string cls,.string name] 24)) lv sv L S:=SA.new hE h _;obtain⟨i0,i1,i2,i3,i4,i5⟩:=T0.cells;obtain⟨res,hres⟩:∃r,Zn (Qam (Za l) qb cls name type true L S)=r:=⟨_,rfl⟩;have HR:=Xh hres;rw[hres];clear hres hE h;go_enter Tryz.func102,Tryz.ntmps102;go_wp2_with (first
  |(go_at_call 147;rcases hq0:Qam (Za l) qb cls name type true L S with _|⟨L1,S1⟩;(with_reducible refine(T0.callN hS 25 a b type cls name true hc hfr hty hq0).mono ?_);(rintro e w1 hP;obtain⟨hB,rfl⟩:=hP.no';exact And.intro rfl (T0.stop hB (HR.out.symm.trans (Qd hq0))));(with_reducible refine(T0.callY hS 25 a b type cls name true hc hfr hty hq0).mono ?_);rintro e w1 hP;obtain⟨hB1,rfl,lv1,sv1,hS1,hk1⟩:=hP.ok';(have T1:=T0.next hB1 hS1 hk1)))
 go_end0;exact T1.done (HR.out.symm.trans (zl hq0))
theorem ZcD(w0 w:World)(B:Nat)(l:List Qb)(base:Nat)(ws:World)(hE:Env w0 w B l base ws)(sb:Nat)(qb Zb:Str)(lv sv:Value)(L S:List Str)(h:Qi base ws sb B qb Zb lv sv L S)(op a b:Int)(type cls name:Str)(_hty:type.size<=1048576)(_hc:cls.size<=1048576)(_hfr:qb.size<=maxLen)(h15:(op==15)=false)(h16:(op==16)=false)(h17:(op==17)=false)(h18:(op==18)=false)(h19:(op==19)=false)(h20:(op==20)=false)(h21:(op==21)=false)(h22:(op==22)=false)(h23:(op==23)=false)(h24:(op==24)=false)(h25:(op==25)=false):
 Calls Tryz.prog 102 #[.pointer (some ⟨sb,0,none⟩),.agg #[.int .i64 op,.int .i64 a,.int .i64 b,.string type,.string cls,.string name]] ws (qf base ws sb B qb Zb lv sv (Zn (some (L,S)))):=by
 have T0:SA w0 w B l base ws lv sv sb qb Zb ws.heap.size [.int .i64 op,.int .i64 a,.int .i64 b,.string type,.string cls,.string name] (ws.alloc (.cells #[.int .i64 op,.int .i64 a,.int .i64 b,.string type,.string cls,.string name] 24)) lv sv L S:=SA.new hE h _;obtain⟨i0,i1,i2,i3,i4,i5⟩:=T0.cells;obtain⟨res,hres⟩:∃r,Zn (some (L,S))=r:=⟨_,rfl⟩;have HR:=Xh hres;rw[hres];clear hres hE h;go_enter Tryz.func102,Tryz.ntmps102;go_wp2_with fail;go_end0;exact T0.done (HR.out.symm.trans (zl rfl))
set_option maxRecDepth 512
theorem qaS(cs:List Qb)(qb:Str)(a b:Int)(type cls name:Str)(L S:List Str):
 zP cs qb ⟨15,a,b,type,cls,name⟩ L S=knK cs (Zd cls) (Zba cs cls L S)
 /\zP cs qb ⟨16,a,b,type,cls,name⟩ L S=((qF cs cls name).bind fun t=>(zh cs [Zd cls] S).bind fun S1=>zv L S1 t)
 /\zP cs qb ⟨17,a,b,type,cls,name⟩ L S=((qF cs cls name).bind fun t=>(zh cs [t,Zd cls] S).map fun S1=>(L,S1))
 /\zP cs qb ⟨18,a,b,type,cls,name⟩ L S=knK cs type ((zh cs [kI] S).bind fun S1=>zv L S1 (QE type))
 /\zP cs qb ⟨19,a,b,type,cls,name⟩ L S=((qK S).bind fun p=>if qW p.1=true then zv L p.2 kI else none)
 /\zP cs qb ⟨20,a,b,type,cls,name⟩ L S=((zK cs type S).bind fun S1=>zv L S1 type)
 /\zP cs qb ⟨21,a,b,type,cls,name⟩ L S=knK cs type ((zh cs [type] S).bind fun S1=>(zK cs type S1).map fun S2=>(L,S2))
 /\zP cs qb ⟨22,a,b,type,cls,name⟩ L S=knK cs type ((qK S).bind fun p=>zv L p.2 type)
 /\zP cs qb ⟨23,a,b,type,cls,name⟩ L S=knK cs type ((qK S).bind fun p=>zv L p.2 kI)
 /\zP cs qb ⟨24,a,b,type,cls,name⟩ L S=Qam cs qb cls name type false L S
 /\zP cs qb ⟨25,a,b,type,cls,name⟩ L S=Qam cs qb cls name type true L S :=
 ⟨rfl,rfl,rfl,rfl,rfl,rfl,rfl,rfl,rfl,rfl,rfl⟩
theorem zaj{cs:List Qb}{qb:Str}{x:Ins}{L S:List Str}(h:x.op≠15/\x.op≠16/\x.op≠17/\x.op≠18/\x.op≠19/\x.op≠20/\x.op≠21/\x.op≠22/\x.op≠23/\x.op≠24/\x.op≠25):zP cs qb x L S=some (L,S):=by
 obtain⟨h1,h2,h3,h4,h5,h6,h7,h8,h9,h10,h11⟩:=h;unfold zP;rw[if_neg h1,if_neg h2,if_neg h3,if_neg h4,if_neg h5,if_neg h6,if_neg h7,if_neg h8,if_neg h9,if_neg h10,if_neg h11]
theorem Zdj(w0 w:World)(B:Nat)(l:List Qb)(base:Nat)(ws:World)(hE:Env w0 w B l base ws)(sb:Nat)(qb Zb:Str)(lv sv:Value)(L S:List Str)(h:Qi base ws sb B qb Zb lv sv L S)(x:Ins)(hS:15<=x.op/\x.op<=25->Qm (Za l) S)(hty:x.type.size<=1048576)(hc:x.cls.size<=1048576)(hfr:qb.size<=maxLen):
 Calls Tryz.prog 102 #[.pointer (some ⟨sb,0,none⟩),ZW x] ws (qf base ws sb B qb Zb lv sv (Zn (zP (Za l) qb x L S))):=by
 obtain⟨op,a,b,type,cls,name⟩:=x;replace hty:type.size<=1048576:=hty;replace hc:cls.size<=1048576:=hc;unfold ZW;dsimp only at hS ⊢;obtain⟨e15,e16,e17,e18,e19,e20,e21,e22,e23,e24,e25⟩:=qaS (Za l) qb a b type cls name L S;by_cases h15:op=15
 ·subst h15;rw[e15];by_cases hk:zd (Za l) (Zd cls)=0
  ·cases hface:(qh (Za l) cls).face with
   |true=>exact zdh w0 w B l base ws hE sb qb Zb lv sv L S h (hS (by omega)) a b type cls name hty hc hfr hk hface
   |false=>exact Zdh w0 w B l base ws hE sb qb Zb lv sv L S h (hS (by omega)) a b type cls name hty hc hfr hk hface
  ·exact Qdg w0 w B l base ws hE sb qb Zb lv sv L S h (hS (by omega)) a b type cls name hty hc hfr hk
 by_cases h16:op=16
 ·subst h16;rw[e16];exact QdH w0 w B l base ws hE sb qb Zb lv sv L S h (hS (by omega)) a b type cls name hty hc hfr
 by_cases h17:op=17
 ·subst h17;rw[e17];exact zdJ w0 w B l base ws hE sb qb Zb lv sv L S h (hS (by omega)) a b type cls name hty hc hfr
 by_cases h18:op=18
 ·subst h18;rw[e18];exact zdI w0 w B l base ws hE sb qb Zb lv sv L S h (hS (by omega)) a b type cls name hty hc hfr
 by_cases h19:op=19
 ·subst h19;rw[e19];cases hq:qK S with
  |none =>
   have:=qdh w0 w B l base ws hE sb qb Zb lv sv L S h (hS (by omega)) a b type cls name hty hc hfr hq;rw[hq]at this;exact this
  |some p =>
   obtain⟨k,S1⟩:=p;rw[<-hq];cases hn:(k.toList==[78]) with
   |true=>exact Qdh w0 w B l base ws hE sb qb Zb lv sv L S h (hS (by omega)) a b type cls name hty hc hfr k S1 hq hn
   |false =>
    cases ha:Lib.hasPrefix k.toList [91] with
    |true=>exact zdi w0 w B l base ws hE sb qb Zb lv sv L S h (hS (by omega)) a b type cls name hty hc hfr k S1 hq hn ha
    |false=>exact Zdi w0 w B l base ws hE sb qb Zb lv sv L S h (hS (by omega)) a b type cls name hty hc hfr k S1 hq hn ha
 by_cases h20:op=20
 ·subst h20;rw[e20];exact ZdI w0 w B l base ws hE sb qb Zb lv sv L S h (hS (by omega)) a b type cls name hty hc hfr
 by_cases h21:op=21
 ·subst h21;rw[e21];exact qdI w0 w B l base ws hE sb qb Zb lv sv L S h (hS (by omega)) a b type cls name hty hc hfr
 by_cases h22:op=22
 ·subst h22;rw[e22];exact QdI w0 w B l base ws hE sb qb Zb lv sv L S h (hS (by omega)) a b type cls name hty hc hfr
 by_cases h23:op=23
 ·subst h23;rw[e23];by_cases hk:zd (Za l) type=0
  ·cases hq:qK S with
   |none =>
    have:=Qdi w0 w B l base ws hE sb qb Zb lv sv L S h (hS (by omega)) a b type cls name hty hc hfr hk hq;rw[hq]at this;exact this
   |some p =>
    obtain⟨k,S1⟩:=p;rw[<-hq];exact zdj w0 w B l base ws hE sb qb Zb lv sv L S h (hS (by omega)) a b type cls name hty hc hfr hk k S1 hq
  ·exact qdi w0 w B l base ws hE sb qb Zb lv sv L S h (hS (by omega)) a b type cls name hty hc hfr hk
 by_cases h24:op=24
 ·subst h24;rw[e24];exact ZdJ w0 w B l base ws hE sb qb Zb lv sv L S h (hS (by omega)) a b type cls name hty hc hfr
 by_cases h25:op=25
 ·subst h25;rw[e25];exact qdJ w0 w B l base ws hE sb qb Zb lv sv L S h (hS (by omega)) a b type cls name hty hc hfr
 rw[zaj ⟨h15,h16,h17,h18,h19,h20,h21,h22,h23,h24,h25⟩];exact ZcD w0 w B l base ws hE sb qb Zb lv sv L S h op a b type cls name hty hc hfr (by simpa using h15) (by simpa using h16) (by simpa using h17) (by simpa using h18) (by simpa using h19) (by simpa using h20) (by simpa using h21) (by simpa using h22) (by simpa using h23) (by simpa using h24) (by simpa using h25)
def zq(cs:List Qb)(qb Zb:Str)(x:Ins)(L S:List Str):Option (List Str×List Str):=(qN cs Zb x L S).bind fun p=>zP cs qb x p.1 p.2
theorem qdj(cs:List Qb)(qb Zb:Str)(x:Ins)(L S:List Str):((qN cs Zb x L S).bind fun _=>zq cs qb Zb x L S)=zq cs qb Zb x L S:=by
 cases h:qN cs Zb x L S with
 |none=>unfold zq;rw[h];rfl
 |some p=>rfl
theorem qcY{cs:List Qb}{f:Frm}(h:zz cs f=0):Qm cs f.stack:=(zw h).2.2.2
theorem qdx(w0 w:World)(B:Nat)(l:List Qb)(hm:Qw w0 w B l)(qb Zb:Str)(x:Ins)(f:Frm)(f1 f2:Value)(hf:zk w f1 f2 f)(hz:zz (Za l) f=0)(hx:QaK x)(ha:x.op=4\/x.op=5->0<=x.a)(hfr:qb.size<=maxLen)(hg:Zb.size<=maxLen):
 Calls Tryz.prog 54 #[.map (some B),.string qb,.string Zb,ZW x,.agg #[f1,f2]] w (qbF w (zq (Za l) qb Zb x f.locals f.stack)):=by
 have hS:=qcY hz;obtain⟨h1,h2,_,_⟩:=zw hz;rw[<-qdj];have hty:x.type.size<=maxLen:=Xf hx.type (by decide);obtain⟨op,a,b,type,cls,name⟩:=x;refine Qdj w B qb Zb op a b type cls name f f1 f2 hf (by omega) (by omega) _ _ (fun base wx sb lv sv hb hw hst=>?_) (fun L S hq base wx sb lv sv hb hw hst=>?_)
 ·exact(qdC w0 w B l base wx ⟨hm,hb,hw⟩ sb qb Zb lv sv f.locals f.stack hst hS ⟨op,a,b,type,cls,name⟩ hty hg ha).mono fun _ _ h=>h.post
 ·have hr:zq (Za l) qb Zb ⟨op,a,b,type,cls,name⟩ f.locals f.stack=zP (Za l) qb ⟨op,a,b,type,cls,name⟩ L S:=by unfold zq;rw[hq];rfl
  rw[hr];refine(Zdj w0 w B l base wx ⟨hm,hb,hw⟩ sb qb Zb lv sv L S hst ⟨op,a,b,type,cls,name⟩ (fun hop=>?_) hx.type hx.cls hfr).mono fun _ _ h=>h.post
  have hp:qN (Za l) Zb ⟨op,a,b,type,cls,name⟩ f.locals f.stack=some (f.locals,f.stack):=Q7 (by dsimp only at hop ⊢;omega);rw[hp]at hq;injection hq with hq
  injection hq with _ h2
  exact h2▸hS
theorem qb7{x:Ins}(h:Zi x=0)(ho:x.op=4\/x.op=5):0<=x.a:=by
 unfold Zi at h;split at h
 ·cases h
 ·split at h
  ·cases h
  ·split at h
   ·cases h
   ·rename_i hr;unfold ZM at hr;rw[if_neg (by omega),if_pos ho]at hr;simp at hr;omega
end Go.Proofs.YtlmfmioljeppfaaGreatDoor
