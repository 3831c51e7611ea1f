/- Lemmas; conditions: as each states. -/
import Derived.Test.YtmclocdhcblbiaaGreatDoorRan
import Derived.Test.YtmclocdhcblbiaaGreatDoorRunSoundLaw
import Derived.Test.YtmclocdhcblbiaaGreatDoorRefLine
set_option maxHeartbeats 4000000
namespace Go.Proofs.YtmclocdhcblbiaaGreatDoor
open Go.RowKit Go.Shelf Go.Lib
theorem Zdf(k:Int)(A:(k==11)=false)(w:World):(binOp .eql 25 (.iface 52 (.int .i64 k)) (.iface 52 (.int .i64 11))).run Tryz.prog w=.ok (.bool false) w:=by
 rw[<-A];kernel_rfl
theorem qdV(w:World):(binOp .eql 25 .nilIface (.iface 52 (.int .i64 11))).run Tryz.prog w=.ok (.bool false) w:=by kernel_rfl
theorem ZeX(w:World):(binOp .eql 43 (.agg #[.int .i64 0,.int .i64 0]) (.agg #[.int .i64 0,.int .i64 0])).run Tryz.prog w=.ok (.bool true) w:=by kernel_rfl
theorem ZdB{l:List qa}(C:Qaj l 0){cls F A:Str}{args:List Val}{fuel:Int}{w w':World}{e:Ending}(h:Qa8 w l cls F A args fuel e w'):
 Below w.heap.size w w'/\((∃k:Int,e=.returned (.tuple #[.agg #[.int .i64 0,.int .i64 0,.string ⟨#[]⟩,.int .i64 0],.iface 52 (.int .i64 k)])/\(k==11)=false) \/
  (∃(v:Val) (t:Str) (n:Int),e=.returned (.tuple #[.agg #[.int .i64 v.kind,.int .i64 v.n,.string t,.int .i64 n],.nilIface])/\∃ts g,qi A=some (ts,g)/\qfe l g v t)):=by
 obtain⟨O,n,P,R⟩:=h;obtain rfl:=zby C P;refine⟨O,?_⟩;have N:Zp l=0:=by
  rcases C with⟨D,H⟩|⟨D,_⟩|⟨D,_⟩
  ·exact absurd H.symm D
  ·exact D
  ·exact D
 have B:Zao l:=by
  rcases C with⟨D,H⟩|⟨_,_,S⟩|⟨_,H,_⟩
  ·exact absurd H.symm D
  ·exact S
  ·cases H
 have J:=qa5 N;have L:=zds N;rcases R with⟨k,T,V,_,rfl⟩|⟨_,_,_,m,U,E⟩
 ·exact Or.inl ⟨k,rfl,by simp;omega⟩
 ·obtain⟨_,_,_,_,_,ts,g,G,_,M⟩:=zdy J L B U;cases I:QaI (Za l) fuel.toNat ⟨[],[zaJ cls m args]⟩ with
  |full=>rw[I]at E;exact Or.inl ⟨4,E,by decide⟩
  |fuel=>rw[I]at E;exact Or.inl ⟨10,E,by decide⟩
  |done v t n =>
   rw[I]at E;exact Or.inr ⟨v,t,(n:Int),E,ts,g,G,QdV J L G (QcX J L B M I)⟩
set_option maxRecDepth 100000
theorem qdf(l:List qa)(T:Value)(cls F A:Str)(args:List Val)(y:Value)(fuel:Int)(w:World)(Z:ZaB w)(ho:∀c∈l,Z4 c)(R:QJ w T l)(a:cls.size<=maxLen)(S:A.size<=1048576)(b:qe w 2 zu y args):
 Calls Tryz.prog 6 #[T,.string cls,.string F,.string A,y,.int .i64 fuel] w fun e w'=>e=.returned (.bool true)/\Below w.heap.size w w':=by
 have Y:=Xh (qd9 w Z);have U:Hid (∀wx,Below w.heap.size w wx->Calls Tryz.prog 13 #[T,.string cls,.string F,.string A,y,.int .i64 fuel] wx (Qa8 wx l cls F A args fuel)):=fun wx M=>Qbp l T wx (Z.mono M Z.1) ho (R.mono M) cls F A a S args y (b.mono M (by decide) (fun _ _ h=>h)) fuel
 have V:Hid (∀wx,Below w.heap.size w wx->_):=fun wx M=>qcm l T wx (Z.mono M Z.1) ho (R.mono M)
 have hts:=qb5;by_cases H:Qaj l 0
 ·have HFi:=Xh (fun(wx:World) (M:Below w.heap.size w wx)=>(U.out wx M).mono fun e w' h=>ZdB H h);have d:Hid (∀wx,Below w.heap.size w wx->Calls Tryz.prog 12 #[T] wx fun e w'=>Below wx.heap.size wx w'/\e=.returned .nilIface):=fun wx M=>(V.out wx M).mono fun e w' ⟨hB,n,x,he⟩=>by
   obtain rfl:=zby H x;exact⟨hB,he⟩
  have I:Hid (∀wx,_):=fun wx=>qcM A wx S
  have HLv:=Xh R;have HKi:=Xh S;have HRt:Hid (zh l):=by
   rcases H with⟨P,m⟩|⟨P,_⟩|⟨P,_⟩
   ·exact absurd m.symm P
   ·exact qa5 P
   ·exact qa5 P
  unfold zaG at I;clear Z ho R a S b U V H;go_enter Tryz.func6,Tryz.ntmps6;go_upto_region 5 with(first
   |(go_fit Y.out;rintro e w2⟨rfl,D⟩)
   |(go_fit (HFi.out _ D);rintro e E⟨G,⟨k,rfl,s⟩|⟨v,t,n,rfl,ts,g,i,hS⟩⟩))
  ·have B:=Qa (Qa D Xl G) Xl ((Below.refl E.heap.size E).alloc Xl (.cells #[.int .i64 0,.int .i64 0,.string ⟨#[]⟩,.int .i64 0] 45));have he:=Zdf k s;cases hm:qi A with
   |none =>
    rw[hm]at I;clear s hm D G;go_wp2_with (first
     |(go_fit (d.out _ B);rintro e w5⟨C,rfl⟩)
     |(go_fit (I.out _);rintro e L⟨J,rfl⟩))
    go_ret;exact⟨rfl,Qa (Qa B Xl C) Xl J⟩
   |some p =>
    obtain⟨ts,g⟩:=p;rw[hm]at I;clear s hm D G;go_wp2_with (first
     |(go_fit (d.out _ B);rintro e w5⟨C,rfl⟩)
     |(go_fit (I.out _);rintro e L⟨J,v6,rfl,_⟩))
    go_ret;exact⟨rfl,Qa (Qa B Xl C) Xl J⟩
  ·have hgs:g.size<=maxLen:=Xf (Z7 i).2 (Xf HKi.out (by decide));rw[i]at I;have z:=(Below.refl E.heap.size E).alloc Xl (.cells #[.int .i64 v.kind,.int .i64 v.n,.string t,.int .i64 n] 45);have B:=Qa (Qa D Xl G) Xl z;have HK:=Xh (Blk.new E 45 [.int .i64 v.kind,.int .i64 v.n,.string t,.int .i64 n]);have hne:=qdV;clear D G z i;go_upto_region 12 with(first
    |(go_fit (d.out _ B);rintro e w5⟨C,rfl⟩)
    |(go_fit (I.out _);rintro e L⟨J,v6,rfl,_⟩))
   have N:=Qa (Qa B Xl C) Xl J;have O:=(HK.out.step C).step J;obtain⟨X,r,c2,c3⟩:L.cell? ⟨E.heap.size,0,none⟩=some (.int .i64 v.kind)/\L.cell? ⟨E.heap.size,1,none⟩=some (.int .i64 v.n)/\L.cell? ⟨E.heap.size,2,none⟩=some (.string t)/\L.cell? ⟨E.heap.size,3,none⟩=some (.int .i64 n):=⟨O.cell 0,O.cell 1,O.cell 2,O.cell 3⟩;have HK6:=Xh O;have hvz:=ZeX;clear B C J O HK;rcases hS with⟨P,rfl,s,hL⟩|⟨P,⟨m,rfl⟩|⟨m,⟨o,h4,q,h6⟩|⟨o,h4,q⟩|⟨o,h4,q,h6⟩⟩⟩
   ·have X:L.cell? ⟨E.heap.size,0,none⟩=some (.int .i64 0):=X;have r:L.cell? ⟨E.heap.size,1,none⟩=some (.int .i64 0):=r;have h1':(t.toList==ByteArray.toList ⟨#[]⟩)=false:=(by rw[ByteArray.toList_eq ⟨#[]⟩];exact P);have HSu:Hid (Calls Tryz.prog 19 #[T,.string t] L fun e w'=>(∃v,e=.returned v/\Zo w' v (Zl (Za l) t))/\Below L.heap.size L w'):=(Qcz l T HRt.out _ t L (HLv.out.mono N) s Xl).mono fun e w' ⟨⟨v,P,m⟩,o⟩=>⟨⟨v,P,Qi m⟩,o⟩
    have HIn:Hid (∀wx vx,Zo wx vx (Zl (Za l) t)->Calls Tryz.prog 18 #[vx,.string { data:=#[70,97,117,108,116] }] wx fun e w'=>e=.returned (.bool true)/\wx=w'):=fun wx vx hv=>by
     have h:=Zfj _ vx Ql wx hv;rw[hL]at h;exact h
    clear s hL;go_wp2_with (first
     |(
      go_fit HSu.out;rintro e w7⟨⟨v7,rfl,hv7⟩,j⟩;have f:=HK6.out.step j;obtain⟨d0,d1⟩:w7.cell? ⟨E.heap.size,0,none⟩=some (.int .i64 0)/\w7.cell? ⟨E.heap.size,1,none⟩=some (.int .i64 0):=⟨f.cell 0,f.cell 1⟩;have HB7:=Xh (Qa N Xl j);clear f j X r c2 c3)
     |(go_fit (HIn.out _ _ hv7);rintro e w8⟨rfl,rfl⟩))
    go_ret;exact⟨rfl,HB7⟩
   ·have h1':(t.toList==ByteArray.toList ⟨#[]⟩)=true:=(by rw[ByteArray.toList_eq ⟨#[]⟩];exact P);have X:L.cell? ⟨E.heap.size,0,none⟩=some (.int .i64 0):=X;have r:L.cell? ⟨E.heap.size,1,none⟩=some (.int .i64 0):=r;have h2':(g.toList==ByteArray.toList ⟨#[86]⟩)=true:=(by rw[ByteArray.toList_eq ⟨#[86]⟩];exact m);go_wp2_with fail;go_ret;exact⟨rfl,N⟩
   all_goals have h1':(t.toList==ByteArray.toList ⟨#[]⟩)=true:=by rw[ByteArray.toList_eq ⟨#[]⟩];exact P
   all_goals have h2':(g.toList==ByteArray.toList ⟨#[86]⟩)=false:=by rw[ByteArray.toList_eq ⟨#[86]⟩];exact m
   ·have h3':(g.toList==ByteArray.toList ⟨#[73]⟩)=true:=(by rw[ByteArray.toList_eq ⟨#[73]⟩];exact o);have HWd:Hid (∀wx,Calls Tryz.prog 20 #[.int .i64 v.n] wx fun e w'=>e=.returned (.bool true)/\wx=w'):=fun wx=>by
     have h:=zcM v.n wx;rw[Xj q,Xj h6]at h;exact h
    rw[h4]at X;clear q h6;go_wp2_with (go_fit (HWd.out _);rintro e w8⟨rfl,rfl⟩)
    go_ret;exact⟨rfl,N⟩
   ·have h3':(g.toList==ByteArray.toList ⟨#[73]⟩)=false:=(by rw[ByteArray.toList_eq ⟨#[73]⟩];exact o);have h4':(g.toList==ByteArray.toList ⟨#[74]⟩)=true:=(by rw[ByteArray.toList_eq ⟨#[74]⟩];exact h4);rw[q]at X;go_wp2_with fail;go_ret;exact⟨rfl,N⟩
   ·have h3':(g.toList==ByteArray.toList ⟨#[73]⟩)=false:=(by rw[ByteArray.toList_eq ⟨#[73]⟩];exact o);have h4':(g.toList==ByteArray.toList ⟨#[74]⟩)=false:=(by rw[ByteArray.toList_eq ⟨#[74]⟩];exact h4);have HRf:Hid (∀wx,Calls Tryz.prog 21 #[.string g] wx fun e w'=>e=.returned (.bool true)/\wx=w'):=fun wx=>by
     have h:=Zdc g wx hgs;rw[show qbj g.data.toList=true from q]at h;exact h
    rw[h6]at X;clear q;go_wp2_with (go_fit (HRf.out _);rintro e w8⟨rfl,rfl⟩)
    go_ret;exact⟨rfl,N⟩
 ·have HC1:Hid (∀wx,Below w.heap.size w wx->Calls Tryz.prog 13 #[T,.string cls,.string F,.string A,y,.int .i64 fuel] wx fun e w'=>Below wx.heap.size wx w'/\∃k:Int,e=.returned (.tuple #[.agg #[.int .i64 0,.int .i64 0,.string ⟨#[]⟩,.int .i64 0],.iface 52 (.int .i64 k)])):=fun wx M=>(U.out wx M).mono fun e w' ⟨hB,n,x,hE⟩=>by
   rcases hE with⟨k,_,_,_,rfl⟩|⟨rfl,_⟩
   ·exact⟨hB,k,rfl⟩
   ·exact absurd x H
  have HW1:Hid (∀wx,Below w.heap.size w wx->Calls Tryz.prog 12 #[T] wx fun e w'=>Below wx.heap.size wx w'/\∃k:Int,e=.returned (.iface 52 (.int .i64 k))):=fun wx M=>(V.out wx M).mono fun e w' ⟨hB,n,x,he⟩=>by
   refine⟨hB,n,?_⟩;have hn:n≠0:=fun h=>H (by rw[h]at x;exact x)
   rw[he];unfold ZB;rw[if_neg hn]
  clear Z ho R a S b U V H;go_enter Tryz.func6,Tryz.ntmps6;go_upto_region 5 with(first
   |(go_fit Y.out;rintro e w2⟨rfl,D⟩)
   |(go_fit (HC1.out _ D);rintro e E⟨G,k,rfl⟩))
  have B:=Qa (Qa D Xl G) Xl ((Below.refl E.heap.size E).alloc Xl (.cells #[.int .i64 0,.int .i64 0,.string ⟨#[]⟩,.int .i64 0] 45));have HK:=Xh (Blk.new E 45 [.int .i64 0,.int .i64 0,.string ⟨#[]⟩,.int .i64 0]);clear D G;go_upto_region 6 with(go_fit (HW1.out _ B);rintro e w5⟨C,k5,rfl⟩)
  obtain⟨⟨X,r,c2,c3⟩,-⟩:=ZC _ _ (HK.out.step C);have HB6:=Xh (Qa B Xl C);clear B C HK;go_wp2_with fail;go_ret;exact⟨rfl,HB6⟩
set_option maxRecDepth 512
end Go.Proofs.YtmclocdhcblbiaaGreatDoor
