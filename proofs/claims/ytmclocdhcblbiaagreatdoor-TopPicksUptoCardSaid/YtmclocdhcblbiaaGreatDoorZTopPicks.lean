/- Lemmas; conditions: as each states. -/
import Derived.Test.YtmclocdhcblbiaaGreatDoorZRanT
import Derived.Test.YtmclocdhcblbiaaGreatDoorZMarked
set_option maxHeartbeats 4000000
namespace Go.Proofs.YtmclocdhcblbiaaGreatDoor
open Go.RowKit Go.Shelf Go.Lib Tryz
def Qag(l:List qa)(src c n t:Str)(static:Bool):Nat:=if zj l=0 then zz (Za l) src c n t static else zj l
set_option maxRecDepth 100000
theorem qcO(l:List qa)(L:Value)(C c n t:Str)(A:Bool)(w:World)(R:Qax w)(S:∀c∈l,qM c)(E:zx w L l)(G:c.size<=maxLen)(H:C.size<=maxLen):
 Calls prog 11 #[L,.string C,.string c,.string n,.string t,.bool A] w fun e w'=>e=.returned (Qx (Qag l C c n t A))/\Below w.heap.size w w':=by
 have I:=Xh (zbU l L w R S E);have M:Hid (∀P wx B,qh P wx B l->_):=fun P wx B h=>qcl P wx B l h C c n t A G H
 unfold qcP at M;obtain⟨j,T,rfl,_⟩:=E.open;clear R S E G H;by_cases D:zj l=0
 ·have Z:=Xh (QaK D);have N:=Xh D;have J:Qag l C c n t A=zz (Za l) C c n t A:=by unfold Qag;rw[if_pos D]
  rw[J];clear D J;generalize Qx (zz (Za l) C c n t A)=f at *;go_enter func11,ntmps11;go_wp2_with (first
   |(go_fit I.out;rintro e U⟨F,⟨_,rfl,V,b,X,d,g⟩|⟨D,_⟩⟩;rotate_left;(exact absurd N.out D);(have a:qh w U w.heap.size l:=⟨V,Z,X⟩);clear V b X d g)
   |(go_fit (M.out _ _ _ a);rintro e k⟨⟨s,v,rfl⟩,O⟩))
  go_ret;exact⟨rfl,Qa F Xl O⟩
 ·have N:=Xh D;have J:Qag l C c n t A=zj l:=by unfold Qag;rw[if_neg D]
  rcases zB (zj l) with⟨_,i⟩|⟨Y,_⟩
  ·exact absurd i D
  rw[J,Y];clear D J Y M;go_enter func11,ntmps11;go_wp2_with (go_fit I.out;rintro e U⟨F,⟨D,_⟩|⟨_,rfl⟩⟩;(exact absurd D N.out))
  go_ret;exact⟨rfl,F⟩
theorem Qe3(p:Option Addr)(n c:Nat)(A:Str)(w:World):Calls prog 10 #[.slice p n c,.string A] w fun e w'=>e=.returned (.agg #[.string qbc,.string A,.bool true,.bool false,.bool false,.int .i64 8,.slice p n c,.slice none 0 0])/\Below w.heap.size w w':=by
 have B:∀o:Obj,Below w.heap.size w (w.alloc o):=fun o=>Xb.alloc Xl o
 unfold qbc;go_enter func10,ntmps10;go_wp2_with fail;exact bodyPost_ret (v:=.agg #[.string ⟨#[109,97,105,110]⟩,.string A,.bool true,.bool false,.bool false,.int .i64 8,.slice p n c,.slice none 0 0]) (by simp[results,results10,go_sem, *]) rfl ⟨rfl,B _⟩
theorem qdh{l:List qa}(B:zj l=0){c:qa}(C:c∈l):c.methods.length<=8:=by
 have h:=zdu B c C;unfold Qf at h;split at h
 ·cases h
 ·split at h
  ·rename_i A;exact absurd h A
  ·split at h
   ·cases h
   ·rename_i A;omega
theorem zeG{w w':World}{S:List Nat}(h:∀b,b∉S->b<w.heap.size->w'.heap[b]? = w.heap[b]?):QbK (ZI w S) w':=fun b o v B =>
 zdU w' [] b o v (qaL (S':=[]) (fun b C A=>⟨(fun h=>by cases h),h b C A⟩) b o v B)
def Qd6(c kt name:Str):List Value:=[.int .i64 15,.int .i64 0,.int .i64 0,.string ⟨#[]⟩,.string c,.string ⟨#[]⟩,.int .i64 24,.int .i64 0,.int .i64 0,.string ⟨#[40,41,73]⟩,.string kt,.string name,.int .i64 27,.int .i64 0,.int .i64 0,.string ⟨#[]⟩,.string ⟨#[]⟩,.string ⟨#[]⟩]
theorem ZeG{w:World}{b:Nat}{c kt name:Str}(h:Blk w b 34 (Qd6 c kt name)):
 Qe w 6 Zv (.slice (some ⟨b,0,none⟩) 3 3) (Zax c kt name).code:=by
 refine Or.inr ⟨⟨b,0,none⟩,3,rfl,Xl,by decide,fun i x A=>?_⟩;match i,A with
 |0,A =>
  obtain rfl:=Option.some.inj A;exact⟨_,rfl,rfl,rfl,h.cell 0,h.cell 1,h.cell 2,h.cell 3,h.cell 4,h.cell 5,trivial⟩
 |1,A =>
  obtain rfl:=Option.some.inj A;exact⟨_,rfl,rfl,rfl,h.cell 6,h.cell 7,h.cell 8,h.cell 9,h.cell 10,h.cell 11,trivial⟩
 |2,A =>
  obtain rfl:=Option.some.inj A;exact⟨_,rfl,rfl,rfl,h.cell 12,h.cell 13,h.cell 14,h.cell 15,h.cell 16,h.cell 17,trivial⟩
theorem qeG{l:List qa}{c kt name:Str}{w:World}{base:Nat}{v:Value}{qs:List (qa×Value×Value×Value)}{b m:Nat}(E:qs.map (·.1)=ZaL 0 l)(C:qap w qs)(A:Blk w b 34 (Qd6 c kt name))(F:Blk w m 39 [.string qbc,.string zM,.bool true,.bool false,.bool false,.int .i64 8,.slice (some ⟨b,0,none⟩) 3 3,.slice none 0 0])(h:w.ownsRow base 31 6 v (qs.length+1) (qs.flatMap qaf++[.string QQ,.string zh,.slice none 0 0,.bool false,.slice none 0 0,.slice (some ⟨m,0,none⟩) 1 1])):zx w v (Zak l c kt name):=by
 have D:(qs++[(ZcA c kt name,Value.slice none 0 0,Value.slice none 0 0,Value.slice (some ⟨m,0,none⟩) 1 1)]).map (·.1)=Zak l c kt name:=by
  rw[List.map_append,E];rfl
 rw[<-D];refine zcN (base:=base) (t:=31) (by rw[List.length_append,List.flatMap_append,List.flatMap_singleton];exact h) fun p B=>?_
 rcases List.mem_append.1 B with B|B
 ·exact C p B
 ·rw[List.mem_singleton.1 B];exact⟨_,_,_,rfl,Or.inl ⟨rfl,rfl⟩,Or.inl ⟨rfl,rfl⟩,zbL (R:=zo w) (x:=Zax c kt name) F ⟨_,_,rfl,ZeG A,Or.inl ⟨rfl,rfl⟩⟩ rfl⟩
theorem ze4{l:List qa}(H:zj l=0){c kt name:Str}(I:(Qb (Za l) c).isSome=true)(J:Qar (Zak l c kt name) 0)(C:Qag (Zak l c kt name) QQ kt name zM false=0){w w':World}{e:Ending}(h:ZdB w (Zak l c kt name) QQ qbc zM [] 100 e w'):
 Below w.heap.size w w'/\((∃(j:Nat) (s:Int),Qx (Q9 l c name zM)=.nilIface/\(l[j]?).map (·.name)=some (qca l c name zM)/\e=zdB ⟨1,100+(j:Int)⟩ ⟨#[]⟩ s .nilIface)\/(∃s:Int,Qx (Q9 l c name zM)=.iface 52 (.int .i64 3)/\e=zdB v0 qm s .nilIface)):=by
 have N:=QaK H;have E:zj (Zak l c kt name)=0:=by
  rcases J with⟨A,B⟩|⟨A,_⟩|⟨A,_⟩
  ·exact absurd B.symm A
  ·exact A
  ·exact A
 have L:=QaK E;unfold Qag at C;rw[if_pos E]at C;obtain⟨O,n,P,R⟩:=h;obtain rfl:=Qex J P;refine⟨O,?_⟩;have M:=zeo (l:=l) (c:=c) (kt:=kt) (name:=name) L;have D:zy l c=0:=by
  unfold zy;rw[if_neg (fun h=>h H),if_pos I]
 rcases R with⟨_,_,_,A|A|A|A,_⟩|⟨_,_,_,m,A,B⟩
 ·exact absurd rfl A
 ·rw[M]at A;cases A
 ·omega
 ·omega
 ·rw[M]at A;obtain rfl:=Option.some.inj A;rcases ZeS N I L C with⟨p,j,F,S,T,G⟩|⟨F,G⟩
  ·have B:e=Qfq (QaG _ 100 _):=B;rw[G]at B;refine Or.inl ⟨j,5,?_,?_,B⟩
   ·unfold Q9;rw[if_pos D,if_pos F];rfl
   ·unfold qca zeI;rw[if_pos D,if_pos F,S];exact T
  ·have B:e=Qfq (QaG _ 100 _):=B;rw[G]at B;refine Or.inr ⟨2,?_,B⟩;unfold Q9;rw[if_pos D,if_neg (by rw[F];decide)];rfl
theorem zd7(i:Int){n:Nat}(B:0<n)(C:n<=10):∃j:Nat,(IntKind.u64.wrap i).tmod (n:Int)=(j:Int)/\j<n:=by
 have A:0<=IntKind.u64.wrap i:=by simp only[IntKind.wrap,IntKind.bits,IntKind.signed];simp;omega
 have D:=Int.emod_nonneg (IntKind.u64.wrap i) (b:=(n:Int)) (by omega);have E:=Int.emod_lt_of_pos (IntKind.u64.wrap i) (b:=(n:Int)) (by omega);refine⟨(IntKind.u64.wrap i % (n:Int)).toNat,?_,by omega⟩;rw[Int.tmod_eq_emod_of_nonneg A];omega
theorem Qdh(l:List qa)(lv:Value)(i:Int)(kt name:Str)(w:World)(F:Qax w)(ho:∀c∈l,qM c)(A:zx w lv l)(hkt:kt.size<=1048576)(hnm:name.size<=1048576):
 Calls prog 3 #[lv,.int .i64 i,.string kt,.string name] w fun e w'=>e=.returned (.bool true)/\Below w.heap.size w w':=by
 have HFi:=Xh (zfe w F);have J:Hid (∀wx,Below w.heap.size w wx->_):=fun wx D=>Zcz l lv wx (F.mono D F.1) ho (A.mono D)
 by_cases h0:l.length=0
 ·obtain⟨pl,y,rfl,_⟩:=A.open;clear F ho A J;go_enter func3,ntmps3;go_wp2_with (go_fit HFi.out;rintro e w2⟨rfl,B⟩)
  go_ret;exact⟨rfl,B⟩
 have h00:((l.length:Int)==0)=false:=beq_eq_false_iff_ne.2 (by omega);by_cases t:zj l≠0
 ·obtain⟨pl,y,rfl,_⟩:=A.open;rcases zB (zj l) with⟨_,h1⟩|⟨E,_⟩
  ·exact absurd h1 t
  rw[E]at J;clear F ho A E t;go_enter func3,ntmps3;go_wp2_with (first
   |(go_fit HFi.out;rintro e w2⟨rfl,B⟩)
   |(go_fit (J.out _ B);rintro e Z⟨rfl,a⟩))
  go_ret;exact⟨rfl,Qa B Xl a⟩
 have t:zj l=0:=Decidable.not_not.1 t;have hR:=QaK t;have h10:=hR.length;obtain⟨j,hj1,hj2⟩:=zd7 i (Nat.pos_of_ne_zero h0) h10;rw[t,show Qx 0=.nilIface from rfl]at J;have HMk:Hid (∀wx,Below w.heap.size w wx->_):=fun wx D=>QdU l lv wx (A.mono D) h10 (fun c hc=>qdh t hc)
 unfold ZcB at HMk;have HMa:Hid (∀p n c z wx,_):=fun p n c z wx=>Qe3 p n c z wx
 obtain⟨pl,y,rfl,hl1,hl2,hcc⟩:=A.open;obtain⟨c,hc⟩:∃c,l[j]? = some c:=⟨l[j],by simp[hj2]⟩;obtain⟨b,o,vs,rfl,⟨fv,dv,mv,rfl,q1,q2,q3⟩,_,Zd⟩:=hcc j c hc;obtain⟨pf,kf,rfl,_⟩:=q1.open;obtain⟨pd,kd,rfl,_⟩:=q2.open;obtain⟨pm,km,rfl,_⟩:=q3.open;have hcl:c∈l:=Xe hc;have hkn:(Qb (Za l) c.name).isSome=true:=by rw[hR.find (List.mem_cons_of_mem _ (List.mem_cons_of_mem _ hcl))];rfl
 have hco:=qfp h10 ho (ho c hcl).name hkt hnm;have P:Hid (∀wx I,Below w.heap.size w wx->zx wx I (Zak l c.name kt name)->_):=fun wx I D E=>qcO (Zak l c.name kt name) I QQ kt name zM false wx (F.mono D F.1) hco E (Xf hkt (by decide)) (by decide)
 have HCw:Hid (∀wx I,Below w.heap.size w wx->zx wx I (Zak l c.name kt name)->Calls prog 12 #[I] wx fun e w'=>Below wx.heap.size wx w'/\((e=.returned .nilIface/\Qar (Zak l c.name kt name) 0)\/∃k:Nat,e=.returned (.iface 52 (.int .i64 k)))):=fun wx I D E=>(zco (Zak l c.name kt name) I wx (F.mono D F.1) hco E).mono fun e w' ⟨hB,n,hn,he⟩=>by
  refine⟨hB,?_⟩;rcases zB n with⟨h1,rfl⟩|⟨h1,_⟩
  ·exact Or.inl ⟨by rw[he,h1],hn⟩
  ·exact Or.inr ⟨n,by rw[he,h1]⟩
 have HRn:Hid (∀wx I,Below w.heap.size w wx->zx wx I (Zak l c.name kt name)->Qar (Zak l c.name kt name) 0->Qag (Zak l c.name kt name) QQ kt name zM false=0->Calls prog 13 #[I,.string QQ,.string qbc,.string zM,.slice none 0 0,.int .i64 100] wx _):=fun wx I D E hC hrf=>(qcf (Zak l c.name kt name) I wx (F.mono D F.1) hco E QQ qbc zM (by decide) (by decide) [] (.slice none 0 0) (Or.inl ⟨rfl,rfl⟩) 100).mono fun e w' h=>ze4 t hkn hC hrf h
 have HPi:Hid (∀wx,Below w.heap.size w wx->_):=fun wx D=>qeI l _ c.name name zM wx (F.mono D F.1) ho (A.mono D) (Xf (ho c hcl).name (by decide))
 have HC0:=Xh hcc;have HOw:=Xh (fun w base v qs b m=>@qeG l c.name kt name w base v qs b m);unfold zM QQ qbc zdB qm v0 at *;generalize Zak l c.name kt name=ow at *;generalize Qag ow _ _ _ _ _=rf at *;generalize Qx (Q9 l c.name name _)=pf' at *;generalize qca l c.name name _=pn at *;have hlen:l.length<=9223372036854775807:=Xf hl1 hl2;have HCC:=Xh Zd;have hz1:IntKind.u64.wrap (l.length:Int)=l.length:=by simp only[IntKind.wrap,IntKind.bits,IntKind.signed];simp;omega
 clear hcc q1 q2 q3;go_enter func3,ntmps3;go_upto_region 6 with(first
  |(go_fit HFi.out;rintro e w2⟨rfl,B⟩)
  |(go_fit (J.out _ B);rintro e Z⟨rfl,a⟩))
 have HB3:=Xh (Qa B Xl a);clear B a;obtain⟨c0,c1,c2,c3,c4,c5,_⟩:=HCC.out.mono HB3.out HCC.out.lt;go_upto_region 8 with fail;have R:∀(wz:World) (o:Obj),Below wz.heap.size wz (wz.alloc o):=fun wz o=>Xb.alloc Xl o
 generalize r:(Z.alloc _).alloc _=w5;have HB5:Hid (Below w.heap.size w w5):=by
  rw[<-r];exact Qa (Qa HB3 Xl (R Z _)) Xl (R _ _)
 have HK5:Hid (Blk w5 Z.heap.size 31 [.string c.name,.string c.super,.slice pf c.faces.length kf,.bool c.face,.slice pd c.fields.length kd,.slice pm c.methods.length km]):=by
  rw[<-r];exact qcW Z _ _ _
 have HD5:Hid (Blk w5 (Z.heap.size+1) 34 (Qd6 c.name kt name)):=by
  rw[<-r];exact zcB Z _ _ _
 clear r;have HI5:Hid (Z.heap.size+1<w5.heap.size):=HD5.out.lt;generalize Z.heap.size=cb at *;clear c0 c1 c2 c3 c4 c5 HB3;go_upto_region 9 with(first
  |(go_fit (HMk.out _ HB5.out);rintro e w6⟨⟨v6,qs,rfl,hq6,M,hi6⟩,hB6⟩;(obtain⟨p6,c6,rfl⟩:=Ze M);(have hql:qs.length<=8388608:=by have:=congrArg List.length hq6;rw[List.length_map,Zap]at this;omega))
  |(go_fit (HMa.out _ _ _ _ _);rintro e w7⟨rfl,G⟩;(have hv8:=fun o1 o2=>((Ql M G).alloc o1).alloc o2);(have S:=fun o1 o2=>Qa (Qa (Qa hB6 Xl G) Xl (R w7 o1)) Xl (R (w7.alloc o1) o2)))
  |(at_builtin;refine qaO rfl _ _ rfl w5.heap.size (.slice p6 qs.length c6) qs.length (qs.flatMap qaf) rfl (hv8 _ _) (ZcA c.name kt name,.slice none 0 0,.slice none 0 0,.slice (some ⟨w7.heap.size,0,none⟩) 1 1) ⟨rfl,rfl,rfl⟩ (w7.heap.size+1) (zcB w7 _ _ _) rfl hql (S _ _).size ?_;intro v9 w9 hv9 f hn9))
 have T:=(S _ _).grown f (S _ _).size (fun g hg=>(M.lt g hg).1);have U:=Xh (Qa HB5 Xl T);have HK9:=Xh (HK5.out.step T);have hm9:=((Blk.new w7 39 [.string ⟨#[109,97,105,110]⟩,.string ⟨#[40,41,73]⟩,.bool true,.bool false,.bool false,.int .i64 8,.slice (some ⟨cb+1,0,none⟩) 3 3,.slice none 0 0]).step (R _ _)).grown f (fun e=>by have:=(M.lt _ e).2;have:=G.size;omega);have hi9:qap w9 qs:=hi6.lies (zeG fun b D hlt=>(f.block b (by have:=G.size;simp;omega) (fun e=>D (Qam.2 e.symm))).trans ((Qa (Qa G Xl (R _ _)) Xl (R _ _)).block b hlt));have V:=Xh (HOw.out _ _ _ _ _ _ hq6 hi9 (HD5.out.step T) hm9 hv9);obtain⟨p9,c9,rfl⟩:=Ze hv9;clear S hv8 hB6 G hm9 hi9 hv9 f hn9 hq6 M hi6 hql HOw HI5 HK5 HD5 HB5 T HMk HMa;rcases zB rf with⟨E,h1⟩|⟨E,_⟩
 ·rw[E]at P;have HRz:=Xh h1;clear E h1;go_upto_region 11 with(first
   |(go_fit (P.out _ _ U.out V.out);rintro e wa⟨rfl,C⟩;(have X:=Qa U Xl C))
   |(go_fit (HCw.out _ _ X (V.out.mono C));rintro e wb⟨N,⟨rfl,hC⟩|⟨q,rfl⟩⟩))
  ·have HBb:=Xh (Qa X Xl N);have HOb:=Xh ((V.out.mono C).mono N);have HKb:=Xh ((HK9.out.step C).step N);clear C X N;go_upto_region 13 with(first
    |(go_fit (HRn.out _ _ HBb.out HOb.out hC HRz.out);rintro e wc⟨d,⟨O,s,rfl,hjj,rfl⟩|⟨s,rfl,rfl⟩⟩<;>(have L:=fun o=>Qa (Qa HBb Xl d) Xl (R wc o))<;>(have k0:∀o,(wc.alloc o).cell? ⟨cb,0,none⟩=some (.string c.name):=fun o=>((HKb.out.step d).step (R wc o)).cell 0))
    |(go_fit (HPi.out _ (L _));rintro e wd⟨rfl,H⟩))
   ·have hk:=(Blk.new wc 45 [.int .i64 1,.int .i64 (100+(O:Int)),.string ⟨#[]⟩,.int .i64 s]).step H;have Y:=Xh (Qa (L _) Xl H);obtain⟨x,hx,hxn⟩:=Option.map_eq_some_iff.1 hjj;have hjl:=(List.getElem?_eq_some_iff.1 hx).1;obtain⟨b',o',vs,hp,⟨fv,dv,mv,rfl,_⟩,_,hcx⟩:=HC0.out O x hx;injection hp with hp
    injection hp with hp1 hp2
    subst hp1 hp2;have n0:wd.cell? ⟨b,o+O*6,none⟩=some (.string pn):=by
     rw[<-hxn];exact(hcx.mono Y.out hcx.lt).1
    have t1:wd.cell? ⟨wc.heap.size,1,none⟩=some (.int .i64 (100+(O:Int))):=hk.cell 1;have x1:decide ((100:Int)<=100+(O:Int))=true:=Xj (by omega);have x2:IntKind.i64.wrap (100+(l.length:Int))=100+l.length:=IntWalk.i64_in _ (by omega);have x3:decide (100+(O:Int)<100+(l.length:Int))=true:=Xj (by omega);have x4:IntKind.i64.wrap (100+(O:Int)-100)=O:=(by rw[show 100+(O:Int)-100=O by omega];exact IntWalk.i64_in _ (by omega));clear hk hcx H L k0 d HPi HRn hjj hx hxn;go_wp2_with fail;go_ret;exact⟨rfl,Y⟩
   ·have hk:=(Blk.new wc 45 [.int .i64 0,.int .i64 0,.string ⟨#[70,97,117,108,116]⟩,.int .i64 s]).step H;have Y:=Xh (Qa (L _) Xl H);have t2:wd.cell? ⟨wc.heap.size,2,none⟩=some (.string ⟨#[70,97,117,108,116]⟩):=hk.cell 2;clear hk H L k0 d HPi HRn;go_wp2_with fail;go_ret;exact⟨rfl,Y⟩
  ·go_wp2_with fail;go_ret;exact⟨rfl,Qa X Xl N⟩
 ·rw[E]at P;clear E;go_wp2_with (go_fit (P.out _ _ U.out V.out);rintro e wa⟨rfl,C⟩)
  go_ret;exact⟨rfl,Qa U Xl C⟩
