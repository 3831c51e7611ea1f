/- Lemmas; conditions: as each states. -/
import Derived.Test.YtlmfmioljeppfaaGreatDoorRefOdd
import Derived.Test.YtlmfmioljeppfaaGreatDoorRefOddC
import Derived.Test.YtlmfmioljeppfaaGreatDoorRefOddS
set_option maxHeartbeats 4000000
namespace Go.Proofs.YtlmfmioljeppfaaGreatDoor
open Go.RowKit Go.Shelf Go.Lib
theorem qc0(l:List Qb)(H:Value)(M:Zk l)(E:∀c∈l,qd c=0)(w:World)(F:qj w H l)(qb Zb:Str)(C a b:Int)(A cls B:Str)(L S:List Str)(I J:Value)(N:zk w I J ⟨L,S⟩)(O:Qx (Za l) ⟨L,S⟩=0)(G:A.size<=1048576)(P:Zi ⟨C,a,b,A,cls,B⟩=0)(D:q9 C):
 Calls Tryz.prog 47 #[H,.agg #[.int .i64 C,.int .i64 a,.int .i64 b,.string A,.string cls,.string B],.agg #[I,J]] w (Ql w (zp (Za l) qb Zb ⟨C,a,b,A,cls,B⟩ L S)):=by
 have h:=D;unfold q9 at h;by_cases R:C<=13\/C=19
 ·exact QcZ l H M E w F qb Zb C a b A cls B L S I J N O G P D R
 ·by_cases T:C=21
  ·exact qdL l H M E w F qb Zb C a b A cls B L S I J N O G P D (Or.inl T)
  ·exact ZdL l H M E w F qb Zb C a b A cls B L S I J N O G P D (by omega)
theorem zd8{w:World}{base n g:Nat}{e:TypeId}{v:Value}{xs:List Value}(h:w.ownsRow base e 1 v n xs)(A:v.ownBlock=some g):∃cap,v=.slice (some ⟨g,0,none⟩) n cap/\n<=cap:=by
 rcases h.2 with⟨rfl,_⟩|⟨D,cap,B,rfl,_,_,C,_⟩
 ·cases A
 ·injection A with A
  subst A;exact⟨cap,rfl,C⟩
theorem Zcu{w:World}{base g cap:Nat}{e:TypeId}{S:List Str}:∀(d j:Nat),j+d=S.length->w.ownsRow base e 1 (.slice (some ⟨g,0,none⟩) S.length cap) S.length (S.map Value.string)->w.ownsRow base e 1 (.slice (some ⟨g,0,none⟩) j cap) j ((S.take j).map Value.string)
 |0,j,C,h=>by
  have:j=S.length:=by omega
  subst this;rw[List.take_length];exact h
 |d+1,j,C,h=>by
  have B:=Zcu d (j+1) (by omega) h;have A:j<S.length:=by omega
  rw[List.take_succ_eq_append_getElem A,List.map_append]at B;exact ownsRow_pop (by simp;omega) B
theorem Qdj{cs:List Qb}{ks S:List Str}(h:S.length<ks.length):zh cs ks S=none:=by
 cases A:zh cs ks S with
 |none=>rfl
 |some B=>have:=QaP A;omega
theorem zdk{cs:List Qb}{ks S:List Str}{k:Nat}{x t:Str}(A:ks[k]? = some x)(F:ks.length<=S.length)(B:S[S.length-1-k]? = some t)(C:zd cs x=0):
 zh cs (ks.drop k) (S.take (S.length-k))=if Zx cs (Zo t) (Zo x) then zh cs (ks.drop (k+1)) (S.take (S.length-(k+1))) else none:=by
 obtain⟨E,rfl⟩:=List.getElem?_eq_some_iff.1 A;obtain⟨hs,rfl⟩:=List.getElem?_eq_some_iff.1 B;have e:S.length-k=(S.length-1-k)+1:=by omega
 have D:S.length-(k+1)=S.length-1-k:=by omega
 rw[List.drop_eq_getElem_cons E,e,D,List.take_succ_eq_append_getElem hs,ZaU,if_neg (by rw[C];decide),ZO]
theorem Qcd{cs:List Qb}{L S ks A:List Str}(h:zh cs ks S=none):ZaX cs L S (ks,A)=none:=by unfold ZaX;rw[h];rfl
theorem Zdk{cs:List Qb}{L S ks A B:List Str}(h:zh cs ks S=some B):ZaX cs L S (ks,A)=if (B++A).length<=8 then some (L,B++A) else none:=by unfold ZaX;rw[h];rfl
theorem Qbw{w:World}{b:Nat}{t:TypeId}{x y v:Value}{l:List Str}(h:Qh w v l)(B:Blk w b t [x,y])(C:∀s,x≠.string s)(D:∀s,y≠.string s)(u1 u2:Value):Qh ((w.setCell ⟨b,0,none⟩ u1).setCell ⟨b,1,none⟩ u2) v l :=
 h.apart B C D fun _ A=>(Xk _ _ _ _ A).trans (Xk _ _ _ _ A)
theorem Ql.put{w G E:World}{H a b:Int}{A cls B:Str}{I J:Value}{o:Option (List Str×List Str)}{e:Ending}(T:OX w G H a b A cls B I J (.slice none 0 0) (.slice none 0 0))(h:Ql G o e E):
 ∃p n c q m d r,e=.returned (.tuple #[.agg #[.slice p n c,.slice q m d],.bool r])/\OX w E H a b A cls B I J (.slice none 0 0) (.slice none 0 0)/\Ql w o (.returned (.tuple #[.agg #[.slice p n c,.slice q m d],.bool r])) ((E.setCell ⟨w.heap.size+1+1,0,none⟩ (.slice p n c)).setCell ⟨w.heap.size+1+1,1,none⟩ (.slice q m d)):=by
 obtain⟨M,h⟩:=h;have C:=T.step M;rcases h with⟨F,p,n,c,q,m,d,rfl⟩|⟨L,S,U,V,F,rfl,D⟩
 ·exact⟨p,n,c,q,m,d,false,rfl,C,Ql.no F (C.put _ _)⟩
 ·obtain⟨N,O,rfl,_⟩:=D.1.open;obtain⟨P,R,rfl,_⟩:=D.2.open;exact⟨N,_,O,P,_,R,true,rfl,C,Ql.yes F (C.put _ _) ⟨Qbw D.1 C.res (by simp) (by simp) _ _,Qbw D.2 C.res (by simp) (by simp) _ _⟩⟩
theorem Zej{A:Int}(h:¬q9 A):(A==4)=false/\(A==5)=false/\(A==6)=false/\(A==7)=false/\(A==8)=false/\(A==13)=false/\(A==19)=false/\(A==20)=false/\(A==21)=false/\(A==22)=false/\(A==23)=false:=by
 unfold q9 at h;simp only[beq_eq_false_iff_ne,ne_eq];omega
set_option maxRecDepth 100000
theorem Qc0(l:List Qb)(M:Value)(R:Zk l)(G:∀c∈l,qd c=0)(w:World)(D:qj w M l)(qb Zb:Str)(C a b:Int)(A cls B:Str)(L S:List Str)(N O:Value)(I:zk w N O ⟨L,S⟩)(T:Qx (Za l) ⟨L,S⟩=0)(P:A.size<=1048576)(U:Zi ⟨C,a,b,A,cls,B⟩=0)(E:q9 C):
 Calls Tryz.prog 16 #[M,.string qb,.string Zb,.agg #[.int .i64 C,.int .i64 a,.int .i64 b,.string A,.string cls,.string B],.agg #[N,O]] w (Ql w (zp (Za l) qb Zb ⟨C,a,b,A,cls,B⟩ L S)):=by
 have k:Hid (∀wx,Below w.heap.size w wx->_):=fun wx j=>qc0 l M R G wx (D.mono j) qb Zb C a b A cls B L S N O (I.mono j) T P U E
 obtain⟨pl,cap,rfl,_⟩:=D.open;obtain⟨Y,Z,rfl,_⟩:=I.1.open;obtain⟨d,f,rfl,_⟩:=I.2.open;have H:=OX.new w C a b A cls B (.slice Y L.length Z) (.slice d S.length f);obtain⟨g,F⟩:∃g,g=((w.alloc (.cells #[.int .i64 C,.int .i64 a,.int .i64 b,.string A,.string cls,.string B] 24)).alloc (.cells #[.slice Y L.length Z,.slice d S.length f] 27)).alloc (.cells #[.slice none 0 0,.slice none 0 0] 27):=⟨_,rfl⟩;rw[<-F]at H;have m:=Xh F.symm;have V:=Xh H;generalize zp (Za l) qb Zb ⟨C,a,b,A,cls,B⟩ L S=o at *;clear D R G I T F U;go_enter Tryz.func16,Tryz.ntmps16;go_upto_region 1 with fail;rw[m.out];obtain⟨⟨q0,q1,q2,q3,q4,q5⟩,g0,g1,r0,r1⟩:=H.cells;have X:=H.low;clear H;unfold q9 at E;rcases E with rfl|rfl|rfl|rfl|rfl|rfl|rfl|rfl|rfl|rfl|rfl;all_goals
  go_upto_region 13 with fail;go_wp2_with (first|(go_fit (k.out _ V.out.below);rintro e w5 i;obtain⟨p,q,s,t,x,y,r,rfl,J,h⟩:=i.put V.out;obtain⟨_,_,_,z,aA⟩:=J.cells;(have z0:=J.res.frozen 0);(have z1:=J.res.frozen 1);(have n:=Xh h);clear i h J))
  (try simp only[Exit.inBlock,Exit.then])
  exact bodyPost_ret (v:=.tuple #[.agg #[.slice p q s,.slice t x y],.bool r]) (by simp[results,Tryz.results16,go_sem, *]) rfl n.out
set_option maxRecDepth 512
theorem qdk{w':World}{o:Option (List Str×List Str)}{e:Ending}(h:(o=none/\∃A B,e=.returned (.tuple #[A,B,.bool false]))\/∃ks C A B,o=some (ks,C)/\e=.returned (.tuple #[A,B,.bool true])/\Qh w' A ks/\Qh w' B C):
 ∃D A B,e=.returned (.tuple #[A,B,.bool D])/\((D=false/\o=none)\/∃ks C,D=true/\o=some (ks,C)/\Qh w' A ks/\Qh w' B C):=by
 rcases h with⟨E,A,B,rfl⟩|⟨ks,C,A,B,E,rfl,F,G⟩
 ·exact⟨false,A,B,rfl,Or.inl ⟨rfl,E⟩⟩
 ·exact⟨true,A,B,rfl,Or.inr ⟨ks,C,rfl,E,F,G⟩⟩
theorem qcu{w A F:World}{Z a b:Int}{B cls C:Str}{c f:Value}{J:Option Addr}{n M N:Nat}{I:Value}{L S E:List Str}{d:Nat}(T:OX w (A.alloc (.cells #[] 9)) Z a b B cls C c f (.slice none 0 0) (.slice none 0 0))(h:A.ownsRow N 9 1 (.slice J n M) (d+E.length) ((S.take d).map Value.string++E.map Value.string))(G:(A.alloc (.cells #[] 9)).grownBy F (Value.slice (some ⟨A.heap.size,0,none⟩) 0 0).ownBlock)(O:(A.alloc (.cells #[] 9)).ownsRow A.heap.size 9 1 (.slice (some ⟨A.heap.size,0,none⟩) 0 0) 0 [])(P:F.ownsRow A.heap.size 9 1 I (0+L.length) ([]++L.map Value.string))(H:w.heap.size+3<=A.heap.size)(R:(S.take d).length=d):
 ∃X Y,I=.slice X L.length Y/\OX w F Z a b B cls C c f (.slice none 0 0) (.slice none 0 0)/\Hid (∀u1 u2,zk ((F.setCell ⟨w.heap.size+1+1,0,none⟩ u1).setCell ⟨w.heap.size+1+1,1,none⟩ u2) I (.slice J n M) ⟨L,S.take d++E⟩):=by
 have D:F.ownsRow A.heap.size 9 1 I L.length (L.map Value.string):=by simpa using P
 obtain⟨X,Y,rfl⟩:=qe D;have U:=T.grown G (fun g e=>Xf H (O.lt g e).1);have V:=(Zr h (Xb.alloc Xl (.cells #[] 9))).kept G (by
  cases j:(Value.slice J n M).ownBlock with
  |none=>exact Or.inl rfl
  |some g =>
   refine Or.inr fun e=>?_
   have k:=(h.lt g j).2;have i:some g=some A.heap.size:=e;injection i with i
   omega)
 have e:(S.take d++E).length=d+E.length:=by rw[List.length_append,R]
 refine⟨X,Y,rfl,U,fun u1 u2=>⟨Qbw (Ze D) U.res (by simp) (by simp) _ _,Qbw (Ze (l:=S.take d++E) (by rw[e,List.map_append];exact V)) U.res (by simp) (by simp) _ _⟩⟩
set_option maxRecDepth 100000
theorem Zcj(l:List Qb)(lv:Value)(hR:Zk l)(O:∀c∈l,qd c=0)(w:World)(r:qj w lv l)(qb Zb:Str)(P a b:Int)(A cls B:Str)(L S:List Str)(f1 f2:Value)(hf:zk w f1 f2 ⟨L,S⟩)(hz:Qx (Za l) ⟨L,S⟩=0)(hty:A.size<=1048576)(hcl:cls.size<=4194304)(hgs:Zb.size<=maxLen)(hx:Zi ⟨P,a,b,A,cls,B⟩=0)(s:¬q9 P):
 Calls Tryz.prog 16 #[lv,.string qb,.string Zb,.agg #[.int .i64 P,.int .i64 a,.int .i64 b,.string A,.string cls,.string B],.agg #[f1,f2]] w (Ql w (zp (Za l) qb Zb ⟨P,a,b,A,cls,B⟩ L S)):=by
 obtain⟨hl8,hs8,aD,hks⟩:=qw hz;dsimp only at hl8 hs8 aD hks;have HWa:Hid (∀wx,Below w.heap.size w wx->_):=fun wx hb=>zcF l lv hR O wx (r.mono hb) qb Zb P a b A cls B hty hcl hgs hx s
 have HE:=Xh (Qdd O qb Zb ⟨P,a,b,A,cls,B⟩ L S hs8 s);have HKn:Hid (∀ks E,Qq (Za l) qb Zb ⟨P,a,b,A,cls,B⟩=some (ks,E)->(∀k∈ks,zd (Za l) k=0)/\ks.length<=6/\E.length<=1):=fun ks E h=>QcT O hx h
 have HFit:Hid (∀wx,Below w.heap.size w wx->∀k t,zd (Za l) k=0->zd (Za l) t=0->Calls Tryz.prog 49 #[lv,.string k,.string t] wx fun e w'=>e=.returned (.bool (Zx (Za l) (Zo k) (Zo t)))/\Below wx.heap.size wx w'):=fun wx hb k t h1 h2=>qa4 l _ hR O wx (r.mono hb) k t _ _ (qU h1) (qU h2) (Qad h1) (Qad h2) (Xf (ZU h1) (by decide)) (Xf (ZU h2) (by decide))
 have HF:Hid (∀wx,Below w.heap.size w wx->zk wx f1 f2 ⟨L,S⟩):=fun wx hb=>hf.mono hb
 obtain⟨pl,cap,rfl,_⟩:=r.open;obtain⟨p1,c1,rfl,_⟩:=hf.1.open;obtain⟨p2,c2,rfl,_⟩:=hf.2.open;have T0:=OX.new w P a b A cls B (.slice p1 L.length c1) (.slice p2 S.length c2);obtain⟨w1,hw1⟩:∃w1,w1=((w.alloc (.cells #[.int .i64 P,.int .i64 a,.int .i64 b,.string A,.string cls,.string B] 24)).alloc (.cells #[.slice p1 L.length c1,.slice p2 S.length c2] 27)).alloc (.cells #[.slice none 0 0,.slice none 0 0] 27):=⟨_,rfl⟩;rw[<-hw1]at T0;have HW:=Xh hw1.symm;have HT:=Xh T0;have HKS:=Xh hks;generalize zp (Za l) qb Zb ⟨P,a,b,A,cls,B⟩ L S=H at *;generalize Qq (Za l) qb Zb ⟨P,a,b,A,cls,B⟩=o at *;obtain⟨e4,e5,e6,e7,e8,e13,e19,e20,e21,e22,e23⟩:=Zej s;clear r hR O hf hz hw1 hx s hks aD;go_enter Tryz.func16,Tryz.ntmps16;go_upto_region 1 with fail;rw[HW.out];obtain⟨⟨Y,Z,f,j,m,n⟩,p,q,M,N⟩:=T0.cells;clear T0;go_upto_region 14 with fail;clear e4 e5 e6 e7 e8 e13 e19 e20 e21 e22 e23;go_upto_region 15 with(first|(go_fit (HWa.out _ HT.out.below);rintro e F⟨hB3,hP⟩;obtain⟨is,v1,v2,rfl,hW⟩:=qdk hP))
 have T3:=HT.out.step hB3;clear Y Z f j m n p q M N hP;have T4:=T3.alloc (.cells #[] 9);have y:(F.alloc (.cells #[] 9)).ownsRow F.heap.size 9 1 (.slice (some ⟨F.heap.size,0,none⟩) 0 0) 0 []:=zV F F.heap.size Xl;obtain⟨⟨Y,Z,f,j,m,n⟩,p,q,M,N⟩:=T4.cells;have hF4:=HF.out _ T4.below;have m63:0+S.length<=maxLen:=Xf (show 0+S.length<=8 by omega) (by decide);have m16:(0+S.length)*16<=140737488355328:=by omega
 have hL4:F.heap.size<=(F.alloc (.cells #[] 9)).heap.size:=by rw[World.size_alloc];exact Nat.le_succ _
 have HW3:=Xh hW;have HT4:=Xh T4;have hlow:=T3.low;clear hW T3 T4;go_upto_region 16 with(first|(at_builtin;go_must (refine Qg rfl _ _ rfl F.heap.size _ 0 [] rfl y _ S rfl hF4.2 m63 m16 hL4 ?_);intro v5 w5 ho5 hg5 hb5))
 have R:w5.ownsRow F.heap.size 9 1 v5 S.length (S.map Value.string):=by simpa using ho5
 have T:Below F.heap.size F w5:=((Below.refl F.heap.size F).alloc Xl (.cells #[] 9)).grown hg5 hL4 (fun g e=>(y.lt g e).1);have T5:=HT4.out.grown hg5 (fun g e=>Xf hlow (y.lt g e).1);obtain⟨g,hg⟩:∃g,v5.ownBlock=some g:=hb5.elim (fun h=>⟨_,h⟩) (fun h=>⟨_,h⟩);obtain⟨c5,rfl,hc5⟩:=zd8 R hg;have HO5:=Xh R;have I:=Xh T5;have hlow5:w.heap.size+3<=F.heap.size:=hlow;clear Y Z f j m n p q M N hF4 m63 m16 hL4 y ho5 hg5 hb5 R hg T5 HT4;obtain⟨⟨Y,Z,f,j,m,n⟩,p,q,M,N⟩:=I.out.cells;have z0:=I.out.res.frozen 0;have z1:=I.out.res.frozen 1;rcases HW3.out with⟨rfl,rfl⟩|⟨ks,E,rfl,rfl,hk1,hk2⟩
 ·have HR:Hid (H=none):=HE.out;go_wp2_with fail;exact bodyPost_ret (v:=.tuple #[.agg #[.slice none 0 0,.slice none 0 0],.bool false]) (by simp[results,Tryz.results16,go_sem, *]) rfl (Ql.no HR.out (I.out.put _ _))
 obtain⟨kks,hk6,hp1⟩:=HKn.out ks E rfl;have hKs:=hk1.mono T;have hPs:=hk2.mono T;obtain⟨p6,c6,rfl,h6c,h6m,hcc6⟩:=hKs.open;obtain⟨p7,c7,rfl,_⟩:=hPs.open;have HPs:=Xh hPs;have HK6:=Xh hcc6;have HKk:=Xh kks;have HR:Hid (H=ZaX (Za l) L S (ks,E)):=HE.out;have hlen6:ks.length<=9223372036854775807:=by omega
 clear hk1 hk2 hKs hPs kks hcc6 HW3 HE HKn HWa T;by_cases hm:S.length<ks.length
 ·have hm2:(S.length:Int)<(ks.length:Int):=by omega
  have HN:Hid (H=none):=HR.out.trans (Qcd (Qdj hm));go_wp2_with fail;exact bodyPost_ret (v:=.tuple #[.agg #[.slice none 0 0,.slice none 0 0],.bool false]) (by simp[results,Tryz.results16,go_sem, *]) rfl (Ql.no HN.out (I.out.put _ _))
 have hm2:¬(S.length:Int)<(ks.length:Int):=by omega
 have hmn:ks.length<=S.length:=by omega
 clear hm;go_wp2_with fail;clear Y Z f j m n p q M N z0 z1 hm2;go_loopw [16] (fun i wr=>∃k:Nat,k<=ks.length/\Hid (zh (Za l) ks S=zh (Za l) (ks.drop k) (S.take (S.length-k)))/\Below w5.heap.size w5 wr/\i=.int .i64 k) (fun i _=>ks.length-(intOf i).toNat)
 case atStart=>exact⟨0,Nat.zero_le _,by unfold Hid;rw[List.drop_zero,Nat.sub_zero,List.take_length],Xb,rfl⟩
 case round =>
  obtain⟨k,hk,D,hB,rfl⟩:=hrel;have Tr:=I.out.step hB;have z:=Xh (Zr HO5.out hB);have aC:=Xh Tr;obtain⟨⟨Y,Z,f,j,m,n⟩,p,q,M,N⟩:=Tr.cells;have z0:=Tr.res.frozen 0;have z1:=Tr.res.frozen 1;have J:=Xh hB;clear Tr hB;by_cases aD:k<ks.length
  ·obtain⟨x,hx⟩:∃a,ks[k]? = some a:=⟨ks[k],by simp[aD]⟩;obtain⟨t,ht⟩:∃a,S[S.length-1-k]? = some a:=⟨S[S.length-1-k]'(by omega),by rw[Xn]⟩;obtain⟨b6,o6,vs,rfl,hRx,_,qc⟩:=HK6.out k x hx;unfold qs at hRx;subst hRx;have c0:=(qc.mono J.out qc.lt).1;rw[Nat.mul_one]at c0;have c1:wr.cell? ⟨g,S.length-1-k,none⟩=some (.string t):=by
    rw[World.ownsRow.cellAt z.out (S.length-1-k) (by omega),List.getElem?_map,ht];rfl
   have kx:=HKk.out x (Xe hx);have kt:=HKS.out t (Xe ht);have aE:=Xh (HFit.out _ (aC.out.step Xb.drew).below t x kt kx);have hrr:=zdk (cs:=Za l) hx hmn ht kx;rw[<-D.out]at hrr;obtain⟨sk,hsk⟩:∃sk,S.length-1-k=sk:=⟨_,rfl⟩;have hskI:(S.length:Int)-1-(k:Int)=(sk:Int):=(by omega);have hskl:(sk:Int)<(S.length:Int):=(by omega);have hkI:(k:Int)<(ks.length:Int):=(by omega);rw[hsk]at c1;clear hx ht qc D kx kt hsk;have aF:=Xh hrr;clear hrr;cases hf:Zx (Za l) (Zo t) (Zo x) with
   |false =>
    rw[hf]at aE aF;have HN:Hid (H=none):=HR.out.trans (Qcd aF.out);go_upto_region 21 with fail;refine wp_region_held_drew (S:=fun w'=>w'.cell? ⟨b6,o6+k,none⟩=some (.string x)/\w'.cell? ⟨g,sk,none⟩=some (.string t)) (by kernel_rfl) ⟨c0,c1⟩ (fun hHeld=>?_);change wpAnyH _ _ _ _ _ 15 _ _ _;iterate 13 ((first|(refine tkN rfl rfl hHeld ?_)|(refine tkY (v:=?_) rfl rfl hHeld ?_ ?_;rotate_left;focus (intro w G;(obtain⟨s0,s1⟩:=G);go_simp;(try go_bits);(try go_simp);all_goals with_reducible rfl)));try simp only[Act.put,Xa,Xc,Xd])
    refine wpAnyH_ready (rs:=[13]) (fuel:=1) (by kernel_rfl) (by simp) ?_;refine AllReadyH.cons (i:=13) rfl (fun K hK=>?_) AllReadyH.nil;go_simp;refine aE.out.mono ?_;rintro e w8⟨rfl,C⟩;refine hK.out _ _ ⟨zv C hHeld.1,zv C hHeld.2⟩ (fun hHeld=>?_);clear hK K;(try simp only[Act.put]);(try simp only[Xa]);(try simp only[Xd]);(try simp only[Xc])
    change wpAnyH _ _ _ _ _ 1 _ _ _;iterate 1 ((first|(refine tkN rfl rfl hHeld ?_)|(refine tkY (v:=?_) rfl rfl hHeld ?_ ?_;rotate_left;focus (intro w G;(obtain⟨s0,s1⟩:=G);go_simp;(try go_bits);(try go_simp);all_goals with_reducible rfl)));(try simp only[Act.put]);(try simp only[Xa]);(try simp only[Xd]);(try simp only[Xc]))
    refine wpAnyH_done (by kernel_rfl) ?_ _;have T8:=Xh ((aC.out.step Xb.drew).step C);have HB8:=Xh ((J.out.drew).trans (C.mono (J.out.drew).size));clear hHeld Y Z f j m n p q M N z0 z1 c0 c1 C;obtain⟨_,_,_,M,N⟩:=T8.out.cells;have z0:=T8.out.res.frozen 0;have z1:=T8.out.res.frozen 1;go_wp2_with fail;exact bodyPost_ret (v:=.tuple #[.agg #[.slice none 0 0,.slice none 0 0],.bool false]) (by simp[results,Tryz.results16,go_sem, *]) rfl (Ql.no HN.out (T8.out.put _ _))
   |true =>
    rw[hf]at aE aF;have HNx:Hid (zh (Za l) ks S=zh (Za l) (ks.drop (k+1)) (S.take (S.length-(k+1)))):=aF.out;go_upto_region 21 with fail;refine wp_region_held_drew (S:=fun w'=>w'.cell? ⟨b6,o6+k,none⟩=some (.string x)/\w'.cell? ⟨g,sk,none⟩=some (.string t)) (by kernel_rfl) ⟨c0,c1⟩ (fun hHeld=>?_);change wpAnyH _ _ _ _ _ 15 _ _ _;iterate 13 ((first|(refine tkN rfl rfl hHeld ?_)|(refine tkY (v:=?_) rfl rfl hHeld ?_ ?_;rotate_left;focus (intro w G;(obtain⟨s0,s1⟩:=G);go_simp;(try go_bits);(try go_simp);all_goals with_reducible rfl)));try simp only[Act.put,Xa,Xc,Xd])
    refine wpAnyH_ready (rs:=[13]) (fuel:=1) (by kernel_rfl) (by simp) ?_;refine AllReadyH.cons (i:=13) rfl (fun K hK=>?_) AllReadyH.nil;go_simp;refine aE.out.mono ?_;rintro e w8⟨rfl,C⟩;refine hK.out _ _ ⟨zv C hHeld.1,zv C hHeld.2⟩ (fun hHeld=>?_);clear hK K;(try simp only[Act.put]);(try simp only[Xa]);(try simp only[Xd]);(try simp only[Xc])
    change wpAnyH _ _ _ _ _ 1 _ _ _;iterate 1 ((first|(refine tkN rfl rfl hHeld ?_)|(refine tkY (v:=?_) rfl rfl hHeld ?_ ?_;rotate_left;focus (intro w G;(obtain⟨s0,s1⟩:=G);go_simp;(try go_bits);(try go_simp);all_goals with_reducible rfl)));(try simp only[Act.put]);(try simp only[Xa]);(try simp only[Xd]);(try simp only[Xc]))
    refine wpAnyH_done (by kernel_rfl) ?_ _;have T8:=Xh ((aC.out.step Xb.drew).step C);have HB8:=Xh ((J.out.drew).trans (C.mono (J.out.drew).size));clear hHeld Y Z f j m n p q M N z0 z1 c0 c1 C;go_wp2_with fail;go_roundw;case rel=>exact⟨k+1,by omega,HNx,HB8,by simp⟩
    case measure=>simp[intOf];omega
  ·have hke:k=ks.length:=(by omega);subst hke;have HT9:Hid (zh (Za l) ks S=some (S.take (S.length-ks.length))):=D.out.trans (by rw[List.drop_length];rfl);obtain⟨d,hd⟩:∃d,S.length-ks.length=d:=⟨_,rfl⟩;rw[hd]at HT9;have hdI:(S.length:Int)-(ks.length:Int)=(d:Int):=(by omega);have hd8:d<=8:=(by omega);have hd8I:(d:Int)<=8:=(by omega);have hd5:d<=c5:=(by omega);have hy1:decide ((0:Int)<=(d:Int))=true:=(by simp);have HOd:=Zcu ks.length d (by omega) z.out;have hP9:=HPs.out.mono J.out;have n63:d+E.length<=maxLen:=Xf (show d+E.length<=9 by omega) (by decide);have n16:(d+E.length)*16<=140737488355328:=(by omega);have hL9:F.heap.size<=wr.heap.size:=Xf (z.out.lt g rfl).1 (Nat.le_of_lt (z.out.lt g rfl).2);have htl:(S.take d).length=d:=(by rw[List.length_take];omega);have HR9:Hid (H=if d+E.length<=8 then some (L,S.take d++E) else none):=by
    have:=HR.out.trans (Zdk HT9.out);rwa [List.length_append,htl]at this
   clear D hd HT9 HR hmn;go_upto_region 24 with(first|(at_builtin;go_must (refine Qg rfl _ _ rfl F.heap.size _ d ((S.take d).map Value.string) rfl HOd _ E rfl hP9 n63 n16 hL9 ?_);intro vA wA hoA hgA _))
   obtain⟨aA,cA,rfl⟩:=qe hoA;have TA:=aC.out.grown hgA (fun g e=>Xf hlow5 (HOd.lt g e).1);have TB:=TA.alloc (.cells #[] 9);have aG:(wA.alloc (.cells #[] 9)).ownsRow wA.heap.size 9 1 (.slice (some ⟨wA.heap.size,0,none⟩) 0 0) 0 []:=zV wA wA.heap.size Xl;have hFB:=(HF.out _ TB.below).1;have l63:0+L.length<=maxLen:=Xf (show 0+L.length<=8 by omega) (by decide);have l16:(0+L.length)*16<=140737488355328:=(by omega);have hLB:wA.heap.size<=(wA.alloc (.cells #[] 9)).heap.size:=(by rw[World.size_alloc];exact Nat.le_succ _);have hloA:=TA.low;clear Y Z f j m n p q M N z0 z1 TA n63 n16 hP9 HOd hgA hL9;obtain⟨⟨Y,Z,f,j,m,n⟩,p,q,_,_⟩:=TB.cells;have HTB:=Xh TB;have HoA:=Xh hoA;clear TB hoA;by_cases h8:d+E.length<=8
   ·have h8I:(d:Int)+(E.length:Int)<=8:=(by omega);have HN:Hid (H=some (L,S.take d++E)):=HR9.out.trans (if_pos h8);go_wp2_with (first|(at_builtin;go_must (refine Qg rfl _ _ rfl wA.heap.size _ 0 [] rfl aG _ L rfl hFB l63 l16 hLB ?_);intro vB wB V X _;obtain⟨aB,cB,rfl,U,HFr⟩:=qcu HTB.out HoA.out X aG V hloA htl;obtain⟨_,_,_,M,N⟩:=U.cells;(have z0:=U.res.frozen 0);(have z1:=U.res.frozen 1);(have HTC:=Xh U);clear U X V))
    exact bodyPost_ret (v:=.tuple #[.agg #[.slice aB L.length cB,.slice aA (d+E.length) cA],.bool true]) (by simp[results,Tryz.results16,go_sem, *]) rfl (Ql.yes HN.out (HTC.out.put _ _) (HFr.out _ _))
   ·have h8I:¬(d:Int)+(E.length:Int)<=8:=(by omega);have HN:Hid (H=none):=HR9.out.trans (if_neg h8);go_wp2_with (first|(at_builtin;go_must (refine Qg rfl _ _ rfl wA.heap.size _ 0 [] rfl aG _ L rfl hFB l63 l16 hLB ?_);intro vB wB V X _;obtain⟨aB,cB,rfl,U,HFr⟩:=qcu HTB.out HoA.out X aG V hloA htl;obtain⟨_,_,_,M,N⟩:=U.cells;(have z0:=U.res.frozen 0);(have z1:=U.res.frozen 1);(have HTC:=Xh U);clear U X V HFr))
    exact bodyPost_ret (v:=.tuple #[.agg #[.slice aB L.length cB,.slice aA (d+E.length) cA],.bool false]) (by simp[results,Tryz.results16,go_sem, *]) rfl (Ql.no HN.out (HTC.out.put _ _))
set_option maxRecDepth 512
theorem QcL(l:List Qb)(H:Value)(O:Zk l)(D:∀c∈l,qd c=0)(w:World)(E:qj w H l)(qb Zb:Str)(C a b:Int)(A cls B:Str)(L S:List Str)(I J:Value)(P:zk w I J ⟨L,S⟩)(R:Qx (Za l) ⟨L,S⟩=0)(F:A.size<=1048576)(M:cls.size<=4194304)(N:Zb.size<=maxLen)(T:Zi ⟨C,a,b,A,cls,B⟩=0):
 Calls Tryz.prog 16 #[H,.string qb,.string Zb,.agg #[.int .i64 C,.int .i64 a,.int .i64 b,.string A,.string cls,.string B],.agg #[I,J]] w (Ql w (zp (Za l) qb Zb ⟨C,a,b,A,cls,B⟩ L S)):=by
 by_cases G:q9 C
 ·exact Qc0 l H O D w E qb Zb C a b A cls B L S I J P R F T G
 ·exact Zcj l H O D w E qb Zb C a b A cls B L S I J P R F M N T G
end Go.Proofs.YtlmfmioljeppfaaGreatDoor
