/- Lemmas; conditions: as each states. -/
import Derived.Test.YtlmfmioljeppfaaGreatDoorRefOdd
import Derived.Test.YtlmfmioljeppfaaGreatDoorRefOddC
import Derived.Test.YtlmfmioljeppfaaGreatDoorRefOddS
set_option maxHeartbeats 4000000
namespace Go.Proofs.YtlmfmioljeppfaaGreatDoor
open Go.RowKit Go.Shelf Go.Lib
theorem qcX(l:List Qb)(lv:Value)(hR:Qj l)(hcf:∀c∈l,qd c=0)(w:World)(hlv:qi w lv l)(qb Zb:Str)(op a b:Int)(type cls name:Str)(L S:List Str)(f1 f2:Value)(hf:zk w f1 f2 ⟨L,S⟩)(hz:zz (Za l) ⟨L,S⟩=0)(hty:type.size<=1048576)(hx:Zi ⟨op,a,b,type,cls,name⟩=0)(hop:Q9 op):
 Calls Tryz.prog 47 #[lv,.agg #[.int .i64 op,.int .i64 a,.int .i64 b,.string type,.string cls,.string name],.agg #[f1,f2]] w (ql w (zq (Za l) qb Zb ⟨op,a,b,type,cls,name⟩ L S)):=by
 have h:=hop;unfold Q9 at h;by_cases h1:op<=13\/op=19
 ·exact QcW l lv hR hcf w hlv qb Zb op a b type cls name L S f1 f2 hf hz hty hx hop h1
 ·by_cases h2:op=21
  ·exact ZdG l lv hR hcf w hlv qb Zb op a b type cls name L S f1 f2 hf hz hty hx hop (Or.inl h2)
  ·exact zdG l lv hR hcf w hlv qb Zb op a b type cls name L S f1 f2 hf hz hty hx hop (by omega)
theorem Zd2{w:World}{base n g:Nat}{e:TypeId}{v:Value}{xs:List Value}(h:w.ownsRow base e 1 v n xs)(hg:v.ownBlock=some g):∃cap,v=.slice (some ⟨g,0,none⟩) n cap/\n<=cap:=by
 rcases h.2 with⟨rfl,_⟩|⟨g',cap,cur,rfl,_,_,h4,_⟩
 ·cases hg
 ·injection hg with hg
  subst hg;exact⟨cap,rfl,h4⟩
theorem qcs{w:World}{base g cap:Nat}{e:TypeId}{S:List Str}:∀(d j:Nat),j+d=S.length->w.ownsRow base e 1 (.slice (some ⟨g,0,none⟩) S.length cap) S.length (S.map Value.string)->w.ownsRow base e 1 (.slice (some ⟨g,0,none⟩) j cap) j ((S.take j).map Value.string)
 |0,j,hj,h=>by
  have:j=S.length:=by omega
  subst this;rw[List.take_length];exact h
 |d+1,j,hj,h=>by
  have h1:=qcs d (j+1) (by omega) h;have hlt:j<S.length:=by omega
  rw[List.take_succ_eq_append_getElem hlt,List.map_append]at h1;exact ownsRow_pop (by simp;omega) h1
theorem Zdf{cs:List Qb}{ks S:List Str}(h:S.length<ks.length):zh cs ks S=none:=by
 cases hq:zh cs ks S with
 |none=>rfl
 |some S'=>have:=QaO hq;omega
theorem qdf{cs:List Qb}{ks S:List Str}{k:Nat}{x t:Str}(hx:ks[k]? = some x)(hm:ks.length<=S.length)(ht:S[S.length-1-k]? = some t)(kx:zd cs x=0):
 zh cs (ks.drop k) (S.take (S.length-k))=if Zx cs (Zo t) (Zo x) then zh cs (ks.drop (k+1)) (S.take (S.length-(k+1))) else none:=by
 obtain⟨hk,rfl⟩:=List.getElem?_eq_some_iff.1 hx;obtain⟨hs,rfl⟩:=List.getElem?_eq_some_iff.1 ht;have e:S.length-k=(S.length-1-k)+1:=by omega
 have e2:S.length-(k+1)=S.length-1-k:=by omega
 rw[List.drop_eq_getElem_cons hk,e,e2,List.take_succ_eq_append_getElem hs,ZaT,if_neg (by rw[kx];decide),ZO]
theorem zcc{cs:List Qb}{L S ks ps:List Str}(h:zh cs ks S=none):qaW cs L S (ks,ps)=none:=by unfold qaW;rw[h];rfl
theorem Qdf{cs:List Qb}{L S ks ps S':List Str}(h:zh cs ks S=some S'):qaW cs L S (ks,ps)=if (S'++ps).length<=8 then some (L,S'++ps) else none:=by unfold qaW;rw[h];rfl
theorem qby{w:World}{b:Nat}{t:TypeId}{x y v:Value}{l:List Str}(h:Qh w v l)(hk:Blk w b t [x,y])(hx:∀s,x≠.string s)(hy:∀s,y≠.string s)(u1 u2:Value):Qh ((w.setCell ⟨b,0,none⟩ u1).setCell ⟨b,1,none⟩ u2) v l :=
 h.apart hk hx hy fun _ hg=>(Xk _ _ _ _ hg).trans (Xk _ _ _ _ hg)
theorem ql.put{w w1 w5:World}{op a b:Int}{type cls name:Str}{f1 f2:Value}{o:Option (List Str×List Str)}{e:Ending}(T:OX w w1 op a b type cls name f1 f2 (.slice none 0 0) (.slice none 0 0))(h:ql w1 o e w5):
 ∃p n c q m d r,e=.returned (.tuple #[.agg #[.slice p n c,.slice q m d],.bool r])/\OX w w5 op a b type cls name f1 f2 (.slice none 0 0) (.slice none 0 0)/\ql w o (.returned (.tuple #[.agg #[.slice p n c,.slice q m d],.bool r])) ((w5.setCell ⟨w.heap.size+1+1,0,none⟩ (.slice p n c)).setCell ⟨w.heap.size+1+1,1,none⟩ (.slice q m d)):=by
 obtain⟨hB,h⟩:=h;have T5:=T.step hB;rcases h with⟨h1,p,n,c,q,m,d,rfl⟩|⟨L,S,v1,v2,h1,rfl,hf⟩
 ·exact⟨p,n,c,q,m,d,false,rfl,T5,ql.no h1 (T5.put _ _)⟩
 ·obtain⟨p1,c1,rfl,_⟩:=hf.1.open;obtain⟨p2,c2,rfl,_⟩:=hf.2.open;exact⟨p1,_,c1,p2,_,c2,true,rfl,T5,ql.yes h1 (T5.put _ _) ⟨qby hf.1 T5.res (by simp) (by simp) _ _,qby hf.2 T5.res (by simp) (by simp) _ _⟩⟩
theorem qed{op:Int}(h:¬Q9 op):(op==4)=false/\(op==5)=false/\(op==6)=false/\(op==7)=false/\(op==8)=false/\(op==13)=false/\(op==19)=false/\(op==20)=false/\(op==21)=false/\(op==22)=false/\(op==23)=false:=by
 unfold Q9 at h;simp only[beq_eq_false_iff_ne,ne_eq];omega
set_option maxRecDepth 100000
theorem QcX(l:List Qb)(lv:Value)(hR:Qj l)(hcf:∀c∈l,qd c=0)(w:World)(hlv:qi w lv l)(qb Zb:Str)(op a b:Int)(type cls name:Str)(L S:List Str)(f1 f2:Value)(hf:zk w f1 f2 ⟨L,S⟩)(hz:zz (Za l) ⟨L,S⟩=0)(hty:type.size<=1048576)(hx:Zi ⟨op,a,b,type,cls,name⟩=0)(hop:Q9 op):
 Calls Tryz.prog 16 #[lv,.string qb,.string Zb,.agg #[.int .i64 op,.int .i64 a,.int .i64 b,.string type,.string cls,.string name],.agg #[f1,f2]] w (ql w (zq (Za l) qb Zb ⟨op,a,b,type,cls,name⟩ L S)):=by
 have HO:Hid (∀wx,Below w.heap.size w wx->_):=fun wx hb=>qcX l lv hR hcf wx (hlv.mono hb) qb Zb op a b type cls name L S f1 f2 (hf.mono hb) hz hty hx hop
 obtain⟨pl,cap,rfl,_⟩:=hlv.open;obtain⟨p1,c1,rfl,_⟩:=hf.1.open;obtain⟨p2,c2,rfl,_⟩:=hf.2.open;have T0:=OX.new w op a b type cls name (.slice p1 L.length c1) (.slice p2 S.length c2);obtain⟨w1,hw1⟩:∃w1,w1=((w.alloc (.cells #[.int .i64 op,.int .i64 a,.int .i64 b,.string type,.string cls,.string name] 24)).alloc (.cells #[.slice p1 L.length c1,.slice p2 S.length c2] 27)).alloc (.cells #[.slice none 0 0,.slice none 0 0] 27):=⟨_,rfl⟩;rw[<-hw1]at T0;have HW:=Xh hw1.symm;have HT:=Xh T0;generalize zq (Za l) qb Zb ⟨op,a,b,type,cls,name⟩ L S=o at *;clear hlv hR hcf hf hz hw1 hx;go_enter Tryz.func16,Tryz.ntmps16;go_upto_region 1 with fail;rw[HW.out];obtain⟨⟨q0,q1,q2,q3,q4,q5⟩,g0,g1,r0,r1⟩:=T0.cells;have hlow:=T0.low;clear T0;unfold Q9 at hop;rcases hop with rfl|rfl|rfl|rfl|rfl|rfl|rfl|rfl|rfl|rfl|rfl;all_goals
  go_upto_region 13 with fail;go_wp2_with (first|(go_fit (HO.out _ HT.out.below);rintro e w5 hP;obtain⟨p3,n3,c3,p4,n4,c4,r,rfl,T5,hQ⟩:=hP.put HT.out;obtain⟨_,_,_,r0',r1'⟩:=T5.cells;(have z0:=T5.res.frozen 0);(have z1:=T5.res.frozen 1);(have HQ:=Xh hQ);clear hP hQ T5))
  (try simp only[Exit.inBlock,Exit.then])
  exact bodyPost_ret (v:=.tuple #[.agg #[.slice p3 n3 c3,.slice p4 n4 c4],.bool r]) (by simp[results,Tryz.results16,go_sem, *]) rfl HQ.out
set_option maxRecDepth 512
theorem zdg{w':World}{o:Option (List Str×List Str)}{e:Ending}(h:(o=none/\∃v1 v2,e=.returned (.tuple #[v1,v2,.bool false]))\/∃ks ps v1 v2,o=some (ks,ps)/\e=.returned (.tuple #[v1,v2,.bool true])/\Qh w' v1 ks/\Qh w' v2 ps):
 ∃is v1 v2,e=.returned (.tuple #[v1,v2,.bool is])/\((is=false/\o=none)\/∃ks ps,is=true/\o=some (ks,ps)/\Qh w' v1 ks/\Qh w' v2 ps):=by
 rcases h with⟨h1,v1,v2,rfl⟩|⟨ks,ps,v1,v2,h1,rfl,h2,h3⟩
 ·exact⟨false,v1,v2,rfl,Or.inl ⟨rfl,h1⟩⟩
 ·exact⟨true,v1,v2,rfl,Or.inr ⟨ks,ps,rfl,h1,h2,h3⟩⟩
theorem Qcs{w wA wB:World}{op a b:Int}{type cls name:Str}{f1 f2:Value}{aA:Option Addr}{n cA mid:Nat}{vB:Value}{L S ps:List Str}{d:Nat}(T:OX w (wA.alloc (.cells #[] 9)) op a b type cls name f1 f2 (.slice none 0 0) (.slice none 0 0))(hA:wA.ownsRow mid 9 1 (.slice aA n cA) (d+ps.length) ((S.take d).map Value.string++ps.map Value.string))(hgB:(wA.alloc (.cells #[] 9)).grownBy wB (Value.slice (some ⟨wA.heap.size,0,none⟩) 0 0).ownBlock)(hoN:(wA.alloc (.cells #[] 9)).ownsRow wA.heap.size 9 1 (.slice (some ⟨wA.heap.size,0,none⟩) 0 0) 0 [])(hoB:wB.ownsRow wA.heap.size 9 1 vB (0+L.length) ([]++L.map Value.string))(hlow:w.heap.size+3<=wA.heap.size)(htl:(S.take d).length=d):
 ∃aB cB,vB=.slice aB L.length cB/\OX w wB op a b type cls name f1 f2 (.slice none 0 0) (.slice none 0 0)/\Hid (∀u1 u2,zk ((wB.setCell ⟨w.heap.size+1+1,0,none⟩ u1).setCell ⟨w.heap.size+1+1,1,none⟩ u2) vB (.slice aA n cA) ⟨L,S.take d++ps⟩):=by
 have hoB':wB.ownsRow wA.heap.size 9 1 vB L.length (L.map Value.string):=by simpa using hoB
 obtain⟨aB,cB,rfl⟩:=qe hoB';have T2:=T.grown hgB (fun g e=>Xf hlow (hoN.lt g e).1);have hA2:=(qr hA (Xb.alloc Xl (.cells #[] 9))).kept hgB (by
  cases hq:(Value.slice aA n cA).ownBlock with
  |none=>exact Or.inl rfl
  |some g =>
   refine Or.inr fun e=>?_
   have h1:=(hA.lt g hq).2;have e2:some g=some wA.heap.size:=e;injection e2 with e2
   omega)
 have e:(S.take d++ps).length=d+ps.length:=by rw[List.length_append,htl]
 refine⟨aB,cB,rfl,T2,fun u1 u2=>⟨qby (Ze hoB') T2.res (by simp) (by simp) _ _,qby (Ze (l:=S.take d++ps) (by rw[e,List.map_append];exact hA2)) T2.res (by simp) (by simp) _ _⟩⟩
set_option maxRecDepth 100000
theorem qch(l:List Qb)(lv:Value)(hR:Qj l)(hcf:∀c∈l,qd c=0)(w:World)(hlv:qi w lv l)(qb Zb:Str)(op a b:Int)(type cls name:Str)(L S:List Str)(f1 f2:Value)(hf:zk w f1 f2 ⟨L,S⟩)(hz:zz (Za l) ⟨L,S⟩=0)(hty:type.size<=1048576)(hcl:cls.size<=4194304)(hgs:Zb.size<=maxLen)(hx:Zi ⟨op,a,b,type,cls,name⟩=0)(hop:¬Q9 op):
 Calls Tryz.prog 16 #[lv,.string qb,.string Zb,.agg #[.int .i64 op,.int .i64 a,.int .i64 b,.string type,.string cls,.string name],.agg #[f1,f2]] w (ql w (zq (Za l) qb Zb ⟨op,a,b,type,cls,name⟩ L S)):=by
 obtain⟨hl8,hs8,hkl,hks⟩:=zw hz;dsimp only at hl8 hs8 hkl hks;have HWa:Hid (∀wx,Below w.heap.size w wx->_):=fun wx hb=>QcC l lv hR hcf wx (hlv.mono hb) qb Zb op a b type cls name hty hcl hgs hx hop
 have HE:=Xh (Zc9 hcf qb Zb ⟨op,a,b,type,cls,name⟩ L S hs8 hop);have HKn:Hid (∀ks ps,Qq (Za l) qb Zb ⟨op,a,b,type,cls,name⟩=some (ks,ps)->(∀k∈ks,zd (Za l) k=0)/\ks.length<=6/\ps.length<=1):=fun ks ps h=>QcQ hcf hx h
 have HFit:Hid (∀wx,Below w.heap.size w wx->∀k t,zd (Za l) k=0->zd (Za l) t=0->Calls Tryz.prog 49 #[lv,.string k,.string t] wx fun e w'=>e=.returned (.bool (Zx (Za l) (Zo k) (Zo t)))/\Below wx.heap.size wx w'):=fun wx hb k t h1 h2=>Za3 l _ hR hcf wx (hlv.mono hb) k t _ _ (QS h1) (QS h2) (zad h1) (zad h2) (Xf (qS h1) (by decide)) (Xf (qS h2) (by decide))
 have HF:Hid (∀wx,Below w.heap.size w wx->zk wx f1 f2 ⟨L,S⟩):=fun wx hb=>hf.mono hb
 obtain⟨pl,cap,rfl,_⟩:=hlv.open;obtain⟨p1,c1,rfl,_⟩:=hf.1.open;obtain⟨p2,c2,rfl,_⟩:=hf.2.open;have T0:=OX.new w op a b type cls name (.slice p1 L.length c1) (.slice p2 S.length c2);obtain⟨w1,hw1⟩:∃w1,w1=((w.alloc (.cells #[.int .i64 op,.int .i64 a,.int .i64 b,.string type,.string cls,.string name] 24)).alloc (.cells #[.slice p1 L.length c1,.slice p2 S.length c2] 27)).alloc (.cells #[.slice none 0 0,.slice none 0 0] 27):=⟨_,rfl⟩;rw[<-hw1]at T0;have HW:=Xh hw1.symm;have HT:=Xh T0;have HKS:=Xh hks;generalize zq (Za l) qb Zb ⟨op,a,b,type,cls,name⟩ L S=res at *;generalize Qq (Za l) qb Zb ⟨op,a,b,type,cls,name⟩=o at *;obtain⟨e4,e5,e6,e7,e8,e13,e19,e20,e21,e22,e23⟩:=qed hop;clear hlv hR hcf hf hz hw1 hx hop hks hkl;go_enter Tryz.func16,Tryz.ntmps16;go_upto_region 1 with fail;rw[HW.out];obtain⟨⟨q0,q1,q2,q3,q4,q5⟩,g0,g1,r0,r1⟩:=T0.cells;clear T0;go_upto_region 14 with fail;clear e4 e5 e6 e7 e8 e13 e19 e20 e21 e22 e23;go_upto_region 15 with(first|(go_fit (HWa.out _ HT.out.below);rintro e w3⟨hB3,hP⟩;obtain⟨is,v1,v2,rfl,hW⟩:=zdg hP))
 have T3:=HT.out.step hB3;clear q0 q1 q2 q3 q4 q5 g0 g1 r0 r1 hP;have T4:=T3.alloc (.cells #[] 9);have ho0:(w3.alloc (.cells #[] 9)).ownsRow w3.heap.size 9 1 (.slice (some ⟨w3.heap.size,0,none⟩) 0 0) 0 []:=ZT w3 w3.heap.size Xl;obtain⟨⟨q0,q1,q2,q3,q4,q5⟩,g0,g1,r0,r1⟩:=T4.cells;have hF4:=HF.out _ T4.below;have m63:0+S.length<=maxLen:=Xf (show 0+S.length<=8 by omega) (by decide);have m16:(0+S.length)*16<=140737488355328:=by omega
 have hL4:w3.heap.size<=(w3.alloc (.cells #[] 9)).heap.size:=by rw[World.size_alloc];exact Nat.le_succ _
 have HW3:=Xh hW;have HT4:=Xh T4;have hlow:=T3.low;clear hW T3 T4;go_upto_region 16 with(first|(at_builtin;go_must (refine qg rfl _ _ rfl w3.heap.size _ 0 [] rfl ho0 _ S rfl hF4.2 m63 m16 hL4 ?_);intro v5 w5 ho5 hg5 hb5))
 have ho5':w5.ownsRow w3.heap.size 9 1 v5 S.length (S.map Value.string):=by simpa using ho5
 have hB35:Below w3.heap.size w3 w5:=((Below.refl w3.heap.size w3).alloc Xl (.cells #[] 9)).grown hg5 hL4 (fun g e=>(ho0.lt g e).1);have T5:=HT4.out.grown hg5 (fun g e=>Xf hlow (ho0.lt g e).1);obtain⟨g,hg⟩:∃g,v5.ownBlock=some g:=hb5.elim (fun h=>⟨_,h⟩) (fun h=>⟨_,h⟩);obtain⟨c5,rfl,hc5⟩:=Zd2 ho5' hg;have HO5:=Xh ho5';have HT5:=Xh T5;have hlow5:w.heap.size+3<=w3.heap.size:=hlow;clear q0 q1 q2 q3 q4 q5 g0 g1 r0 r1 hF4 m63 m16 hL4 ho0 ho5 hg5 hb5 ho5' hg T5 HT4;obtain⟨⟨q0,q1,q2,q3,q4,q5⟩,g0,g1,r0,r1⟩:=HT5.out.cells;have z0:=HT5.out.res.frozen 0;have z1:=HT5.out.res.frozen 1;rcases HW3.out with⟨rfl,rfl⟩|⟨ks,ps,rfl,rfl,hk1,hk2⟩
 ·have HR:Hid (res=none):=HE.out;go_wp2_with fail;exact bodyPost_ret (v:=.tuple #[.agg #[.slice none 0 0,.slice none 0 0],.bool false]) (by simp[results,Tryz.results16,go_sem, *]) rfl (ql.no HR.out (HT5.out.put _ _))
 obtain⟨kks,hk6,hp1⟩:=HKn.out ks ps rfl;have hKs:=hk1.mono hB35;have hPs:=hk2.mono hB35;obtain⟨p6,c6,rfl,h6c,h6m,hcc6⟩:=hKs.open;obtain⟨p7,c7,rfl,_⟩:=hPs.open;have HPs:=Xh hPs;have HK6:=Xh hcc6;have HKk:=Xh kks;have HR:Hid (res=qaW (Za l) L S (ks,ps)):=HE.out;have hlen6:ks.length<=9223372036854775807:=by omega
 clear hk1 hk2 hKs hPs kks hcc6 HW3 HE HKn HWa hB35;by_cases hm:S.length<ks.length
 ·have hm2:(S.length:Int)<(ks.length:Int):=by omega
  have HN:Hid (res=none):=HR.out.trans (zcc (Zdf hm));go_wp2_with fail;exact bodyPost_ret (v:=.tuple #[.agg #[.slice none 0 0,.slice none 0 0],.bool false]) (by simp[results,Tryz.results16,go_sem, *]) rfl (ql.no HN.out (HT5.out.put _ _))
 have hm2:¬(S.length:Int)<(ks.length:Int):=by omega
 have hmn:ks.length<=S.length:=by omega
 clear hm;go_wp2_with fail;clear q0 q1 q2 q3 q4 q5 g0 g1 r0 r1 z0 z1 hm2;go_loopw [16] (fun i wr=>∃k:Nat,k<=ks.length/\Hid (zh (Za l) ks S=zh (Za l) (ks.drop k) (S.take (S.length-k)))/\Below w5.heap.size w5 wr/\i=.int .i64 k) (fun i _=>ks.length-(intOf i).toNat)
 case atStart=>exact⟨0,Nat.zero_le _,by unfold Hid;rw[List.drop_zero,Nat.sub_zero,List.take_length],Xb,rfl⟩
 case round =>
  obtain⟨k,hk,hrel2,hB,rfl⟩:=hrel;have Tr:=HT5.out.step hB;have HOr:=Xh (qr HO5.out hB);have HTr:=Xh Tr;obtain⟨⟨q0,q1,q2,q3,q4,q5⟩,g0,g1,r0,r1⟩:=Tr.cells;have z0:=Tr.res.frozen 0;have z1:=Tr.res.frozen 1;have HBr:=Xh hB;clear Tr hB;by_cases hkl:k<ks.length
  ·obtain⟨x,hx⟩:∃a,ks[k]? = some a:=⟨ks[k],by simp[hkl]⟩;obtain⟨t,ht⟩:∃a,S[S.length-1-k]? = some a:=⟨S[S.length-1-k]'(by omega),by rw[Xn]⟩;obtain⟨b6,o6,vs,rfl,hRx,_,qc⟩:=HK6.out k x hx;unfold zr at hRx;subst hRx;have c0:=(qc.mono HBr.out qc.lt).1;rw[Nat.mul_one]at c0;have c1:wr.cell? ⟨g,S.length-1-k,none⟩=some (.string t):=by
    rw[World.ownsRow.cellAt HOr.out (S.length-1-k) (by omega),List.getElem?_map,ht];rfl
   have kx:=HKk.out x (Xe hx);have kt:=HKS.out t (Xe ht);have HFx:=Xh (HFit.out _ (HTr.out.step Xb.drew).below t x kt kx);have hrr:=qdf (cs:=Za l) hx hmn ht kx;rw[<-hrel2.out]at hrr;obtain⟨sk,hsk⟩:∃sk,S.length-1-k=sk:=⟨_,rfl⟩;have hskI:(S.length:Int)-1-(k:Int)=(sk:Int):=(by omega);have hskl:(sk:Int)<(S.length:Int):=(by omega);have hkI:(k:Int)<(ks.length:Int):=(by omega);rw[hsk]at c1;clear hx ht qc hrel2 kx kt hsk;have HRR:=Xh hrr;clear hrr;cases hf:Zx (Za l) (Zo t) (Zo x) with
   |false =>
    rw[hf]at HFx HRR;have HN:Hid (res=none):=HR.out.trans (zcc HRR.out);go_upto_region 21 with fail;refine wp_region_held_drew (S:=fun w'=>w'.cell? ⟨b6,o6+k,none⟩=some (.string x)/\w'.cell? ⟨g,sk,none⟩=some (.string t)) (by kernel_rfl) ⟨c0,c1⟩ (fun hHeld=>?_);change wpAnyH _ _ _ _ _ 15 _ _ _;iterate 13 ((first|(refine tkN rfl rfl (by kernel_rfl) (by kernel_rfl) (by kernel_rfl) (fun _ _ _ h=>h) (by rfl) hHeld ?_)|(refine tkY (v:=?_) rfl rfl (by kernel_rfl) (by kernel_rfl) (by kernel_rfl) (fun _ _ _ h=>h) (by rfl) hHeld ?_ ?_;rotate_left;focus (intro w hSw;(obtain⟨s0,s1⟩:=hSw);go_simp;(try go_bits);(try go_simp);all_goals with_reducible rfl)));try simp only[Act.put,Xa,Xc,Xd])
    refine wpAnyH_ready (rs:=[13]) (fuel:=1) (by kernel_rfl) (by simp) ?_;refine AllReadyH.cons (i:=13) rfl (fun K hK=>?_) AllReadyH.nil;go_simp;refine HFx.out.mono ?_;rintro e w8⟨rfl,hB8⟩;refine hK.out _ _ ⟨Qu hB8 hHeld.1,Qu hB8 hHeld.2⟩ (fun hHeld=>?_);clear hK K;(try simp only[Act.put]);(try simp only[Xa]);(try simp only[Xd]);(try simp only[Xc])
    change wpAnyH _ _ _ _ _ 1 _ _ _;iterate 1 ((first|(refine tkN rfl rfl (by kernel_rfl) (by kernel_rfl) (by kernel_rfl) (fun _ _ _ h=>h) (by rfl) hHeld ?_)|(refine tkY (v:=?_) rfl rfl (by kernel_rfl) (by kernel_rfl) (by kernel_rfl) (fun _ _ _ h=>h) (by rfl) hHeld ?_ ?_;rotate_left;focus (intro w hSw;(obtain⟨s0,s1⟩:=hSw);go_simp;(try go_bits);(try go_simp);all_goals with_reducible rfl)));(try simp only[Act.put]);(try simp only[Xa]);(try simp only[Xd]);(try simp only[Xc]))
    refine wpAnyH_done (by kernel_rfl) ?_ _;have T8:=Xh ((HTr.out.step Xb.drew).step hB8);have HB8:=Xh ((HBr.out.drew).trans (hB8.mono (HBr.out.drew).size));clear hHeld q0 q1 q2 q3 q4 q5 g0 g1 r0 r1 z0 z1 c0 c1 hB8;obtain⟨_,_,_,r0,r1⟩:=T8.out.cells;have z0:=T8.out.res.frozen 0;have z1:=T8.out.res.frozen 1;go_wp2_with fail;exact bodyPost_ret (v:=.tuple #[.agg #[.slice none 0 0,.slice none 0 0],.bool false]) (by simp[results,Tryz.results16,go_sem, *]) rfl (ql.no HN.out (T8.out.put _ _))
   |true =>
    rw[hf]at HFx HRR;have HNx:Hid (zh (Za l) ks S=zh (Za l) (ks.drop (k+1)) (S.take (S.length-(k+1)))):=HRR.out;go_upto_region 21 with fail;refine wp_region_held_drew (S:=fun w'=>w'.cell? ⟨b6,o6+k,none⟩=some (.string x)/\w'.cell? ⟨g,sk,none⟩=some (.string t)) (by kernel_rfl) ⟨c0,c1⟩ (fun hHeld=>?_);change wpAnyH _ _ _ _ _ 15 _ _ _;iterate 13 ((first|(refine tkN rfl rfl (by kernel_rfl) (by kernel_rfl) (by kernel_rfl) (fun _ _ _ h=>h) (by rfl) hHeld ?_)|(refine tkY (v:=?_) rfl rfl (by kernel_rfl) (by kernel_rfl) (by kernel_rfl) (fun _ _ _ h=>h) (by rfl) hHeld ?_ ?_;rotate_left;focus (intro w hSw;(obtain⟨s0,s1⟩:=hSw);go_simp;(try go_bits);(try go_simp);all_goals with_reducible rfl)));try simp only[Act.put,Xa,Xc,Xd])
    refine wpAnyH_ready (rs:=[13]) (fuel:=1) (by kernel_rfl) (by simp) ?_;refine AllReadyH.cons (i:=13) rfl (fun K hK=>?_) AllReadyH.nil;go_simp;refine HFx.out.mono ?_;rintro e w8⟨rfl,hB8⟩;refine hK.out _ _ ⟨Qu hB8 hHeld.1,Qu hB8 hHeld.2⟩ (fun hHeld=>?_);clear hK K;(try simp only[Act.put]);(try simp only[Xa]);(try simp only[Xd]);(try simp only[Xc])
    change wpAnyH _ _ _ _ _ 1 _ _ _;iterate 1 ((first|(refine tkN rfl rfl (by kernel_rfl) (by kernel_rfl) (by kernel_rfl) (fun _ _ _ h=>h) (by rfl) hHeld ?_)|(refine tkY (v:=?_) rfl rfl (by kernel_rfl) (by kernel_rfl) (by kernel_rfl) (fun _ _ _ h=>h) (by rfl) hHeld ?_ ?_;rotate_left;focus (intro w hSw;(obtain⟨s0,s1⟩:=hSw);go_simp;(try go_bits);(try go_simp);all_goals with_reducible rfl)));(try simp only[Act.put]);(try simp only[Xa]);(try simp only[Xd]);(try simp only[Xc]))
    refine wpAnyH_done (by kernel_rfl) ?_ _;have T8:=Xh ((HTr.out.step Xb.drew).step hB8);have HB8:=Xh ((HBr.out.drew).trans (hB8.mono (HBr.out.drew).size));clear hHeld q0 q1 q2 q3 q4 q5 g0 g1 r0 r1 z0 z1 c0 c1 hB8;go_wp2_with fail;go_roundw;case rel=>exact⟨k+1,by omega,HNx,HB8,by simp⟩
    case measure=>simp[intOf];omega
  ·have hke:k=ks.length:=(by omega);subst hke;have HT9:Hid (zh (Za l) ks S=some (S.take (S.length-ks.length))):=hrel2.out.trans (by rw[List.drop_length];rfl);obtain⟨d,hd⟩:∃d,S.length-ks.length=d:=⟨_,rfl⟩;rw[hd]at HT9;have hdI:(S.length:Int)-(ks.length:Int)=(d:Int):=(by omega);have hd8:d<=8:=(by omega);have hd8I:(d:Int)<=8:=(by omega);have hd5:d<=c5:=(by omega);have hy1:decide ((0:Int)<=(d:Int))=true:=(by simp);have HOd:=qcs ks.length d (by omega) HOr.out;have hP9:=HPs.out.mono HBr.out;have n63:d+ps.length<=maxLen:=Xf (show d+ps.length<=9 by omega) (by decide);have n16:(d+ps.length)*16<=140737488355328:=(by omega);have hL9:w3.heap.size<=wr.heap.size:=Xf (HOr.out.lt g rfl).1 (Nat.le_of_lt (HOr.out.lt g rfl).2);have htl:(S.take d).length=d:=(by rw[List.length_take];omega);have HR9:Hid (res=if d+ps.length<=8 then some (L,S.take d++ps) else none):=by
    have:=HR.out.trans (Qdf HT9.out);rwa [List.length_append,htl]at this
   clear hrel2 hd HT9 HR hmn;go_upto_region 24 with(first|(at_builtin;go_must (refine qg rfl _ _ rfl w3.heap.size _ d ((S.take d).map Value.string) rfl HOd _ ps rfl hP9 n63 n16 hL9 ?_);intro vA wA hoA hgA _))
   obtain⟨aA,cA,rfl⟩:=qe hoA;have TA:=HTr.out.grown hgA (fun g e=>Xf hlow5 (HOd.lt g e).1);have TB:=TA.alloc (.cells #[] 9);have hoN:(wA.alloc (.cells #[] 9)).ownsRow wA.heap.size 9 1 (.slice (some ⟨wA.heap.size,0,none⟩) 0 0) 0 []:=ZT wA wA.heap.size Xl;have hFB:=(HF.out _ TB.below).1;have l63:0+L.length<=maxLen:=Xf (show 0+L.length<=8 by omega) (by decide);have l16:(0+L.length)*16<=140737488355328:=(by omega);have hLB:wA.heap.size<=(wA.alloc (.cells #[] 9)).heap.size:=(by rw[World.size_alloc];exact Nat.le_succ _);have hloA:=TA.low;clear q0 q1 q2 q3 q4 q5 g0 g1 r0 r1 z0 z1 TA n63 n16 hP9 HOd hgA hL9;obtain⟨⟨q0,q1,q2,q3,q4,q5⟩,g0,g1,_,_⟩:=TB.cells;have HTB:=Xh TB;have HoA:=Xh hoA;clear TB hoA;by_cases h8:d+ps.length<=8
   ·have h8I:(d:Int)+(ps.length:Int)<=8:=(by omega);have HN:Hid (res=some (L,S.take d++ps)):=HR9.out.trans (if_pos h8);go_wp2_with (first|(at_builtin;go_must (refine qg rfl _ _ rfl wA.heap.size _ 0 [] rfl hoN _ L rfl hFB l63 l16 hLB ?_);intro vB wB hoB hgB _;obtain⟨aB,cB,rfl,TC,HFr⟩:=Qcs HTB.out HoA.out hgB hoN hoB hloA htl;obtain⟨_,_,_,r0,r1⟩:=TC.cells;(have z0:=TC.res.frozen 0);(have z1:=TC.res.frozen 1);(have HTC:=Xh TC);clear TC hgB hoB))
    exact bodyPost_ret (v:=.tuple #[.agg #[.slice aB L.length cB,.slice aA (d+ps.length) cA],.bool true]) (by simp[results,Tryz.results16,go_sem, *]) rfl (ql.yes HN.out (HTC.out.put _ _) (HFr.out _ _))
   ·have h8I:¬(d:Int)+(ps.length:Int)<=8:=(by omega);have HN:Hid (res=none):=HR9.out.trans (if_neg h8);go_wp2_with (first|(at_builtin;go_must (refine qg rfl _ _ rfl wA.heap.size _ 0 [] rfl hoN _ L rfl hFB l63 l16 hLB ?_);intro vB wB hoB hgB _;obtain⟨aB,cB,rfl,TC,HFr⟩:=Qcs HTB.out HoA.out hgB hoN hoB hloA htl;obtain⟨_,_,_,r0,r1⟩:=TC.cells;(have z0:=TC.res.frozen 0);(have z1:=TC.res.frozen 1);(have HTC:=Xh TC);clear TC hgB hoB HFr))
    exact bodyPost_ret (v:=.tuple #[.agg #[.slice aB L.length cB,.slice aA (d+ps.length) cA],.bool false]) (by simp[results,Tryz.results16,go_sem, *]) rfl (ql.no HN.out (HTC.out.put _ _))
set_option maxRecDepth 512
theorem zcL(l:List Qb)(lv:Value)(hR:Qj l)(hcf:∀c∈l,qd c=0)(w:World)(hlv:qi w lv l)(qb Zb:Str)(op a b:Int)(type cls name:Str)(L S:List Str)(f1 f2:Value)(hf:zk w f1 f2 ⟨L,S⟩)(hz:zz (Za l) ⟨L,S⟩=0)(hty:type.size<=1048576)(hcl:cls.size<=4194304)(hgs:Zb.size<=maxLen)(hx:Zi ⟨op,a,b,type,cls,name⟩=0):
 Calls Tryz.prog 16 #[lv,.string qb,.string Zb,.agg #[.int .i64 op,.int .i64 a,.int .i64 b,.string type,.string cls,.string name],.agg #[f1,f2]] w (ql w (zq (Za l) qb Zb ⟨op,a,b,type,cls,name⟩ L S)):=by
 by_cases hop:Q9 op
 ·exact QcX l lv hR hcf w hlv qb Zb op a b type cls name L S f1 f2 hf hz hty hx hop
 ·exact qch l lv hR hcf w hlv qb Zb op a b type cls name L S f1 f2 hf hz hty hcl hgs hx hop
end Go.Proofs.YtlmfmioljeppfaaGreatDoor
