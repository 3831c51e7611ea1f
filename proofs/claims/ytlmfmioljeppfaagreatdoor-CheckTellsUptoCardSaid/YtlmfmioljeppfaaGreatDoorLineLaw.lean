/- Lemmas; conditions: as each states. -/
import Derived.Test.YtlmfmioljeppfaaGreatDoorRead
set_option maxHeartbeats 4000000
namespace Go.Proofs.YtlmfmioljeppfaaGreatDoor
open Go.RowKit Go.Shelf Go.Lib
theorem Zc7(more:List Str):∀out:List Str,∃t,Qaa out more=out++t/\(∀x∈more,x∈out++t)/\(∀x∈t,x∈more):=by
 induction more with
 |nil =>
  intro out;refine⟨[],by simp[Qaa],?_,?_⟩
  ·intro x hx;cases hx
  ·intro x hx;cases hx
 |cons a r ih =>
  intro out;rw[Qa0];cases hm:ZL out a with
  |true =>
   rw[if_pos rfl];obtain⟨t,h1,h2,h3⟩:=ih out;refine⟨t,h1,fun x hx=>?_,fun x hx=>List.mem_cons_of_mem _ (h3 x hx)⟩;rcases List.mem_cons.1 hx with rfl|hx
   ·exact List.mem_append_left _ (qx.1 hm)
   ·exact h2 x hx
  |false =>
   rw[if_neg (by decide)];obtain⟨t,h1,h2,h3⟩:=ih (out++[a]);refine⟨a::t,by rw[h1];simp,fun x hx=>?_,fun x hx=>?_⟩
   ·rcases List.mem_cons.1 hx with rfl|hx
    ·simp
    ·have:=h2 x hx;simpa using this
   ·rcases List.mem_cons.1 hx with rfl|hx
    ·simp
    ·exact List.mem_cons_of_mem _ (h3 x hx)
theorem qaz.addAll{cs:List Qb}(more:List Str):∀out:List Str,qaz cs out->(∀x∈more,(Qc cs x).isSome=true)->qaz cs (Qaa out more):=by
 induction more with
 |nil=>intro out h _;exact h
 |cons a r ih =>
  intro out h hk;rw[Qa0];cases hm:ZL out a with
  |true=>rw[if_pos rfl];exact ih out h (fun x hx=>hk x (List.mem_cons_of_mem _ hx))
  |false=>rw[if_neg (by decide)];exact ih _ (h.add (hk a (by simp)) hm) (fun x hx=>hk x (List.mem_cons_of_mem _ hx))
theorem zbM{cs:List Qb}(hcl:zay cs):∀(f i:Nat) (out:List Str),qaz cs out->cs.length+1<=f+i->(∀j x,j<i->out[j]? = some x->∀a∈Qo cs x,a∈out) ->
 qaz cs (qaa (Qo cs) f i out)/\(∀x∈out,x∈qaa (Qo cs) f i out)/\(∀x∈qaa (Qo cs) f i out,∀a∈Qo cs x,a∈qaa (Qo cs) f i out) /\
  (∀S:Str->Prop,(∀x,S x->∀a∈Qo cs x,S a)->(∀x∈out,S x)->∀x∈qaa (Qo cs) f i out,S x):=by
 intro f;induction f with
 |zero =>
  intro i out hg hf hj;refine⟨hg,fun x hx=>hx,fun x hx a ha=>?_,fun S _ h2 x hx=>h2 x hx⟩;replace hx:x∈out:=hx;obtain⟨j,hjl,rfl⟩:=List.getElem_of_mem hx;have:=hg.length;exact hj j _ (by omega) (Xn hjl) a ha
 |succ f ih =>
  intro i out hg hf hj;cases hx:out[i]? with
  |none =>
   rw[za1 hx];refine⟨hg,fun x hx=>hx,fun x hx' a ha=>?_,fun S _ h2 x hx=>h2 x hx⟩;obtain⟨j,hjl,rfl⟩:=List.getElem_of_mem hx';rw[List.getElem?_eq_none_iff]at hx;exact hj j _ (by omega) (Xn hjl) a ha
  |some x =>
   rw[Za1 hx];obtain⟨t,h1,h2,h3⟩:=Zc7 (Qo cs x) out;have hgx:=hg.known x (Xe hx);obtain⟨g1,g2,g3,g4⟩:=ih (i+1) (Qaa out (Qo cs x)) (qaz.addAll _ _ hg (hcl x hgx)) (by omega) (by
    intro j y hji hy a ha;rw[h1]at hy ⊢;have hil:=(List.getElem?_eq_some_iff.1 hx).1;rw[List.getElem?_append_left (by omega)]at hy;by_cases hij:j<i
    ·exact List.mem_append_left _ (hj j y hij hy a ha)
    ·obtain rfl:j=i:=(by omega);rw[hx]at hy;injection hy with hy;subst hy
     exact h2 a ha)
   refine⟨g1,fun y hy=>g2 y (by rw[h1];exact List.mem_append_left _ hy),g3,fun S hS hO y hy=>g4 S hS (fun z hz=>?_) y hy⟩;rw[h1]at hz;rcases List.mem_append.1 hz with hz|hz
   ·exact hO z hz
   ·exact hS x (hO x (Xe hx)) z (h3 z hz)
theorem Qn{cs:List Qb}(hcl:zay cs){n:Str}(hk:(Qc cs n).isSome=true):
 qaz cs (Qk cs n)/\n∈Qk cs n/\(∀x∈Qk cs n,∀a∈Qo cs x,a∈Qk cs n) /\
  (∀S:Str->Prop,(∀x,S x->∀a∈Qo cs x,S a)->S n->∀x∈Qk cs n,S x):=by
 obtain⟨h1,h2,h3,h4⟩:=zbM hcl (cs.length+1) 0 [n] (qaz.one hk) (by omega) (fun j x hj=>by omega);exact⟨h1,h2 n (by simp),h3,fun S hS hn x hx=>h4 S hS (fun y hy=>by simp at hy;subst hy;exact hn) x hx⟩
structure Qj (l:List Qb):Prop where
 nodup:((Za l).map (·.name)).Nodup
 closed:zay (Za l)
 joined:∀c∈l,qv (Za l) c=0
 round:∀c∈l,ZR (Za l) c.name=false
 length:l.length<=10
theorem qc7:∀(r a:List Qb),((Za a).map (·.name)).Nodup->Qf Zv a r=0->((Za (a++r)).map (·.name)).Nodup:=by
 intro r;induction r with
 |nil=>intro a ha _;simpa using ha
 |cons c r ih =>
  intro a ha h;rw[Qf]at h;by_cases h0:Zv c a=0
  ·rw[if_pos h0]at h;have hnone:Qc (Za a) c.name=none:=by
    unfold Zv at h0;by_cases hc:qd c≠0
    ·rw[if_pos hc]at h0;exact absurd h0 hc
    ·rw[if_neg hc]at h0;cases hq:Qc (Za a) c.name with
     |none=>rfl
     |some d=>rw[hq]at h0;cases h0
   have:=ih (a++[c]) (by
    have:=zaO ha hnone;simpa[Za] using this) h
   simpa using this
  ·rw[if_neg h0]at h;exact absurd h h0
theorem Qal{l:List Qb}(h:Zj l=0):Qj l:=by
 unfold Zj at h;split at h
 ·cases h
 ·rename_i h10;split at h
  ·rename_i h1;exact absurd h h1
  ·rename_i h1;split at h
   ·rename_i h2;exact absurd h h2
   ·rename_i h2;split at h
    ·cases h
    ·rename_i h3;have h1':Qf Zv [] l=0:=(by simpa using h1);have h2':Zh (qv (Za l)) l=0:=(by simpa using h2);have hj:=Q2 h2';refine⟨by simpa using qc7 l [] qa1 h1',Qa7 hj,hj,?_,by omega⟩;rw[Bool.not_eq_true,List.any_eq_false]at h3;intro c hc;simpa using h3 c hc
theorem Qj.find{l:List Qb}(h:Qj l){c:Qb}(hc:c∈Za l):Qc (Za l) c.name=some c:=by
 obtain⟨i,hi,rfl⟩:=List.getElem_of_mem hc;unfold Qc;rw[List.find?_eq_some_iff_getElem];refine⟨by simp,i,hi,rfl,fun j hj=>?_⟩;have:=List.pairwise_iff_getElem.1 h.nodup j i (by simp;omega) (by simp;omega) hj;simpa using this
theorem Qj.super{l:List Qb}(h:Qj l){n:Str}(hk:(Qc (Za l) n).isSome=true)(hn:n≠Zg):∃s,s∈Qo (Za l) n/\(n=zC/\s=Zg\/∃c∈l,c.name=n):=by
 obtain⟨c,hc,rfl⟩:=Zat hk;have hf:=h.find hc;unfold Za at hc;rcases List.mem_cons.1 hc with rfl|hc
 ·exact absurd rfl hn
 ·rcases List.mem_cons.1 hc with rfl|hc
  ·refine⟨Zg,?_,Or.inl ⟨rfl,rfl⟩⟩;unfold Qo;rw[hf];simp[QW,zg,Zg];decide
  ·refine⟨c.super,?_,Or.inr ⟨c,hc,rfl⟩⟩;have hj:=h.joined c hc;unfold Qo;rw[hf];simp only[Option.getD_some];have:c.super.size≠0:=by
    intro h0;unfold qv at hj;rw[if_pos h0]at hj;cases hj
   rw[if_neg this];simp
theorem zco{α:Type}[DecidableEq α]{l m:List α}{a:α}(hl:l.Nodup)(hs:∀x∈l,x∈m)(ha:a∈m)(hn:a∉l):l.length<m.length:=by
 have:=Zaz (a::l) m (List.nodup_cons.2 ⟨hn,hl⟩) (fun x hx=>by
  rcases List.mem_cons.1 hx with rfl|hx
  ·exact ha
  ·exact hs x hx)
 simp only[List.length_cons]at this;omega
theorem Qj.object{l:List Qb}(h:Qj l):∀(k:Nat) (n:Str),(Qc (Za l) n).isSome=true->(Qk (Za l) n).length<=k->Zg∈Qk (Za l) n:=by
 intro k;induction k with
 |zero =>
  intro n hk hl;obtain⟨_,h2,_,_⟩:=Qn h.closed hk;have:=List.length_pos_of_mem h2;omega
 |succ k ih =>
  intro n hk hl;by_cases hn:n=Zg
  ·subst hn;exact(Qn h.closed hk).2.1
  ·obtain⟨s,hs,hcase⟩:=h.super hk hn;obtain⟨g1,g2,g3,g4⟩:=Qn h.closed hk;have hsn:s∈Qk (Za l) n:=g3 n g2 s hs;rcases hcase with⟨_,rfl⟩|⟨c,hc,rfl⟩
   ·exact hsn
   ·have hks:=h.closed _ hk s hs;obtain⟨e1,e2,e3,e4⟩:=Qn h.closed hks;have hsub:∀x∈Qk (Za l) s,x∈Qk (Za l) c.name:=e4 _ (fun x hx a ha=>g3 x hx a ha) hsn;have hnot:c.name∉Qk (Za l) s:=by
     intro hin;have hr:=h.round c hc;unfold ZR at hr;rw[List.any_eq_false]at hr;have:=hr s hs;rw[qx.2 hin]at this;exact this rfl
    have hlt:=zco e1.nodup hsub g2 hnot;exact hsub _ (ih s hks (by omega))
def qh(cs:List Qb)(n:Str):Qb:=(Qc cs n).getD zg
def qad(cs:List Qb):Nat->Str->List Str
 |0,n=>[n]
 |k+1,n=>if (qh cs n).super.size=0 then [n] else n::qad cs k (qh cs n).super
def Zq(cs:List Qb)(n:Str):List Str:=qad cs (Qk cs n).length n
theorem Zbl(cs:List Qb)(k:Nat)(n:Str):qad cs k n=n::(qad cs k n).drop 1:=by
 cases k with
 |zero=>rfl
 |succ k=>rw[qad];split<;>rfl
theorem Qj.up{l:List Qb}(h:Qj l){n:Str}(hk:(Qc (Za l) n).isSome=true)(h0:(qh (Za l) n).super.size≠0):
 (Qc (Za l) (qh (Za l) n).super).isSome=true/\(Qk (Za l) (qh (Za l) n).super).length<(Qk (Za l) n).length:=by
 have hs:(qh (Za l) n).super∈Qo (Za l) n:=by unfold Qo qh at *;rw[if_neg h0];simp
 have hks:=h.closed _ hk _ hs;refine⟨hks,?_⟩;obtain⟨g1,g2,g3,g4⟩:=Qn h.closed hk;obtain⟨e1,e2,e3,e4⟩:=Qn h.closed hks;have hsn:=g3 n g2 _ hs;refine zco e1.nodup (e4 _ (fun x hx a ha=>g3 x hx a ha) hsn) g2 ?_;intro hin;by_cases hn:n=Zg
 ·subst hn;exact h0 (by simp[qh,Qc,Za,QN,zg])
 ·obtain⟨s,_,hc⟩:=h.super hk hn;rcases hc with⟨rfl,_⟩|⟨c,hc,rfl⟩
  ·have:(qh (Za l) zC).super=Zg:=by
    unfold qh;rw[show Qc (Za l) zC=some QW from h.find (c:=QW) (by simp[Za])];rfl
   rw[this]at hin;have hob:=e4 (fun x=>x=Zg) (fun x hx a ha=>by
    subst hx;exfalso;unfold Qo at ha;rw[show Qc (Za l) Zg=some QN from h.find (c:=QN) (by simp[Za])]at ha;simp[QN,zg]at ha) this
   have:=hob zC (by rw[this];exact hin);exact absurd this (by decide)
  ·have hr:=h.round c hc;unfold ZR at hr;rw[List.any_eq_false]at hr;have:=hr _ hs;rw[qx.2 hin]at this;exact this rfl
theorem qdR{w:World}{b:Nat}{a0 a1 a2 a3 a4 a5:Value}(h:qG w b 0 [a0,a1,a2,a3,a4,a5]):
 w.cell? ⟨b,0,none⟩=some a0/\w.cell? ⟨b,1,none⟩=some a1/\w.cell? ⟨b,2,none⟩=some a2/\w.cell? ⟨b,3,none⟩=some a3/\w.cell? ⟨b,4,none⟩=some a4/\w.cell? ⟨b,5,none⟩=some a5:=by
 obtain⟨c0,c1,c2,c3,c4,c5,_⟩:=h;exact⟨c0,c1,c2,c3,c4,c5⟩
theorem qG.block{w w':World}{b:Nat}(hb:w'.heap[b]? = w.heap[b]?):∀{vs:List Value} {o:Nat},qG w b o vs->qG w' b o vs
 |[],_,_=>trivial
 |_::_,o,⟨h1,h2⟩=>⟨(World.cell?_of_block (w:=w) (a:=⟨b,o,none⟩) hb).trans h1,h2.block hb⟩
theorem QdR{cs:List Qb}{f:Nat}{x:Str}(h:(qh cs x).super.size≠0):(qad cs (f+1) x).drop 1=qad cs f (qh cs x).super:=by
 rw[qad,if_neg h];rfl
theorem Qdw{cs:List Qb}{f:Nat}{x:Str}(h:(qh cs x).super.size=0):(qad cs f x).drop 1=[]:=by
 cases f with
 |zero=>rfl
 |succ f=>rw[qad,if_pos h];rfl
set_option maxRecDepth 100000
theorem qbq(w0 w:World)(B:Nat)(l:List Qb)(hR:Qj l)(hm:Zp w0 w B (Za l))(n:Str)(hk:(Qc (Za l) n).isSome=true):
 Calls Tryz.prog 190 #[.map (some B),.string n] w fun e w'=>(∃v,e=.returned v/\w'.ownsRow w.heap.size 9 1 v (Zq (Za l) n).length ((Zq (Za l) n).map Value.string))/\Below w.heap.size w w':=by
 obtain⟨i0,hi,hz0,hz1,hz2⟩:=info_parts qO;have HLk:Hid (∀n:Str,(Qc (Za l) n).isSome=true->_):=fun n hn=>hm.look3 hR.nodup n (hm.names hn)
 have hUp:Hid (∀n:Str,(Qc (Za l) n).isSome=true->(qh (Za l) n).super.size≠0->_):=fun n h1 h2=>hR.up h1 h2
 have h12:(Za l).length<=12:=by have:=hR.length;unfold Za;simp;omega
 have hEv:Hid (∀n:Str,(Qc (Za l) n).isSome=true->(Qk (Za l) n).length<=12):=fun n hn=>Xf (Qn hR.closed hn).1.length h12
 have hone:(w.alloc (.cells #[.string n] 9)).ownsRow w.heap.size 9 1 (.slice (some ⟨w.heap.size,0,none⟩) 1 1) 1 [.string n]:=QY w w.heap.size (.string n) Xl;obtain⟨pf,kf,pd,kd,pm,km,_,_,_,hlk⟩:=HLk.out n hk;have l0:=(hlk _ (Xb.alloc Xl (.cells #[.string n] 9))).2;have HK:=Xh hk;clear hm hR hlk hk;have hc0:(Qc (Za l) n).getD zg=qh (Za l) n:=rfl;rw[hc0]at l0;have hcn:=Xh (rfl:qh (Za l) n=qh (Za l) n);generalize hcv:qh (Za l) n=c0 at l0 hcn;obtain⟨n0,s0,f0,b0,d0,m0⟩:=c0;have HCV:=Xh hcv;clear hcv hc0;unfold Qz at l0;dsimp only at l0;go_enter Tryz.func190,Tryz.ntmps190;go_wp2_with fail;go_loopg [5,6] 13 (fun gg v y wr=>∃(x:Str) (f:Nat) (out:List Str) (bc:Nat) (pf:Option Addr) (kf:Nat) (pd:Option Addr) (kd:Nat) (pm:Option Addr) (km:Nat) (c:Qb),f<=gg/\Hid (out++(qad (Za l) f x).drop 1=Zq (Za l) n)/\Hid ((Qc (Za l) x).isSome=true)/\Hid ((Qk (Za l) x).length<=f)/\out.length+f<=13/\wr.ownsRow w.heap.size 9 1 v out.length (out.map Value.string)/\(∀g,v.ownBlock=some g->g<bc)/\Below w.heap.size w wr/\bc<wr.heap.size/\qG wr bc 0 [.string c.name,.string c.super,.slice pf c.faces.length kf,.bool c.face,.slice pd c.fields.length kd,.slice pm c.methods.length km]/\Hid (qh (Za l) x=c)/\y=.pointer (some ⟨bc,0,none⟩))
 case atStart =>
  have h1:=hEv.out n HK.out;refine⟨n,(Qk (Za l) n).length,[n],w.heap.size+1,pf,kf,pd,kd,pm,km,_,by omega,?_,HK,Xl,by simp;omega,hone.alloc _,?_,QQ _ _ _,by simp,by simp[qG],HCV,by simp⟩
  ·unfold Zq;rw[List.singleton_append,<-Zbl];rfl
  ·intro g hg;obtain rfl:w.heap.size=g:=(by injection hg);exact Nat.lt_succ_self _
 case round =>
  clear hone l0 HCV HK;obtain⟨x,f,out,bc,pf,kf,pd,kd,pm,km,c,hfg,HR,HKx,HE,hlen,hown,hsep,hB,hbc,qc,HC,rfl⟩:=hrel;obtain⟨va,vc,rfl⟩:=qe hown;obtain⟨z0,z1,z2,z3,z4,z5⟩:=qdR qc;have ze:c.super.toList.isEmpty=decide (c.super.size=0):=ZD c.super;by_cases h0:c.super.size=0
  ·rw[Xj h0]at ze;have hfin:Hid (out=Zq (Za l) n):=by
    rw[<-HR.out,Qdw (by rw[HC.out];exact h0),List.append_nil];rfl
   have HO:=Xh hown;clear h0 hown qc hsep HR;go_wp2_with fail;go_ret;exact⟨⟨_,rfl,by rw[<-hfin.out];exact HO.out⟩,hB⟩
  ·rw[Xi h0]at ze;obtain⟨hk2,hlt2⟩:=hUp.out x HKx.out (by rw[HC.out];exact h0);rw[HC.out]at hk2 hlt2;have hE:=HE.out;obtain⟨f',rfl⟩:∃f',f=f'+1:=⟨f-1,by omega⟩;have hR2:=HR.out;rw[QdR (by rw[HC.out];exact h0),HC,Zbl]at hR2;have hnext:Hid ((out++[c.super])++(qad (Za l) f' c.super).drop 1=Zq (Za l) n):=by
    rw[List.append_assoc];exact hR2
   obtain⟨p1,k1,p2,k2,p3,k3,_,_,_,hlk⟩:=HLk.out c.super hk2;have c2:∀u∈[Value.string c.super],u.oneCell'=true:=fun u hu=>by simp at hu;subst hu;rfl
   have c3:out.length+1<=maxLen:=Xf (show out.length+1<=14 by omega) (by decide);have c4:(out.length+1)*16<=140737488355328:=(by omega);have hBa:=hB.alloc hB.size (.cells #[.string c.super] 9);have c5:=hBa.size;have HO:=Xh hown;have HS:=Xh hsep;have HCe:=Xh qc;have HLK:=Xh hlk;clear hlk hsep qc h0 HR hR2;go_upto_region 6 with(at_builtin;(refine wpList_append_own_at _ rfl _ _ 25 rfl w.heap.size 9 i0 (.string .empty) 1 16 Tryz.underlying25 hi hz0 hz1 hz2 rfl (by decide) _ _ _ rfl (hown.alloc _) ⟨wr.heap.size,0,none⟩ 1 1 [.string c.super] rfl rfl (cell_one_new _ _ _) c2 c3 c4 c5 ?_);intro v3 w3 hown3 hgrow3 _ hat3)
   have hown4:w3.ownsRow w.heap.size 9 1 v3 (out++[c.super]).length ((out++[c.super]).map Value.string):=(by simpa using hown3);have hB3:Below w.heap.size w w3:=hBa.grown hgrow3 c5 (fun k hk=>(HO.out.lt k hk).1);have hz3:qG w3 bc 0 [.string c.name,.string c.super,.slice pf c.faces.length kf,.bool c.face,.slice pd c.fields.length kd,.slice pm c.methods.length km]:=by
    refine qG.block (hgrow3.block bc (by simp;omega) (fun he=>?_)) (HCe.out.mono (Xb.alloc Xl _) hbc);have:=HS.out bc he.symm;omega
   obtain⟨y0,y1,y2,y3,y4,y5⟩:=qdR hz3;have hl4:=(HLK.out _ (hB3.alloc hB3.size (.cells #[.string c.name,.string c.super,.slice pf c.faces.length kf,.bool c.face,.slice pd c.fields.length kd,.slice pm c.methods.length km] 36))).2;have hc2:(Qc (Za l) c.super).getD zg=qh (Za l) c.super:=rfl;rw[hc2]at hl4;generalize hcv2:qh (Za l) c.super=d at hl4;have HD:=Xh hcv2;obtain⟨n2,s2,f2,b2,d2,m2⟩:=d;clear hcv2 hc2;unfold Qz at hl4;dsimp only at hl4;have hown5:=hown4.alloc (.cells #[.string n2,.string s2,.slice p1 f2.length k1,.bool b2,.slice p2 d2.length k2,.slice p3 m2.length k3] 36);have HB5:=Xh (hB3.alloc hB3.size (.cells #[.string n2,.string s2,.slice p1 f2.length k1,.bool b2,.slice p2 d2.length k2,.slice p3 m2.length k3] 36));have HO5:=Xh hown5;have HO4:=Xh hown4;clear hown5 hown4 hown3 hz3 z0 z1 z2 z3 z4 z5 hown;go_wp2_with fail;go_roundg f'
   case measure=>omega
   case rel =>
    refine⟨c.super,f',out++[c.super],w3.heap.size,p1,k1,p2,k2,p3,k3,_,Xl,hnext,hk2,?_,by simp;omega,HO5,?_,HB5,by simp,by simp[qG],HD,rfl⟩
    ·show(Qk (Za l) c.super).length<=f';omega
    ·intro g hg;exact(HO4.out.lt g hg).2
set_option maxRecDepth 512
structure Qeg (w0:World) (l:List Qb) (n:Str) (w:World) (B:Nat):Prop where
 map:Zp w0 w B (Za l)
 right:Qj l
 faults:∀c∈l,qd c=0
 known:(Qc (Za l) n).isSome=true
structure Qw (w0 w:World) (B:Nat) (l:List Qb):Prop where
 map:Zp w0 w B (Za l)
 right:Qj l
 faults:∀c∈l,qd c=0
theorem Qw.faces{w0 w:World}{B:Nat}{l:List Qb}(h:Qw w0 w B l):∀c∈Za l,c.faces.length<=8:=zb7 h.faults
theorem Qw.step{w0 w w':World}{B:Nat}{l:List Qb}(h:Qw w0 w B l)(hb:Below w.heap.size w w'):Qw w0 w' B l:=⟨h.map.step hb,h.right,h.faults⟩
theorem Qeg.world{w0 w:World}{B:Nat}{l:List Qb}{n:Str}(h:Qeg w0 l n w B):Qw w0 w B l:=⟨h.map,h.right,h.faults⟩
theorem Qj.small{l:List Qb}(h:Qj l):(Za l).length<=12:=by have:=h.length;unfold Za;simp;omega
theorem zdx(a:Str)(l:List Str)(x:Str):ZL (a::l) x=(decide (a=x)||ZL l x):=rfl
theorem Zdx(l:List Str)(k:Nat)(a x:Str)(h:l[k]? = some a):ZL (l.drop k) x=(decide (a=x)||ZL (l.drop (k+1)) x):=by
 obtain⟨hk,rfl⟩:=List.getElem?_eq_some_iff.1 h;rw[List.drop_eq_getElem_cons hk,zdx]
theorem qbk(l:List Str)(v:Value)(x:Str)(w:World)(h:Qh w v l):Calls Tryz.prog 38 #[v,.string x] w fun e w'=>e=.returned (.bool (ZL l x))/\w=w':=by
 obtain⟨p,cap,rfl,h1,h2,hcc⟩:=h.open;have HC:=Xh hcc;have hlen:l.length<=9223372036854775807:=Xf h1 h2;clear h hcc;go_enter Tryz.func38,Tryz.ntmps38;go_wp2_with fail;go_loopw [5] (fun i wr=>∃k:Nat,k<=l.length/\Hid (ZL (l.drop k) x=ZL l x)/\w=wr/\i=.int .i64 k) (fun i _=>l.length-(intOf i).toNat)
 case atStart=>exact⟨0,by omega,rfl,rfl,rfl⟩
 case round =>
  obtain⟨k,hk,hff,rfl,rfl⟩:=hrel;by_cases hkl:k<l.length
  ·obtain⟨a,ha⟩:∃a,l[k]? = some a:=⟨l[k],by simp[hkl]⟩;obtain⟨b,o,vs,rfl,hR,_,qc⟩:=HC.out k a ha;unfold zr at hR;subst hR;have c0:=qc.1;rw[Nat.mul_one]at c0;have Zc:=Zdx l k a x ha;rw[hff.out,<-Z5]at Zc;have HX:=Xh ha;clear ha qc;cases he:a.toList==x.toList with
   |true =>
    rw[he,Bool.true_or]at Zc;have HS:=Xh Zc;clear Zc;go_wp2_with fail;go_ret;exact⟨by rw[HS.out];rfl,rfl⟩
   |false =>
    rw[he,Bool.false_or]at Zc;have hst:=Xh Zc.symm;clear Zc;go_wp2_with fail;go_roundw;case rel=>exact⟨k+1,by omega,hst.out,by simp,by simp⟩
    case measure=>simp[intOf];omega
  ·obtain rfl:k=l.length:=(by omega);have hno:ZL l x=false:=(by rw[<-hff.out,Xg Xl];rfl);have HS:=Xh hno;clear hno;go_wp2_with fail;go_ret;exact⟨by rw[HS.out];rfl,rfl⟩
theorem Qbj(a b:List Str)(_hl:a.length=b.length)(k:Nat)(x y:Str)(ha:a[k]? = some x)(hb:b[k]? = some y):decide (a.drop k=b.drop k)=(decide (x=y)&&decide (a.drop (k+1)=b.drop (k+1))):=by
 obtain⟨hk,rfl⟩:=List.getElem?_eq_some_iff.1 ha;obtain⟨hk2,rfl⟩:=List.getElem?_eq_some_iff.1 hb;rw[List.drop_eq_getElem_cons hk,List.drop_eq_getElem_cons hk2,Bool.eq_iff_iff];simp only[decide_eq_true_eq,Bool.and_eq_true,List.cons.injEq]
theorem qcl(a b:List Str)(va vb:Value)(w:World)(ha:Qh w va a)(hb:Qh w vb b):Calls Tryz.prog 55 #[va,vb] w fun e w'=>e=.returned (.bool (decide (a=b)))/\Below w.heap.size w w':=by
 obtain⟨p,cap,rfl,h1,h2,hcc⟩:=ha.open;obtain⟨q,cbp,rfl,k1,k2,hdd⟩:=hb.open;have HC:=Xh hcc;have HD:=Xh hdd;have hlen:a.length<=9223372036854775807:=Xf h1 h2;clear ha hb hcc hdd;by_cases hl:a.length=b.length
 ·have hl':((a.length:Int) != (b.length:Int))=false:=by simp[hl]
  go_enter Tryz.func55,Tryz.ntmps55;go_wp2_with fail;all_goals first|(exfalso;omega)|skip
  go_loopw [5] (fun i wr=>∃k:Nat,k<=a.length/\Hid (decide (a.drop k=b.drop k)=decide (a=b))/\Below w.heap.size w wr/\i=.int .i64 k) (fun i _=>a.length-(intOf i).toNat)
  case atStart=>exact⟨0,by omega,rfl,Xb,rfl⟩
  case round =>
   obtain⟨k,hk,hff,hB,rfl⟩:=hrel;by_cases hkl:k<a.length
   ·obtain⟨x,hx⟩:∃x,a[k]? = some x:=⟨a[k],by simp[hkl]⟩;obtain⟨y,hy⟩:∃y,b[k]? = some y:=⟨b[k]'(by omega),by simp[<-hl,hkl]⟩;obtain⟨b1,o1,vs,rfl,hR,_,qc⟩:=HC.out k x hx;unfold zr at hR;subst hR;obtain⟨b2,o2,vs,rfl,hR,_,hcellt⟩:=HD.out k y hy;unfold zr at hR;subst hR;have c0:=(qc.mono hB qc.lt).1;have d0:=(hcellt.mono hB hcellt.lt).1;rw[Nat.mul_one]at c0 d0;have Zc:=Qbj a b hl k x y hx hy;rw[hff.out,<-Z5]at Zc;have HX:=Xh hx;have hkb:k<b.length:=(by omega);clear hx hy qc hcellt;cases he:x.toList==y.toList with
    |true =>
     rw[he,Bool.true_and]at Zc;have hst:=Xh Zc.symm;clear Zc;go_upto_region 6 with fail;go_quiet (fail);go_wp2
     go_roundw;case rel=>exact⟨k+1,by omega,hst.out,⟨hB.os,hB.tape,hB.output,hB.size,hB.block⟩,by simp⟩
     case measure=>simp[intOf];omega
    |false =>
     rw[he,Bool.false_and]at Zc;have HS:=Xh Zc;clear Zc;go_upto_region 6 with fail;go_quiet (fail);go_wp2
     go_ret;exact⟨by rw[HS.out];rfl,⟨hB.os,hB.tape,hB.output,hB.size,hB.block⟩⟩
   ·obtain rfl:k=a.length:=(by omega);have hyes:decide (a=b)=true:=(by rw[<-hff.out,Xg Xl,Xg (by omega)];rfl);have HS:=Xh hyes;clear hyes;go_wp2_with fail;go_ret;exact⟨by rw[HS.out];rfl,hB⟩
 ·have hne:decide (a=b)=false:=by simpa using fun h=>hl (by rw[h])
  have hl':((a.length:Int) != (b.length:Int))=true:=by simp;omega
  rw[hne];go_enter Tryz.func55,Tryz.ntmps55;go_wp2_with fail;all_goals first|(exfalso;omega)|skip
  go_ret;exact⟨rfl,Xb⟩
theorem Qbl{cs:List Qb}{f:Nat}{x:Str}(h:(qh cs x).super.size≠0):qad cs (f+1) x=x::qad cs f (qh cs x).super:=by
 rw[qad,if_neg h]
theorem zbm{cs:List Qb}{f:Nat}{x:Str}(h:(qh cs x).super.size=0):qad cs f x=[x]:=by
 cases f with
 |zero=>rfl
 |succ f=>rw[qad,if_pos h]
theorem Qj.fuel2{l:List Qb}(h:Qj l):∀(f g:Nat) (x:Str),(Qc (Za l) x).isSome=true->(Qk (Za l) x).length<=f->(Qk (Za l) x).length<=g->qad (Za l) f x=qad (Za l) g x:=by
 intro f;induction f with
 |zero =>
  intro g x hk hf _;have:=List.length_pos_of_mem (Qn h.closed hk).2.1;omega
 |succ f ih =>
  intro g x hk hf hg;have hpos:=List.length_pos_of_mem (Qn h.closed hk).2.1;by_cases h0:(qh (Za l) x).super.size=0
  ·rw[zbm h0,zbm h0]
  ·obtain⟨hks,hlt⟩:=h.up hk h0;obtain⟨g',rfl⟩:∃k,g=k+1:=⟨g-1,by omega⟩;rw[Qbl h0,Qbl h0,ih g' _ hks (by omega) (by omega)]
theorem Qj.fuel{l:List Qb}(h:Qj l)(f:Nat)(x:Str)(hk:(Qc (Za l) x).isSome=true)(hf:(Qk (Za l) x).length<=f):qad (Za l) f x=Zq (Za l) x :=
 h.fuel2 f _ x hk hf Xl
theorem Qj.line_up{l:List Qb}(h:Qj l){x:Str}(hk:(Qc (Za l) x).isSome=true)(h0:(qh (Za l) x).super.size≠0):Zq (Za l) x=x::Zq (Za l) (qh (Za l) x).super:=by
 obtain⟨hks,hlt⟩:=h.up hk h0;obtain⟨k,hkk⟩:∃k,(Qk (Za l) x).length=k+1:=⟨(Qk (Za l) x).length-1,by omega⟩;unfold Zq;rw[hkk,Qbl h0];congr 1;exact h.fuel k _ hks (by omega)
theorem Qj.line_top{l:List Qb}{x:Str}(h0:(qh (Za l) x).super.size=0):Zq (Za l) x=[x]:=by
 unfold Zq;rw[zbm h0]
theorem Qj.top{l:List Qb}(h:Qj l){x:Str}(hk:(Qc (Za l) x).isSome=true)(h0:(qh (Za l) x).super.size=0):x=Zg:=by
 by_cases hx:x=Zg
 ·exact hx
 ·exfalso;obtain⟨s,_,hc⟩:=h.super hk hx;rcases hc with⟨rfl,_⟩|⟨c,hc,rfl⟩
  ·have:qh (Za l) zC=QW:=by
    unfold qh;rw[show Qc (Za l) zC=some QW from h.find (c:=QW) (by simp[Za])];rfl
   rw[this]at h0;exact absurd h0 (by decide)
  ·have:qh (Za l) c.name=c:=by
    unfold qh;rw[h.find (c:=c) (by simp[Za,hc])];rfl
   rw[this]at h0;have hj:=h.joined c hc;unfold qv at hj;rw[if_pos h0]at hj;cases hj
theorem Qj.line_facts{l:List Qb}(h:Qj l):∀(k:Nat) (x:Str),(Qc (Za l) x).isSome=true->(Qk (Za l) x).length<=k ->
 (∀y∈Zq (Za l) x,y∈Qk (Za l) x)/\∃t,Zq (Za l) x=t++[Zg]:=by
 intro k;induction k with
 |zero =>
  intro x hk hf;have:=List.length_pos_of_mem (Qn h.closed hk).2.1;omega
 |succ k ih =>
  intro x hk hf;obtain⟨g1,g2,g3,g4⟩:=Qn h.closed hk;by_cases h0:(qh (Za l) x).super.size=0
  ·rw[Qj.line_top h0];refine⟨fun y hy=>?_,[],by rw[h.top hk h0];rfl⟩;simp at hy;subst hy;exact g2
  ·obtain⟨hks,hlt⟩:=h.up hk h0;have hs:(qh (Za l) x).super∈Qo (Za l) x:=(by unfold Qo qh at *;rw[if_neg h0];simp);obtain⟨i1,t,i2⟩:=ih _ hks (by omega);rw[h.line_up hk h0];refine⟨fun y hy=>?_,x::t,by rw[i2];rfl⟩;rcases List.mem_cons.1 hy with rfl|hy
   ·exact g2
   ·have hy2:=i1 y hy;exact(Qn h.closed hks).2.2.2 (fun z=>z∈Qk (Za l) x) (fun z hz a ha=>g3 z hz a ha) (g3 x g2 _ hs) y hy2
theorem QbZ(n s:Str)(fv dv mv:Value)(b:Bool)(w:World):(Instr.field 36 (.agg #[.string n,.string s,fv,.bool b,dv,mv]) 3).run Tryz.prog w=.ok (.bool b) w:=by kernel_rfl
theorem zcw(n s:Str)(fv mv:Value)(p:Option Addr)(k c:Nat)(b:Bool)(w:World):(Instr.field 36 (.agg #[.string n,.string s,fv,.bool b,.slice p k c,mv]) 4).run Tryz.prog w=.ok (.slice p k c) w:=by kernel_rfl
end Go.Proofs.YtlmfmioljeppfaaGreatDoor
