/- Lemmas; conditions: as each states. -/
import Derived.Test.YtlmfmioljeppfaaGreatDoorWorldMap
import Derived.Sort.OwnSorted
import Derived.Lib.OwnBridge
set_option maxHeartbeats 4000000
namespace Go.Proofs.YtlmfmioljeppfaaGreatDoor
open Go.RowKit Go.Shelf Go.Lib
def Qaa(out:List Str)(more:List Str):List Str:=more.foldl (fun o a=>if ZL o a then o else o++[a]) out
def qaa(ab:Str->List Str):Nat->Nat->List Str->List Str
 |0,_,out=>out
 |n+1,i,out =>
  match out[i]? with
  |none=>out
  |some x=>qaa ab n (i+1) (Qaa out (ab x))
def Qk(cs:List Qb)(n:Str):List Str:=qaa (Qo cs) (cs.length+1) 0 [n]
theorem Za1{ab:Str->List Str}{n i:Nat}{out:List Str}{x:Str}(h:out[i]? = some x):qaa ab (n+1) i out=qaa ab n (i+1) (Qaa out (ab x)):=by
 rw[qaa,h]
theorem za1{ab:Str->List Str}{n i:Nat}{out:List Str}(h:out[i]? = none):qaa ab n i out=out:=by
 cases n with
 |zero=>rfl
 |succ n=>rw[qaa,h]
theorem Qa0(out:List Str)(a:Str)(r:List Str):Qaa out (a::r)=Qaa (if ZL out a then out else out++[a]) r:=rfl
theorem ZbO(out:List Str)(l:List Str)(k:Nat)(x:Str)(h:l[k]? = some x):Qaa out (l.drop k)=Qaa (if ZL out x then out else out++[x]) (l.drop (k+1)):=by
 obtain⟨hk,rfl⟩:=List.getElem?_eq_some_iff.1 h;rw[List.drop_eq_getElem_cons hk,Qa0]
theorem Zaz{α:Type}[DecidableEq α]:∀(l m:List α),l.Nodup->(∀x∈l,x∈m)->l.length<=m.length
 |[],_,_,_=>Nat.zero_le _
 |a::r,m,hn,hs=>by
  have hm:a∈m:=hs a (by simp);rw[List.nodup_cons]at hn;have:=Zaz r (m.erase a) hn.2 (fun x hx=>by
   have hxm:=hs x (by simp[hx]);exact(List.mem_erase_of_ne (fun h=>hn.1 (by rw[<-h];exact hx))).2 hxm)
  rw[List.length_erase_of_mem hm]at this;have:=List.length_pos_of_mem hm;simp;omega
structure qaz (cs:List Qb) (out:List Str):Prop where
 nodup:out.Nodup
 known:∀x∈out,(Qc cs x).isSome=true
theorem Zat{cs:List Qb}{n:Str}(h:(Qc cs n).isSome=true):∃c∈cs,c.name=n:=by
 rw[Option.isSome_iff_exists]at h;obtain⟨c,hc⟩:=h;exact⟨c,List.mem_of_find?_eq_some hc,by simpa using List.find?_some hc⟩
theorem qaz.length{cs:List Qb}{out:List Str}(h:qaz cs out):out.length<=cs.length:=by
 have:=Zaz out (cs.map (·.name)) h.nodup (fun x hx=>by
  obtain⟨c,hc,rfl⟩:=Zat (h.known x hx);exact List.mem_map_of_mem hc)
 simpa using this
theorem qaz.add{cs:List Qb}{out:List Str}(h:qaz cs out){a:Str}(ha:(Qc cs a).isSome=true)(hm:ZL out a=false):qaz cs (out++[a]):=by
 refine⟨?_,fun x hx=>?_⟩
 ·rw[List.nodup_append];refine⟨h.nodup,by simp,fun x hx y hy=>?_⟩;simp at hy;subst hy;rintro rfl;rw[qx.2 hx]at hm;cases hm
 ·rcases List.mem_append.1 hx with hx|hx
  ·exact h.known x hx
  ·simp at hx;subst hx;exact ha
theorem qaz.one{cs:List Qb}{n:Str}(h:(Qc cs n).isSome=true):qaz cs [n]:=⟨by simp,fun x hx=>by simp at hx;subst hx;exact h⟩
def zay(cs:List Qb):Prop:=∀x,(Qc cs x).isSome=true->∀a∈Qo cs x,(Qc cs a).isSome=true
theorem Zp.names{w0 w:World}{B:Nat}{cs:List Qb}(h:Zp w0 w B cs){n:Str}(hn:(Qc cs n).isSome=true):n.size<=maxLen:=by
 obtain⟨c,hc,rfl⟩:=Zat hn;obtain⟨_,_,_,es,clock,_,hlen,hget⟩:=h;obtain⟨i,hi,rfl⟩:=List.getElem_of_mem hc;exact(hget i (es.toList[i]'(by omega)) cs[i] (Xn (by omega)) (Xn hi)).2.1
theorem Zp.grown{w0 w w':World}{B:Nat}{cs:List Qb}{row:Option Nat}(h:Zp w0 w B cs)(hg:w.grownBy w' row)(hr:∀g,row=some g->w0.heap.size<=g/\g≠B):Zp w0 w' B cs:=by
 obtain⟨h1,h2,h3,es,clock,h4,h5⟩:=h;exact⟨h1.grown hg h1.size (fun k hk=>(hr k hk).1),h2,Nat.lt_of_lt_of_le h3 hg.size,es,clock,(hg.block B h3 (fun he=>(hr B he.symm).2 rfl)).trans h4,h5⟩
theorem qbO{w:World}{base:Nat}{e:TypeId}{a:Option Addr}{n c:Nat}{xs:List Value}(h:w.ownsRow base e 1 (.slice a n c) n xs)(hn:0<n):∃g,a=some ⟨g,0,none⟩:=by
 rcases h.2 with⟨h1,h2⟩|⟨g,cap,cur,h1,_⟩
 ·omega
 ·injection h1 with h1;exact⟨g,h1⟩
theorem zbd{w:World}{base:Nat}{e:TypeId}{a:Option Addr}{n c:Nat}{l:List ByteArray}(h:w.ownsRow base e 1 (.slice a n c) l.length (l.map Value.string))(i:Nat)(x:ByteArray)(hx:l[i]? = some x):
 ∀g,a=some ⟨g,0,none⟩->w.cell? ⟨g,i,none⟩=some (.string x):=by
 rintro g rfl;obtain⟨p,cap,h1,_,_,h4⟩:=(Ze h).open;obtain⟨b,o,vs,hp,hR,_,hcl⟩:=h4 i x hx;injection h1 with h1
 rw[<-h1]at hp;injection hp with hp
 injection hp with hp1 hp2
 subst hp1 hp2;unfold zr at hR;subst hR;have:=hcl.1;rwa [Nat.mul_one,Nat.zero_add]at this
def qE(l:List Str):List Str:=((l.map (·.data.toList)).mergeSort fun x y=>decide (x<=y)).map fun x=>⟨x.toArray⟩
theorem Qbu(l:List Str):(qE l).length=l.length:=by simp[qE]
theorem zd0{w:World}{base:Nat}{a:Option Addr}{c:Nat}{l:List Str}(h:w.ownsRow base 9 1 (.slice a l.length c) l.length (l.map Value.string))(hl:l.length<4611686018427387904):
 Calls Tryz.prog 173 #[.slice a l.length c] w fun e w'=>e=.returned (.tuple #[])/\Qh w' (.slice a l.length c) (qE l)/\w.grownBy w' (Value.slice a l.length c).ownBlock:=by
 rcases h.2 with⟨h1,h2⟩|⟨g,cap,cur,hv,hbase,hb,k1,k2,k3,k4⟩
 ·obtain rfl:=List.length_eq_zero_iff.1 h2;injection h1 with h1 _ h3
  subst h1 h3;refine(Tryz.slices_Sort_string_none none 0 w).mono ?_;rintro e w'⟨rfl,rfl⟩;exact⟨rfl,Or.inl ⟨rfl,by simp[qE]⟩,World.grownBy.refl w' _⟩
 ·injection hv with hv1 _ hv3
  subst hv1 hv3;have hm:=Lib.map_encStr l;have hlen:(l.map (·.data.toList)).length=l.length:=by simp
  have hH:=holds_of_block (ss:=l.map (·.data.toList)) hb (by rw[hlen,hm];simpa using k4);have hc:=Tryz.slices_Sort_string g 0 c (l.map (·.data.toList)) w hH (Array.getElem?_eq_some_iff.1 hb).1 (by rw[hlen];exact hl);rw[hlen]at hc;refine hc.mono ?_;rintro e w'⟨rfl,n,os,rfl⟩;have ho:=ownsRow_sorted (n:=n) (os:=os) (ts:=(l.map (·.data.toList)).mergeSort fun x y=>decide (x<=y)) (ss:=l.map (·.data.toList)) (by simp) hbase hb (by rw[hlen];exact k1) k2 k3;rw[hlen]at ho;refine⟨rfl,?_,grownBy_sorted _⟩;have:(((l.map (·.data.toList)).mergeSort fun x y=>decide (x<=y)).map Proofs.encStr)=(qE l).map Value.string:=by
   unfold qE;rw[List.map_map];rfl
  rw[this]at ho;have h2:l.length=(qE l).length:=(Qbu l).symm;rw[h2]at ho ⊢;exact Ze ho
set_option maxRecDepth 100000
theorem qbD(w0 w:World)(B:Nat)(cs:List Qb)(hm:Zp w0 w B cs)(hn:(cs.map (·.name)).Nodup)(h8:∀c∈cs,c.faces.length<=8)(h12:cs.length<=12)(hcl:zay cs)(n:Str)(hk:(Qc cs n).isSome=true):
 Calls Tryz.prog 127 #[.map (some B),.string n] w fun e w'=>(∃v,e=.returned v/\Qh w' v (qE (Qk cs n)))/\Below w.heap.size w w':=by
 obtain⟨i0,hi,hz0,hz1,hz2⟩:=info_parts qO;have HAb:Hid (∀wr x,Below w.heap.size w wr->(Qc cs x).isSome=true->_):=fun wr x hb hx=>qcp w0 wr B cs (hm.step hb) hn h8 x (hm.names hx)
 have hone:(w.alloc (.cells #[.string n] 9)).ownsRow w.heap.size 9 1 (.slice (some ⟨w.heap.size,0,none⟩) 1 1) 1 [.string n]:=QY w w.heap.size (.string n) Xl;have hge:w0.heap.size<=w.heap.size:=hm.below.size;clear hm hn h8;have HCl:=Xh hcl;clear hcl;go_enter Tryz.func127,Tryz.ntmps127;go_wp2_with fail;go_loopw [5,6] (fun v x wr=>∃(i:Nat) (out:List Str),Hid (qaa (Qo cs) (cs.length+1-i) i out=Qk cs n)/\Hid (qaz cs out)/\wr.ownsRow w.heap.size 9 1 v out.length (out.map Value.string)/\Below w.heap.size w wr/\i<=13/\x=.int .i64 i) (fun _ x _=>14-(intOf x).toNat)
 case atStart=>exact⟨0,[n],rfl,qaz.one hk,hone,Xb.alloc Xl _,by omega,rfl⟩
 case round =>
  obtain⟨i,out,HR,HG,hown,hB,hi13,rfl⟩:=hrel;obtain⟨va,vc,rfl⟩:=qe hown;have hol:=Xf HG.out.length h12;by_cases hil:i<out.length
  ·obtain⟨x,hx⟩:∃x,out[i]? = some x:=⟨out[i],by simp[hil]⟩;have hkx:=HG.out.known x (Xe hx);have hrs:Hid (qaa (Qo cs) (cs.length+1-(i+1)) (i+1) (Qaa out (Qo cs x))=Qk cs n):=by
    have:=HR.out;have hle:=HG.out.length;rw[show cs.length+1-i=(cs.length-i)+1 by omega,Za1 hx]at this;rw[show cs.length+1-(i+1)=cs.length-i by omega];exact this
   have hknow:Hid (∀a∈Qo cs x,(Qc cs a).isSome=true):=HCl.out x hkx;have hcell:=zbd hown i x hx;obtain⟨g,rfl⟩:=qbO hown (by omega);have HAx:=Xh (HAb.out wr x hB hkx);have HX:=Xh hx;clear hx HR hkx;generalize Qo cs x=abv at *;go_wp2_with (go_at_call 125;((with_reducible refine HAx.out.mono ?_);rintro e w2⟨⟨v2,rfl,hv2,haw⟩,hB2⟩;obtain⟨pv,kv,rfl,hv21,hv22,_⟩:=hv2.open))
   have hg:=(hown.lt g rfl);have hown2:=qr hown hB2;have hbw:=Qa hB Xl hB2;have hsep:Hid (abv=[]\/∀g',(Value.slice (some ⟨g,0,none⟩) out.length vc).ownBlock=some g'->(Value.slice pv abv.length kv).ownBlock≠some g'):=by
    rcases haw with h|h
    ·exact Or.inl h
    ·refine Or.inr fun g' h1 h2=>?_
     obtain rfl:g=g':=(by injection h1);have:=h _ h2;have:=hg.1;have:=hg.2;omega
   clear HAx HAb hcell hown hB haw hB2 HCl;go_loopw [5,24] (fun v x wr2=>∃(k:Nat) (o2:List Str),k<=abv.length/\Hid (Qaa o2 (abv.drop k)=Qaa out abv)/\Hid (qaz cs o2)/\wr2.ownsRow w.heap.size 9 1 v o2.length (o2.map Value.string)/\Below w.heap.size w wr2/\Qh wr2 (.slice pv abv.length kv) abv/\Hid (abv=[]\/∀g',v.ownBlock=some g'->(Value.slice pv abv.length kv).ownBlock≠some g')/\x=.int .i64 k) (fun _ x _=>abv.length-(intOf x).toNat)
   case atStart=>exact⟨0,out,by omega,rfl,HG,hown2,hbw,hv2,hsep,rfl⟩
   case round =>
    clear hown2 hbw hv2 hsep;obtain⟨k,o2,hk,HA,HG2,hown,hB,hv,hsep,rfl⟩:=hrel;obtain⟨va,vc2,rfl⟩:=qe hown;have hlen:abv.length<=9223372036854775807:=Xf hv21 hv22;by_cases hkl:k<abv.length
    ·obtain⟨a,ha⟩:∃a,abv[k]? = some a:=⟨abv[k],by simp[hkl]⟩;have hka:=hknow.out a (Xe ha);have Zc:=ZbO o2 abv k a ha;rw[HA.out]at Zc;obtain⟨p2,kv2,hp2,_,_,hcc⟩:=hv.open;obtain⟨b,o,vs,hpb,hR,_,hcl⟩:=hcc k a ha;injection hp2 with hp2 hx1 hx2
     clear hx1 hx2;rw[<-hp2]at hpb;subst hpb;unfold zr at hR;subst hR;have hc:=hcl.1;rw[Nat.mul_one]at hc;have hcon:=qan o2 (.slice va o2.length vc2) a wr (Ze hown);clear hcl hcc hp2;have HX:=Xh ha;clear ha;cases hmm:ZL o2 a with
     |true =>
      rw[hmm,if_pos rfl]at Zc;rw[hmm]at hcon;have HC:=Xh hcon;have hst:=Xh Zc.symm;clear hcon Zc hmm;go_wp2_with (go_fit HC.out;rintro e w3⟨rfl,rfl⟩)
      go_roundw;case rel=>exact⟨k+1,o2,by omega,hst.out,HG2,hown,hB,hv,hsep,by simp⟩
      case measure=>simp[intOf];omega
     |false =>
      rw[hmm,if_neg (by decide)]at Zc;rw[hmm]at hcon;have HC:=Xh hcon;have hst:=Xh Zc.symm;have HG3:Hid (qaz cs (o2++[a])):=HG2.out.add hka hmm;have hl3:(o2++[a]).length<=12:=Xf HG3.out.length h12;rw[List.length_append,List.length_singleton]at hl3;have c2:∀u∈[Value.string a],u.oneCell'=true:=fun u hu=>by simp at hu;subst hu;rfl
      have c3:o2.length+1<=maxLen:=Xf hl3 (by decide);have c4:(o2.length+1)*16<=140737488355328:=(by omega);have c5:w.heap.size<=(wr.alloc (.cells #[.string a] 9)).heap.size:=(hB.alloc hB.size _).size;have HV:=Xh (hv.mono (Xb.alloc Xl (.cells #[.string a] 9)));have HB:=Xh (hB.alloc hB.size (.cells #[.string a] 9));have HO:=Xh hown;clear hcon Zc hmm hv hB hka;go_wp2_with (first|(go_fit HC.out;rintro e w3⟨rfl,rfl⟩)|(at_builtin;(refine wpList_append_own_at _ rfl _ _ 25 rfl w.heap.size 9 i0 (.string .empty) 1 16 Tryz.underlying25 hi hz0 hz1 hz2 rfl (by decide) _ _ _ rfl (hown.alloc _) ⟨wr.heap.size,0,none⟩ 1 1 [.string a] rfl rfl (cell_one_new _ _ _) c2 c3 c4 c5 ?_;intro v3 w3 hown3 hgrow3 _ hat3)))
      have hown4:w3.ownsRow w.heap.size 9 1 v3 (o2++[a]).length ((o2++[a]).map Value.string):=(by simpa using hown3);go_roundw;case measure=>simp[intOf];omega
      case rel =>
      refine⟨k+1,o2++[a],by omega,hst.out,HG3,hown4,HB.out.grown hgrow3 c5 (fun k hk=>(HO.out.lt k hk).1),?_,?_,by simp⟩
      ·refine HV.out.grown hgrow3 ?_;rcases hsep.out with h|h
       ·exact Or.inl h
       ·refine Or.inr fun he=>?_
        obtain⟨g2,h1,_⟩:=zau HV.out (List.ne_nil_of_length_pos (by omega));rw[h1]at he;exact h g2 he.symm h1
      ·refine Or.inr fun g' h1 h2=>?_
       obtain⟨g2,h3,h4⟩:=zau HV.out (List.ne_nil_of_length_pos (by omega));rw[h3]at h2;injection h2 with h2
       subst h2;rcases hat3 with h|h
       ·rcases hsep.out with h5|h5
        ·rw[h5]at hkl;simp at hkl
        ·exact h5 _ (h.symm.trans h1) h3
       ·rw[h]at h1;injection h1 with h1;omega
    ·have hdone:Hid (o2=Qaa out abv):=by
      have:=HA.out;rw[Xg (by omega)]at this;exact this
     cases hdone.out;go_wp2_with fail;go_roundw;case rel=>exact⟨i+1,_,hrs,HG2,hown,hB,by omega,by simp⟩
     case measure=>simp[intOf];omega
  ·have hend:Hid (out=Qk cs n):=by
    have:=HR.out;rwa [za1 (List.getElem?_eq_none (by omega))]at this
   have hsort:=zd0 hown (by omega);have HS:=Xh hsort;have HO:=Xh hown;clear hsort hown HR;go_wp2_with (go_fit HS.out;rintro e w2⟨rfl,hs2,hg2⟩)
   go_ret;exact⟨⟨_,rfl,by rw[<-hend.out];exact hs2⟩,hB.grown hg2 hB.size (fun k hk=>(HO.out.lt k hk).1)⟩
set_option maxRecDepth 512
end Go.Proofs.YtlmfmioljeppfaaGreatDoor
namespace Go.Proofs.YtlmfmioljeppfaaGreatDoor
open Go.RowKit Go.Shelf Go.Lib
open Go.WideMaps (keyOf_string_mk string_law)
theorem Zp.look3{w0 w:World}{B:Nat}{cs:List Qb}(h:Zp w0 w B cs)(hn:(cs.map (·.name)).Nodup)(n:Str)(hs:n.size<=maxLen):
 ∃pf kf pd kd pm km,Qh w0 (.slice pf ((Qc cs n).getD zg).faces.length kf) ((Qc cs n).getD zg).faces/\Qg w0 2 ZE (.slice pd ((Qc cs n).getD zg).fields.length kd) ((Qc cs n).getD zg).fields/\Qg w0 8 (Zr w0) (.slice pm ((Qc cs n).getD zg).methods.length km) ((Qc cs n).getD zg).methods /\
  ∀wx,Below w.heap.size w wx ->
  (Instr.lookup 97 (.map (some B)) (.string n) true).run Tryz.prog wx=.ok (.tuple #[Qz ((Qc cs n).getD zg) (.slice pf ((Qc cs n).getD zg).faces.length kf) (.slice pd ((Qc cs n).getD zg).fields.length kd) (.slice pm ((Qc cs n).getD zg).methods.length km),.bool (Qc cs n).isSome]) wx /\
  (Instr.lookup 97 (.map (some B)) (.string n) false).run Tryz.prog wx=.ok (Qz ((Qc cs n).getD zg) (.slice pf ((Qc cs n).getD zg).faces.length kf) (.slice pd ((Qc cs n).getD zg).fields.length kd) (.slice pm ((Qc cs n).getD zg).methods.length km)) wx:=by
 obtain⟨_,_,hlt,es,clock,hb,hlen,hget⟩:=h;have K:=string_law (P:=Tryz.prog) ZaA;have hkey:=keyOf_string_mk (P:=Tryz.prog) ZaA hs;have hks:∀e∈es.toList,∃l,keyOf Tryz.prog 9 e.key=some l:=fun e he=>by
  obtain⟨i,hi,rfl⟩:=List.getElem_of_mem he;obtain⟨h1,h2,_⟩:=hget i _ (cs[i]'(by omega)) (Xn hi) (Xn (by omega));exact⟨_,by rw[h1];exact keyOf_string_mk ZaA h2⟩
 have hkn:∀i (hi:i<es.toList.length) (hc:i<cs.length),es.toList[i].key=.string cs[i].name:=fun i hi hc=>(hget i _ _ (Xn hi) (Xn hc)).1
 cases hfc:Qc cs n with
 |none =>
  have hno:=hfc;unfold Qc at hno;rw[List.find?_eq_none]at hno;refine⟨none,0,none,0,none,0,Or.inl ⟨rfl,rfl⟩,Or.inl ⟨rfl,rfl⟩,Or.inl ⟨rfl,rfl⟩,fun wx hw=>?_⟩;have hbx:=(hw.block B hlt).trans hb;rcases K.find wx hkey es.toList hks with⟨h1,_⟩|⟨j,e0,_,h2,h3⟩
  ·constructor<;>simp[Instr.lookup,run_underlying zbv,MapKept.run_getObj_map hbx,K.check wx _ hkey,h1,Result.andThen,Qz,zg]<;>rfl
  ·exfalso;obtain⟨hj,rfl⟩:=List.getElem?_eq_some_iff.1 h2;rw[hkn j hj (by omega)]at h3;injection h3 with h3
   exact hno cs[j] (List.getElem_mem _) (by simp[h3])
 |some c =>
  have hyes:=hfc;unfold Qc at hyes;rw[List.find?_eq_some_iff_getElem]at hyes;obtain⟨hcn,j,hj,hcj,_⟩:=hyes;obtain⟨g1,g2,fv,dv,mv,g3,g4,g5,g6⟩:=hget j (es.toList[j]'(by omega)) cs[j] (Xn (by omega)) (Xn hj);have hname:c.name=n:=by simpa using hcn
  rw[hcj]at g3 g4 g5 g6;obtain⟨pf,kf,rfl,_⟩:=g4.open;obtain⟨pd,kd,rfl,_⟩:=g5.open;obtain⟨pm,km,rfl,_⟩:=g6.open;refine⟨pf,kf,pd,kd,pm,km,g4,g5,g6,fun wx hw=>?_⟩;have hbx:=(hw.block B hlt).trans hb;rcases K.find wx hkey es.toList hks with⟨_,h2⟩|⟨i,e0,h1,h2,h3⟩
  ·exfalso;refine h2 _ (List.getElem_mem (show j<es.toList.length by omega)) ?_;rw[hkn j (by omega) hj,hcj,hname]
  ·obtain⟨hi,rfl⟩:=List.getElem?_eq_some_iff.1 h2;have hic:i<cs.length:=(by omega);rw[hkn i hi hic]at h3;injection h3 with h3
   have hij:i=j:=by
    have hcjn:cs[j].name=n:=(by rw[hcj,hname]);rcases Nat.lt_trichotomy i j with hlt'|he|hlt'
    ·have:=List.pairwise_iff_getElem.1 hn i j (by simpa using hic) (by simpa using hj) hlt';simp[h3,hcjn]at this
    ·exact he
    ·have:=List.pairwise_iff_getElem.1 hn j i (by simpa using hj) (by simpa using hic) hlt';simp[h3,hcjn]at this
   subst hij;rw[g3]at h1;constructor<;>simp[Instr.lookup,run_underlying zbv,MapKept.run_getObj_map hbx,K.check wx _ hkey,h1,Result.andThen]
def qv(cs:List Qb)(c:Qb):Nat :=
 if c.super.size=0 then 1
 else if !(Qc cs c.super).isSome then 3
 else if c.faces.any (fun n=>!(Qc cs n).isSome) then 3
 else if zu cs c.super false≠0 then zu cs c.super false
 else if Zh (fun n=>zu cs n true) c.faces≠0 then Zh (fun n=>zu cs n true) c.faces
 else if c.face&&decide (c.super≠Zg) then 7 else 0
set_option maxRecDepth 100000
theorem qda(w0 w:World)(B:Nat)(cs:List Qb)(hm:Zp w0 w B cs)(hn:(cs.map (·.name)).Nodup)(c:Qb)(fv dv mv:Value)(hsu:c.super.size<=maxLen)(hfs:∀x∈c.faces,x.size<=maxLen)(hf:Qh w0 fv c.faces)(v:Value)(hv:zE (qv cs c)=v):
 Calls Tryz.prog 88 #[.map (some B),Qz c fv dv mv] w fun e w'=>e=.returned v/\Below w.heap.size w w':=by
 obtain⟨ps,ks,pd,kd,pm,km,_,_,_,hlk⟩:=hm.look3 hn c.super hsu;have HS:Hid (∀x∈c.faces,x.size<=maxLen):=hfs;have HHas:Hid (∀(wx:World) (n:Str) (f:Bool),Below w.heap.size w wx->n.size<=maxLen->_):=fun wx n f hb hs=>zec w0 wx B cs (hm.step hb) hn n hs f
 have HLo:Hid (∀n:Str,n.size<=maxLen->_):=fun n hs=>hm.look3 hn n hs
 have HLK:=Xh hlk;have hfw:=hf.mono hm.below;obtain⟨pf,capf,rfl,hf1,hf2,hfc⟩:=hfw.open;have HFC:=Xh hfc;have HF:Hid (v=zE (qv cs c)):=hv.symm;clear hlk hfc hfw hf hm hfs hv hn;obtain⟨name,super,faces,face,fields,methods⟩:=c;try unfold Qz at *
 dsimp only at *;have ze:super.toList.isEmpty=decide (super.size=0):=ZD super;by_cases h0:super.size=0
 ·have hfin:Hid (v=.iface 29 (.int .i64 1)):=by rw[HF.out];unfold qv;rw[if_pos h0];rfl
  rw[Xj h0]at ze;clear HF h0 HLK HLo HHas;go_enter Tryz.func88,Tryz.ntmps88;go_wp2_with fail;cases hfin.out;go_ret;exact⟨rfl,Xb.alloc Xl _⟩
 ·rw[Xi h0]at ze;obtain⟨l1,l2⟩:=HLK.out _ (Xb.alloc Xl (.cells #[.string name,.string super,.slice pf faces.length capf,.bool face,dv,mv] 36));clear l2;have hj:Hid (v=zE (if !(Qc cs super).isSome then 3 else if faces.any (fun n=>!(Qc cs n).isSome) then 3 else if zu cs super false≠0 then zu cs super false else if Zh (fun n=>zu cs n true) faces≠0 then Zh (fun n=>zu cs n true) faces else if face&&decide (super≠Zg) then 7 else 0)):=by
   unfold Hid;rw[HF.out];unfold qv;rw[if_neg h0]
  clear HF h0;have hc:=hj;cases hfc:(Qc cs super).isSome with
  |false =>
   rw[hfc]at l1 hj;have hfin:Hid (v=.iface 29 (.int .i64 3)):=(by rw[hj.out];rfl);clear hc hj hfc HHas HLo HLK;generalize (Qc cs super).getD zg=d at *;obtain⟨n1,s1,f1,b1,d1,m1⟩:=d;try unfold Qz at *
   dsimp only at *;go_enter Tryz.func88,Tryz.ntmps88;go_wp2_with fail;cases hfin.out;go_ret;exact⟨rfl,QQ _ _ _⟩
  |true =>
   rw[hfc]at l1 hj;have hj2:Hid (v=zE (if faces.any (fun n=>!(Qc cs n).isSome) then 3 else if zu cs super false≠0 then zu cs super false else if Zh (fun n=>zu cs n true) faces≠0 then Zh (fun n=>zu cs n true) faces else if face&&decide (super≠Zg) then 7 else 0)):=hj.out;clear hc hj hfc HLK;generalize (Qc cs super).getD zg=d at *;obtain⟨n1,s1,f1,b1,d1,m1⟩:=d;try unfold Qz at l1
   dsimp only at l1;go_enter Tryz.func88,Tryz.ntmps88;go_wp2_with fail;go_loopw [32] (fun x wr=>∃k,k<=faces.length/\Hid (((faces.drop k).any fun n=>!(Qc cs n).isSome)=(faces.any fun n=>!(Qc cs n).isSome))/\zB w wr [.string name,.string super,.slice pf faces.length capf,.bool face,dv,mv]/\x=.int .i64 k) (fun x _=>faces.length-(intOf x).toNat)
   case atStart=>exact⟨0,by omega,rfl,zB.alloc ⟨Xb.alloc Xl _,by simp,by simp[qG]⟩ _,rfl⟩
   case round =>
    obtain⟨k,hk,hff,BX,rfl⟩:=hrel;obtain⟨q0,q1,q2,q3,q4,q5⟩:=qM BX;have hlen:faces.length<=9223372036854775807:=Xf hf1 hf2;have hszw:=BX.size;by_cases hkl:k<faces.length
    ·obtain⟨x,hx⟩:∃x,faces[k]? = some x:=⟨faces[k],by simp[hkl]⟩;obtain⟨b,o,vs,rfl,hR,_,qc⟩:=HFC.out k x hx;unfold zr at hR;subst hR;have qc:=qc.mono BX.below qc.lt;have Zc:=qai (fun n=>!(Qc cs n).isSome) faces k x hx;rw[hff.out]at Zc;obtain⟨pf2,kf2,pd2,kd2,pm2,km2,_,_,_,hl2⟩:=HLo.out x (HS.out x (Xe hx));obtain⟨l3,_⟩:=hl2 wr BX.below;have HX:=Xh hx;clear hx hl2;have c0:=qc.1;rw[Nat.mul_one]at c0;cases hfx:(Qc cs x).isSome with
     |false =>
      rw[hfx]at l3 Zc;replace Zc:(faces.any fun n=>!(Qc cs n).isSome)=true:=Zc;have hfin:Hid (v=.iface 29 (.int .i64 3)):=(by rw[hj2.out,if_pos Zc];rfl);clear Zc hj2 HHas HLo hfx qc;generalize (Qc cs x).getD zg=d at *;obtain⟨n2,s2,f2,b2,d2,m2⟩:=d;try unfold Qz at l3
      dsimp only at l3;go_wp2_with fail;cases hfin.out;go_ret;exact⟨rfl,(BX.alloc _).below⟩
     |true =>
      rw[hfx]at l3 Zc;have hst:Hid (((faces.drop (k+1)).any fun n=>!(Qc cs n).isSome)=(faces.any fun n=>!(Qc cs n).isSome)):=(by unfold Hid;simpa using Zc.symm);clear Zc hj2 HHas HLo hfx qc;generalize (Qc cs x).getD zg=d at *;obtain⟨n2,s2,f2,b2,d2,m2⟩:=d;try unfold Qz at l3
      dsimp only at l3;go_wp2_with fail;go_roundw;case rel=>exact⟨k+1,by omega,hst,BX.alloc _,by simp⟩
      case measure=>simp[intOf];omega
    ·have hno:Hid ((faces.any fun n=>!(Qc cs n).isSome)=false):=by
      rw[<-hff.out,Xg (by omega)];rfl
     clear hff;obtain rfl:k=faces.length:=(by omega);have hj3:Hid (v=zE (if zu cs super false≠0 then zu cs super false else if Zh (fun n=>zu cs n true) faces≠0 then Zh (fun n=>zu cs n true) faces else if face&&decide (super≠Zg) then 7 else 0)):=by
      rw[hj2.out,if_neg (by rw[hno.out];decide)];rfl
     clear hj2 hno;have HH1:=Xh (HHas.out wr super false BX.below hsu);rcases QI (zu cs super false) with⟨hv1,hz⟩|⟨hv1,hz⟩
     ·rw[hv1]at HH1;rw[if_neg (by rw[hz];decide)]at hj3;clear hv1 hz HLo;go_wp2_with (go_fit HH1.out;rintro e w3⟨rfl,hB3⟩;obtain⟨hcl,_⟩:=qaC hB3;(have r2:=(hcl w.heap.size 2 hszw).trans q2))
      go_loopw [56] (fun x wr=>∃k,k<=faces.length/\Hid (Zh (fun n=>zu cs n true) (faces.drop k)=Zh (fun n=>zu cs n true) faces)/\zB w wr [.string name,.string super,.slice pf faces.length capf,.bool face,dv,mv]/\x=.int .i64 k) (fun x _=>faces.length-(intOf x).toNat)
      case atStart=>exact⟨0,by omega,rfl,BX.step hB3,rfl⟩
      case round =>
       clear q0 q1 q2 q3 q4 q5 hcl r2 hB3 HH1 hszw BX;obtain⟨k,hk,hff,BX,rfl⟩:=hrel;obtain⟨q0,q1,q2,q3,q4,q5⟩:=qM BX;have hszw:=BX.size;by_cases hkl:k<faces.length
       ·obtain⟨x,hx⟩:∃x,faces[k]? = some x:=⟨faces[k],by simp[hkl]⟩;obtain⟨b,o,vs,rfl,hR,_,qc⟩:=HFC.out k x hx;unfold zr at hR;subst hR;have qc:=qc.mono BX.below qc.lt;have Zc:=ZS (fun n=>zu cs n true) faces k x hx;rw[hff.out]at Zc;have HH2:=Xh (HHas.out wr x true BX.below (HS.out x (Xe hx)));have HX:=Xh hx;clear hx;have c0:=qc.1;rw[Nat.mul_one]at c0;clear qc HHas;rcases QI (zu cs x true) with⟨hv2,hz⟩|⟨hv2,hz⟩
        ·rw[hv2]at HH2;rw[if_pos hz]at Zc;have hst:=Xh Zc.symm;clear hv2 hz Zc hj3;go_wp2_with (go_fit HH2.out;rintro e w4⟨rfl,hB4⟩)
         go_roundw;case rel=>exact⟨k+1,by omega,hst.out,BX.step hB4,by simp⟩
         case measure=>simp[intOf];omega
        ·rw[hv2]at HH2;rw[if_neg hz]at Zc;have hfin:Hid (v=.iface 29 (.int .i64 (zu cs x true))):=(by rw[hj3.out,if_pos (by rw[Zc];exact hz),Zc];exact hv2);clear hv2 hz Zc hj3;go_wp2_with (go_fit HH2.out;rintro e w4⟨rfl,hB4⟩)
         cases hfin.out;go_ret;exact⟨rfl,(BX.step hB4).below⟩
       ·have hno:Hid (Zh (fun n=>zu cs n true) faces=0):=by
         rw[<-hff.out,Xg (by omega)];rfl
        clear hff;obtain rfl:k=faces.length:=(by omega);rw[if_neg (by rw[hno.out];decide)]at hj3;have hso:(super.toList==[79,98,106,101,99,116])=decide (super=Zg):=by
         have:=Z5 super Zg;rwa [show ByteArray.toList Zg=[79,98,106,101,99,116] from by rw[ByteArray.toList_eq];rfl]at this
        cases face with
        |false =>
         have hfin:Hid (v=.nilIface):=(by rw[hj3.out];rfl);clear hj3 hno;go_wp2_with fail;cases hfin.out;go_ret;exact⟨rfl,BX.below⟩
        |true =>
         by_cases hs:super=Zg
         ·have hfin:Hid (v=.nilIface):=(by rw[hj3.out,hs];rfl);rw[Xj hs]at hso;have HSO:=Xh hs;clear hj3 hno hs;go_wp2_with fail;cases hfin.out;go_ret;exact⟨rfl,BX.below⟩
         ·have hfin:Hid (v=.iface 29 (.int .i64 7)):=(by rw[hj3.out];simp[hs,zE,Hid]);rw[Xi hs]at hso;have HSO:=Xh hs;clear hj3 hno hs;go_wp2_with fail;cases hfin.out;go_ret;exact⟨rfl,BX.below⟩
     ·rw[hv1]at HH1;rw[if_pos hz]at hj3;have hfin:Hid (v=.iface 29 (.int .i64 (zu cs super false))):=(by rw[hj3.out];exact hv1);clear hv1 hz HLo hj3;go_wp2_with (go_fit HH1.out;rintro e w3⟨rfl,hB3⟩)
      cases hfin.out;go_ret;exact⟨rfl,(BX.step hB3).below⟩
set_option maxRecDepth 512
end Go.Proofs.YtlmfmioljeppfaaGreatDoor
namespace Go.Proofs.YtlmfmioljeppfaaGreatDoor
open Go.RowKit Go.Shelf Go.Lib
theorem zaM(l:List Str)(x:Str):ZL (qE l) x=ZL l x:=by
 rw[Bool.eq_iff_iff,qx,qx];unfold qE;rw[List.mem_map];constructor
 ·rintro⟨y,hy,rfl⟩;rw[List.mem_mergeSort,List.mem_map]at hy;obtain⟨z,hz,rfl⟩:=hy;exact hz
 ·intro hx;exact⟨x.data.toList,by rw[List.mem_mergeSort,List.mem_map];exact⟨x,hx,rfl⟩,rfl⟩
theorem Qda(w0 w:World)(B:Nat)(cs:List Qb)(hm:Zp w0 w B cs)(hn:(cs.map (·.name)).Nodup)(h8:∀c∈cs,c.faces.length<=8)(h12:cs.length<=12)(hcl:zay cs)(a n:Str)(hk:(Qc cs a).isSome=true)(b1 b2:Nat)(h1:w.cell? ⟨b1,0,none⟩=some (.map (some B)))(h2:w.cell? ⟨b2,0,none⟩=some (.string n))(hb2:b2<w.heap.size):
 Calls Tryz.prog 126 #[.string a,.pointer (some ⟨b1,0,none⟩),.pointer (some ⟨b2,0,none⟩)] w fun e w'=>e=.returned (.bool (ZL (Qk cs a) n))/\Below w.heap.size w w':=by
 have HE:=Xh (qbD w0 w.drew B cs (hm.step (Xb.drew)) hn h8 h12 hcl a hk);have HC:Hid (∀v wx,Qh wx v (qE (Qk cs a))->_):=fun v wx h=>qan (qE (Qk cs a)) v n wx h
 rw[zaM]at HC;generalize ZL (Qk cs a) n=r at *;generalize qE (Qk cs a)=l at *;clear hm hn h8 hcl hk;go_enter Tryz.func126,Tryz.ntmps126;go_upto_region 1 with fail;go_region_with (first
  |(go_fit HE.out;rintro e w2⟨⟨v,rfl,hv⟩,hB2⟩;obtain⟨p,k,rfl,_⟩:=hv.open;(have h3:=(hB2.cell (p:=⟨b2,0,none⟩) hb2).trans h2))
  |(go_fit (HC.out _ _ hv);rintro e w3⟨rfl,rfl⟩))
 all_goals
  go_wp2
  go_ret;exact⟨rfl,Qa Xb.drew Xl hB2⟩
def ZR(cs:List Qb)(n:Str):Bool:=(Qo cs n).any fun a=>ZL (Qk cs a) n
theorem zdD(w0 w:World)(B:Nat)(cs:List Qb)(hm:Zp w0 w B cs)(hn:(cs.map (·.name)).Nodup)(h8:∀c∈cs,c.faces.length<=8)(h12:cs.length<=12)(hcl:zay cs)(n:Str)(hk:(Qc cs n).isSome=true):
 Calls Tryz.prog 89 #[.map (some B),.string n] w fun e w'=>e=.returned (.bool (ZR cs n))/\Below w.heap.size w w':=by
 have hmf:∀fn first cap w,(Instr.makeFunc fn first cap).run Tryz.prog w=.ok (.func fn first cap) w:=fun _ _ _ _=>rfl
 have HB:=Xh (QQ w (.cells #[.map (some B)] 97) (.cells #[.string n] 9));have HAb:=Xh (qcp w0 _ B cs (hm.step HB.out) hn h8 n (hm.names hk));have HAn:Hid (∀v wx,Qh wx v (Qo cs n)->Below w.heap.size w wx->w.heap.size+1<wx.heap.size->wx.cell? ⟨w.heap.size,0,none⟩=some (.map (some B))->wx.cell? ⟨w.heap.size+1,0,none⟩=some (.string n) ->
  Calls Tryz.prog 124 #[v,.func (.func 126) #[] #[.pointer (some ⟨w.heap.size,0,none⟩),.pointer (some ⟨w.heap.size+1,0,none⟩)]] wx fun e w'=>e=.returned (.bool (ZR cs n))/\Below wx.heap.size wx w'):=by
  intro v wx hv hb hs h1 h2;refine zbZ zr (fun a=>ZL (Qk cs a) n) 126 _ (enters_of Tryz.func126 (by kernel_rfl) rfl) (Qo cs n) v wx hv ?_;rintro W x a0 hx hh hW;unfold zr at hh;simp only[List.cons.injEq,and_true]at hh;subst hh;show Calls Tryz.prog 126 #[.string x,.pointer (some ⟨w.heap.size,0,none⟩),.pointer (some ⟨w.heap.size+1,0,none⟩)] W _
  exact Qda w0 W B cs ((hm.step hb).step hW) hn h8 h12 hcl x n (hcl n hk x hx) _ _ ((hW.cell (p:=⟨_,0,none⟩) (show w.heap.size<wx.heap.size by omega)).trans h1) ((hW.cell (p:=⟨_,0,none⟩) hs).trans h2) (Nat.lt_of_lt_of_le (by omega) hW.size)
 clear hm hn h8 hcl hk;generalize ZR cs n=r at *;generalize Qo cs n=abv at *;go_enter Tryz.func89,Tryz.ntmps89;go_wp2_with (first
  |(go_fit HAb.out;rintro e w2⟨⟨v,rfl,hv,_⟩,hB2⟩;obtain⟨p,k,rfl,_⟩:=hv.open)
  |(go_fit (HAn.out _ _ hv (Qa HB Xl hB2) (Nat.lt_of_lt_of_le (by simp) hB2.size) ((hB2.cell (p:=⟨_,0,none⟩) (by simp;omega)).trans (by simp)) ((hB2.cell (p:=⟨_,0,none⟩) (by simp)).trans (by simp)));rintro e w3⟨rfl,hB3⟩))
 go_ret;exact⟨rfl,Qa (Qa HB Xl hB2) Xl hB3⟩
def Za(l:List Qb):List Qb:=QN::QW::l
def Zv(c:Qb)(ahead:List Qb):Nat:=if qd c≠0 then qd c else if (Qc (Za ahead) c.name).isSome then 5 else 0
def Zj(l:List Qb):Nat :=
 if 10<l.length then 4
 else if Qf Zv [] l≠0 then Qf Zv [] l
 else if Zh (qv (Za l)) l≠0 then Zh (qv (Za l)) l
 else if l.any (fun c=>ZR (Za l) c.name) then 6 else 0
theorem Qcp(l:List Qb)(k:Nat)(c:Qb)(h:l[k]? = some c):Za (l.take (k+1))=Za (l.take k)++[c]:=by
 obtain⟨hk,rfl⟩:=List.getElem?_eq_some_iff.1 h;unfold Za;rw[List.take_succ_eq_append_getElem hk];rfl
theorem zaO{cs:List Qb}{c:Qb}(hn:(cs.map (·.name)).Nodup)(hf:Qc cs c.name=none):((cs++[c]).map (·.name)).Nodup:=by
 unfold Qc at hf;rw[List.find?_eq_none]at hf;rw[List.map_append,List.map_singleton,List.nodup_append];refine⟨hn,by simp,fun x hx y hy=>?_⟩;simp at hy;subst hy;obtain⟨d,hd,rfl⟩:=List.mem_map.1 hx;simpa using hf d hd
theorem qa1:((Za []).map (·.name)).Nodup:=by decide
theorem Zbv{c:Qb}(h:qd c=0):c.faces.length<=8:=by
 unfold qd at h;split at h
 ·cases h
 ·split at h
  ·rename_i h1;exact absurd h h1
  ·split at h
   ·cases h
   ·rename_i h1;omega
theorem zb7{l:List Qb}(h:∀c∈l,qd c=0):∀c∈Za l,c.faces.length<=8:=by
 intro c hc;unfold Za at hc;rcases List.mem_cons.1 hc with rfl|hc
 ·decide
 ·rcases List.mem_cons.1 hc with rfl|hc
  ·decide
  ·exact Zbv (h c hc)
theorem Qcz{cs:List Qb}{c:Qb}(h:qv cs c=0):(Qc cs c.super).isSome=true/\∀a∈c.faces,(Qc cs a).isSome=true:=by
 unfold qv at h;split at h
 ·cases h
 ·split at h
  ·cases h
  ·rename_i h1;split at h
   ·cases h
   ·rename_i h2;rw[Bool.not_eq_true,List.any_eq_false]at h2;refine⟨?_,fun a ha=>?_⟩
    ·cases hq:(Qc cs c.super).isSome with
     |true=>rfl
     |false=>exact absurd (by rw[hq];rfl) h1
    ·cases hq:(Qc cs a).isSome with
     |true=>rfl
     |false=>exact absurd (by rw[hq];rfl) (h2 a ha)
theorem Q2{α:Type}{f:α->Nat}{l:List α}(h:Zh f l=0):∀x∈l,f x=0:=by
 induction l with
 |nil=>intro x hx;cases hx
 |cons a r ih =>
  rw[Zh]at h;by_cases ha:f a=0
  ·rw[if_pos ha]at h;intro x hx;rcases List.mem_cons.1 hx with rfl|hx
   ·exact ha
   ·exact ih h x hx
  ·rw[if_neg ha]at h;exact absurd h ha
theorem Qa7{l:List Qb}(h:∀c∈l,qv (Za l) c=0):zay (Za l):=by
 intro x hx a ha;rw[Option.isSome_iff_exists]at hx;obtain⟨c,hc⟩:=hx;unfold Qo at ha;rw[hc]at ha;simp only[Option.getD_some]at ha;have hm:c∈Za l:=List.mem_of_find?_eq_some hc;unfold Za at hm;rcases List.mem_cons.1 hm with rfl|hm
 ·simp[QN,zg]at ha
 ·rcases List.mem_cons.1 hm with rfl|hm
  ·simp[QW,zg,Zg]at ha;obtain⟨_,rfl⟩:=ha;rfl
  ·obtain⟨h1,h2⟩:=Qcz (h c hm);split at ha
   ·exact h2 a ha
   ·rcases List.mem_cons.1 ha with rfl|ha
    ·exact h1
    ·exact h2 a ha
theorem QaL{l:List Qb}{c:Qb}(h:c∈l):(Qc (Za l) c.name).isSome=true:=by
 unfold Qc;rw[List.find?_isSome];exact⟨c,by simp[Za,h],by simp⟩
def Qbt(w:World)(l:List Qb)(e:Ending)(w':World):Prop :=
 Below w.heap.size w w' /\
 (
  (Zj l=0/\e=.returned (.tuple #[.map (some w.heap.size),.nilIface])/\Zp w w' w.heap.size (Za l)/\((Za l).map (·.name)).Nodup/\(∀c∈l,qd c=0)/\zay (Za l)/\l.length<=10) \/
  (Zj l≠0/\e=.returned (.tuple #[.map none,.iface 29 (.int .i64 (Zj l))])))
theorem Zec{w w':World}{l:List Qb}{n:Nat}(hb:Below w.heap.size w w')(h:Zj l=n)(hn:n≠0):Qbt w l (.returned (.tuple #[.map none,.iface 29 (.int .i64 n)])) w':=by
 subst h;exact⟨hb,Or.inr ⟨hn,rfl⟩⟩
theorem qaJ{α:Type}{w w':World}{k:Nat}{R R':α->List Value->Prop}{v:Value}(h:Qg w k R v ([]:List α)):Qg w' k R' v ([]:List α):=by
 rcases h with⟨h,_⟩|⟨a,cap,h1,h2,h3,_⟩
 ·exact Or.inl ⟨h,rfl⟩
 ·exact Or.inr ⟨a,cap,h1,h2,h3,fun i x hx=>by simp at hx⟩
def QbF(wb w:World)(l:List Qb)(e:Ending)(w':World):Prop:=Qbt w l e w'/\(Zj l=0->Zp wb w' w.heap.size (Za l))
theorem Qa2{wb w w':World}{l:List Qb}{n:Nat}(hb:Below w.heap.size w w')(h:Zj l=n)(hn:n≠0):QbF wb w l (.returned (.tuple #[.map none,.iface 29 (.int .i64 n)])) w' :=
 ⟨Zec hb h hn,fun e=>absurd (h.symm.trans e) hn⟩
theorem Zca{wb w w':World}{B:Nat}(h:Zp w w' B [QN,QW])(hb:Below wb.heap.size wb w):Zp wb w' B [QN,QW]:=by
 obtain⟨h1,h2,h3,es,clock,h4,h5,h6⟩:=h;refine⟨Qa hb Xl h1,Xf hb.size h2,h3,es,clock,h4,h5,fun i e c he hc=>?_⟩;obtain⟨k1,k2,fv,dv,mv,k3,k4,k5,k6⟩:=h6 i e c he hc;have hc':c.faces=[]/\c.fields=[]/\c.methods=[]:=by
  rcases List.mem_cons.1 (Xe hc) with rfl|hc
  ·exact⟨rfl,rfl,rfl⟩
  ·rw[List.mem_singleton.1 hc];exact⟨rfl,rfl,rfl⟩
 obtain⟨e1,e2,e3⟩:=hc';rw[e1]at k4;rw[e2]at k5;rw[e3]at k6;refine⟨k1,k2,fv,dv,mv,k3,?_,?_,?_⟩
 ·rw[e1];exact qaJ k4
 ·rw[e2];exact qaJ k5
 ·rw[e3];exact qaJ k6
set_option maxRecDepth 100000
theorem Qco(l:List Qb)(lv:Value)(wb w:World)(hbw:Below wb.heap.size wb w)(hl:Qaw w)(ho:∀c∈l,qV c)(hlv:qi wb lv l):
 Calls Tryz.prog 50 #[lv] w (QbF wb w l):=by
 obtain⟨pl,cap,rfl,hc1,hc2,hcc⟩:=hlv.open;have Hbw:=Xh hbw;have HCl:Hid (∀wx c fv dv mv,Below w.heap.size w wx->c∈l->Qh w fv c.faces->Qg w 2 ZE dv c.fields->Qg w 8 (Zr w) mv c.methods->_):=fun wx c fv dv mv hb hc h1 h2 h3 =>
  Qdq c fv dv mv wx (hl.mono hb hl.1) (ho c hc) (h1.mono hb) (h2.mono hb (by decide) (fun _ _ h=>h)) (h3.mono hb (by decide) (fun _ _ h=>h.mono hb)) _ rfl
 have HC:Hid (∀(i:Nat) (x:Qb),l[i]? = some x->∃b o vs,pl=some ⟨b,o,none⟩/\Z6 wb x vs/\vs.length=6/\qG wb b (o+i*6) vs):=hcc;have HO:=Xh ho;clear hcc hlv hl ho hbw;by_cases h10:10<l.length
 ·have hf:Zj l=4:=by unfold Zj;rw[if_pos h10]
  have HF:=Xh hf;clear hf HC HCl;go_enter Tryz.func50,Tryz.ntmps50;go_wp2_with fail;all_goals first|(exfalso;omega)|skip
  go_ret2;exact Qa2 Xb HF.out (by decide)
 have HF:Hid (Zj l=if Qf Zv [] l≠0 then Qf Zv [] l
  else if Zh (qv (Za l)) l≠0 then Zh (qv (Za l)) l
  else if l.any (fun c=>ZR (Za l) c.name) then 6 else 0):=by unfold Hid Zj;rw[if_neg h10]
 have hfst:=Xh (ZdD w);go_enter Tryz.func50,Tryz.ntmps50;go_wp2_with (go_fit hfst.out;rintro e w1⟨rfl,hm1⟩)
 all_goals first|(exfalso;omega)|skip
 have hlen:l.length<=10:=by omega
 go_loopw [22] (fun x wr=>∃k,k<=l.length/\Hid (Qf Zv (l.take k) (l.drop k)=Qf Zv [] l)/\Hid (∀c∈l.take k,qd c=0)/\Hid (((Za (l.take k)).map (·.name)).Nodup)/\Zp w wr w.heap.size (Za (l.take k))/\x=.int .i64 k/\Hid (Zp wb wr w.heap.size (Za (l.take k)))) (fun x _=>l.length-(intOf x).toNat)
 case atStart=>exact⟨0,by omega,rfl,fun c hc=>by simp at hc,by rw[List.take_zero];exact qa1,by rw[List.take_zero];exact hm1,rfl,by unfold Hid;rw[List.take_zero];exact Zca hm1 Hbw.out⟩
 case round =>
  obtain⟨k,hk,hff,HA,HN,hM,rfl,HMb⟩:=hrel;clear hm1;by_cases hkl:k<l.length
  ·obtain⟨c,hx⟩:∃x,l[k]? = some x:=⟨l[k],by simp[hkl]⟩;have hcm:=Xe hx;have hco:=HO.out c hcm;obtain⟨b,o,vs,rfl,⟨fv,dv,mv,rfl,j1,j2,j3⟩,_,qc⟩:=HC.out k c hx;have qc:=qc.mono (Qa Hbw Xl hM.below) qc.lt;have k1:=j1.mono Hbw.out (by decide) (fun _ _ h=>h);have k2:=j2.mono Hbw.out (by decide) (fun _ _ h=>h);have k3:=j3.mono Hbw.out (by decide) (fun _ _ h=>h.mono Hbw.out);have Zc:=zR Zv l k c hx;rw[hff.out]at Zc;obtain⟨pf,capf,rfl,_⟩:=k1.open;obtain⟨pd,capd,rfl,_⟩:=k2.open;obtain⟨pm,capm,rfl,_⟩:=k3.open;have hcla:∀wx,Below w.heap.size w wx->_:=fun wx hb=>HCl.out wx c _ _ _ hb hcm k1 k2 k3
   have HK:=Xh (And.intro k1 (And.intro k2 k3));have HJ:=Xh (And.intro j1 (And.intro j2 j3));have HX:=Xh hx;have HCM:=Xh hcm;have HCO:=Xh hco;clear hx hcm hco k1 k2 k3 j1 j2 j3;obtain⟨c0,c1,c2,c3,c4,c5,_⟩:=qc;unfold Qz at hcla;rcases QI (qd c) with⟨hv,hz⟩|⟨hv,hz⟩
   ·rw[hv]at hcla;have HCla:=Xh hcla;clear hcla hv;rw[show Zv c (l.take k)=if (Qc (Za (l.take k)) c.name).isSome then 5 else 0 from by unfold Zv;rw[if_neg (by rw[hz];decide)]]at Zc;have hall:Hid (∀d∈l.take (k+1),qd d=0):=by
     intro d hd;obtain⟨hk1,hk2⟩:=List.getElem?_eq_some_iff.1 HX.out;rw[List.take_succ_eq_append_getElem hk1,List.mem_append]at hd;rcases hd with hd|hd
     ·exact HA.out d hd
     ·simp at hd;subst hd;rw[hk2];exact hz
    clear hz;go_upto_region 10 with(go_fit (HCla.out _ (hM.below.alloc hM.below.size _));rintro e w2⟨rfl,hB2⟩)
    have hbr:=Qa ((Below.refl wr.heap.size wr).alloc Xl (.cells #[.string c.name,.string c.super,.slice pf c.faces.length capf,.bool c.face,.slice pd c.fields.length capd,.slice pm c.methods.length capm] 36)) Xl hB2;have BX:zB wr w2 [.string c.name,.string c.super,.slice pf c.faces.length capf,.bool c.face,.slice pd c.fields.length capd,.slice pm c.methods.length capm]:=⟨hbr,Nat.lt_of_lt_of_le (by simp) hB2.size,qG.mono hB2 (by simp) (by simp[qG])⟩;have hM2:=hM.step hbr;have HM2b:=Xh (HMb.out.step hbr);obtain⟨q0,q1,q2,q3,q4,q5⟩:=qM BX;have hsz:=BX.size;obtain⟨pf2,kf2,pd2,kd2,pm2,km2,_,_,_,hlk,_⟩:=hM2.look2 HN.out c.name (Xf HCO.out.name (by decide));clear hB2 hbr c0 c1 c2 c3 c4 c5 HCla hM;cases hfc:(Qc (Za (l.take k)) c.name).isSome with
    |true =>
     rw[hfc]at Zc hlk;replace Zc:Qf Zv [] l=5:=Zc;have hfin:Hid (Zj l=5):=(by rw[HF.out,if_pos (by rw[Zc];decide),Zc];rfl);clear Zc hfc HF hff HA HN;generalize (Qc (Za (l.take k)) c.name).getD zg=d at *;obtain⟨n2,s2,f2,b2,d2,m2⟩:=d;unfold Qz at hlk;dsimp only at hlk;have hBw:=Xh (hM2.below.alloc hM2.below.size (.cells #[.string n2,.string s2,.slice pf2 f2.length kf2,.bool b2,.slice pd2 d2.length kd2,.slice pm2 m2.length km2] 36));clear hM2;go_wp2_with fail;go_ret2;exact Qa2 hBw.out hfin.out (by decide)
    |false =>
     rw[hfc]at Zc hlk;have hst:Hid (Qf Zv (l.take (k+1)) (l.drop (k+1))=Qf Zv [] l):=Zc.symm;have hnone:Qc (Za (l.take k)) c.name=none:=by
      cases hq:Qc (Za (l.take k)) c.name with
      |none=>rfl
      |some _=>rw[hq]at hfc;cases hfc
     have HN2:Hid (((Za (l.take (k+1))).map (·.name)).Nodup):=by
      unfold Hid;rw[Qcp l k c HX.out];exact zaO HN.out hnone
     have HNO:=Xh hnone;clear Zc hfc HF hff HA hnone;generalize (Qc (Za (l.take k)) c.name).getD zg=d at *;obtain⟨n2,s2,f2,b2,d2,m2⟩:=d;unfold Qz at hlk;dsimp only at hlk;have hM3:=hM2.step (Xb.alloc Xl (.cells #[.string n2,.string s2,.slice pf2 f2.length kf2,.bool b2,.slice pd2 d2.length kd2,.slice pm2 m2.length km2] 36));obtain⟨w4',hup',hM4b,_⟩:=(HM2b.out.step (Xb.alloc Xl (.cells #[.string n2,.string s2,.slice pf2 f2.length kf2,.bool b2,.slice pd2 d2.length kd2,.slice pm2 m2.length km2] 36))).put c _ _ _ (Xf HCO.out.name (by decide)) HNO.out HJ.out.1 HJ.out.2.1 HJ.out.2.2;obtain⟨w4,hup,hM4,hs4,ho4⟩:=hM3.put c _ _ _ (Xf HCO.out.name (by decide)) HNO.out HK.out.1 HK.out.2.1 HK.out.2.2;rw[<-Qcp l k c HX.out]at hM4 hM4b;rw[hup]at hup';injection hup' with _ hw4
     subst hw4;have HM4b:=Xh hM4b;clear hM4b;unfold Qz at hup;have HM4:=Xh hM4;clear hM4 hM3 hM2 BX;go_wp2_with fail;go_roundw;case rel=>exact⟨k+1,by omega,hst,hall,HN2,HM4,by simp,HM4b⟩
     case measure=>simp[intOf];omega
   ·rw[hv]at hcla;rw[show Zv c (l.take k)=qd c from by unfold Zv;rw[if_pos hz],if_neg hz]at Zc;have hfin:Hid (Zj l=qd c):=(by rw[HF.out,if_pos (by rw[Zc];exact hz),Zc];rfl);have HCla:=Xh hcla;clear hcla hv Zc HF hff;have HZ:=Xh hz;clear hz;generalize qd c=fc at *;go_wp2_with (go_fit (HCla.out _ (hM.below.alloc hM.below.size _));rintro e w2⟨rfl,hB2⟩)
    go_ret2;exact Qa2 (Qa (hM.below.alloc hM.below.size _) Xl hB2) hfin.out HZ.out
  ·have hff0:Hid (Qf Zv [] l=0):=by
    rw[<-hff.out,Xg (by omega)];rfl
   obtain rfl:k=l.length:=(by omega);have HA2:Hid (∀c∈l,qd c=0):=(by have:=HA.out;rwa [List.take_length]at this);rw[List.take_length]at HN hM HMb;have HF2:Hid (Zj l=if Zh (qv (Za l)) l≠0 then Zh (qv (Za l)) l else if l.any (fun c=>ZR (Za l) c.name) then 6 else 0):=by
    rw[HF.out,if_neg (by rw[hff0.out];decide)];rfl
   clear hff hff0 HF HA HCl;go_wp2_with fail;go_loopw [47] (fun x wy=>∃k,k<=l.length/\Hid (Zh (qv (Za l)) (l.drop k)=Zh (qv (Za l)) l)/\Zp w wy w.heap.size (Za l)/\x=.int .i64 k/\Hid (Zp wb wy w.heap.size (Za l))) (fun x _=>l.length-(intOf x).toNat)
   case atStart=>exact⟨0,by omega,rfl,hM,rfl,HMb⟩
   case round =>
    clear hM;obtain⟨k,hk,hff,hM,rfl,HMb⟩:=hrel;by_cases hkl:k<l.length
    ·obtain⟨c,hx⟩:∃x,l[k]? = some x:=⟨l[k],by simp[hkl]⟩;have hco:=HO.out c (Xe hx);obtain⟨b,o,vs,rfl,⟨fv,dv,mv,rfl,j1,j2,j3⟩,_,qc⟩:=HC.out k c hx;have qc:=qc.mono (Qa Hbw Xl hM.below) qc.lt;have k1:=j1.mono Hbw.out (by decide) (fun _ _ h=>h);have k2:=j2.mono Hbw.out (by decide) (fun _ _ h=>h);have k3:=j3.mono Hbw.out (by decide) (fun _ _ h=>h.mono Hbw.out);have Zc:=ZS (qv (Za l)) l k c hx;rw[hff.out]at Zc;obtain⟨pf,capf,rfl,_⟩:=k1.open;obtain⟨pd,capd,rfl,_⟩:=k2.open;obtain⟨pm,capm,rfl,_⟩:=k3.open;have hMa:=hM.step (Xb.alloc Xl (.cells #[.string c.name,.string c.super,.slice pf c.faces.length capf,.bool c.face,.slice pd c.fields.length capd,.slice pm c.methods.length capm] 36));have hj:=qda w _ w.heap.size (Za l) hMa HN.out c _ (.slice pd c.fields.length capd) (.slice pm c.methods.length capm) (Xf hco.super (by decide)) (fun x hx=>Xf (hco.faces x hx) (by decide)) k1 _ rfl;have HMa:=Xh hMa;have HX:=Xh hx;have HMab:=Xh (HMb.out.step (Xb.alloc Xl (.cells #[.string c.name,.string c.super,.slice pf c.faces.length capf,.bool c.face,.slice pd c.fields.length capd,.slice pm c.methods.length capm] 36)));clear hx hco k1 k2 k3 j1 j2 j3 hMa;obtain⟨c0,c1,c2,c3,c4,c5,_⟩:=qc;unfold Qz at hj;rcases QI (qv (Za l) c) with⟨hv,hz⟩|⟨hv,hz⟩
     ·rw[hv]at hj;rw[if_pos hz]at Zc;have hst:=Xh Zc.symm;have HJ:=Xh hj;clear hj hv hz Zc HF2;go_wp2_with (go_fit HJ.out;rintro e w2⟨rfl,hB2⟩)
      go_roundw;case rel=>exact⟨k+1,by omega,hst.out,HMa.out.step hB2,by simp,HMab.out.step hB2⟩
      case measure=>simp[intOf];omega
     ·rw[hv]at hj;rw[if_neg hz]at Zc;have hfin:Hid (Zj l=qv (Za l) c):=(by rw[HF2.out,if_pos (by rw[Zc];exact hz),Zc];rfl);have HJ:=Xh hj;have HZ:=Xh hz;clear hj hv hz Zc HF2;generalize qv (Za l) c=fc at *;go_wp2_with (go_fit HJ.out;rintro e w2⟨rfl,hB2⟩)
      go_ret2;exact Qa2 (HMa.out.step hB2).below hfin.out HZ.out
    ·have hff0:Hid (Zh (qv (Za l)) l=0):=by
      rw[<-hff.out,Xg (by omega)];rfl
     obtain rfl:k=l.length:=(by omega);have hcl:=Qa7 (Q2 hff0.out);have h8:=zb7 HA2.out;have h12:(Za l).length<=12:=(by unfold Za;simp;omega);have HF3:Hid (Zj l=if l.any (fun c=>ZR (Za l) c.name) then 6 else 0):=by
      rw[HF2.out,if_neg (by rw[hff0.out];decide)];rfl
     have HR:Hid (∀wx c,Zp w wx w.heap.size (Za l)->c∈l->_):=fun wx c hm hc=>zdD w wx w.heap.size (Za l) hm HN.out h8 h12 hcl c.name (QaL hc)
     have HCL:=Xh hcl;clear hff hff0 HF2 hcl h8 h12;go_wp2_with fail;go_loopw [60] (fun x wy=>∃k,k<=l.length/\Hid (((l.drop k).any fun c=>ZR (Za l) c.name)=(l.any fun c=>ZR (Za l) c.name))/\Zp w wy w.heap.size (Za l)/\x=.int .i64 k/\Hid (Zp wb wy w.heap.size (Za l))) (fun x _=>l.length-(intOf x).toNat)
     case atStart=>exact⟨0,by omega,rfl,hM,rfl,HMb⟩
     case round =>
      clear hM;obtain⟨k,hk,hff,hM,rfl,HMb⟩:=hrel;by_cases hkl:k<l.length
      ·obtain⟨c,hx⟩:∃x,l[k]? = some x:=⟨l[k],by simp[hkl]⟩;obtain⟨b,o,vs,rfl,⟨fv,dv,mv,rfl,j1,j2,j3⟩,_,qc⟩:=HC.out k c hx;have qc:=qc.mono (Qa Hbw Xl hM.below) qc.lt;have k1:=j1.mono Hbw.out (by decide) (fun _ _ h=>h);have k2:=j2.mono Hbw.out (by decide) (fun _ _ h=>h);have k3:=j3.mono Hbw.out (by decide) (fun _ _ h=>h.mono Hbw.out);have Zc:=qai (fun c=>ZR (Za l) c.name) l k c hx;rw[hff.out]at Zc;obtain⟨pf,capf,rfl,_⟩:=k1.open;obtain⟨pd,capd,rfl,_⟩:=k2.open;obtain⟨pm,capm,rfl,_⟩:=k3.open;have hMa:=hM.step (Xb.alloc Xl (.cells #[.string c.name,.string c.super,.slice pf c.faces.length capf,.bool c.face,.slice pd c.fields.length capd,.slice pm c.methods.length capm] 36));have hj:=HR.out _ c hMa (Xe hx);have HMa:=Xh hMa;have HX:=Xh hx;have HMab:=Xh (HMb.out.step (Xb.alloc Xl (.cells #[.string c.name,.string c.super,.slice pf c.faces.length capf,.bool c.face,.slice pd c.fields.length capd,.slice pm c.methods.length capm] 36)));clear hx k1 k2 k3 j1 j2 j3 hMa;obtain⟨c0,c1,c2,c3,c4,c5,_⟩:=qc;cases hrc:ZR (Za l) c.name with
       |true =>
        rw[hrc]at hj Zc;rw[Bool.true_or]at Zc;have hfin:Hid (Zj l=6):=(by rw[HF3.out,if_pos Zc];rfl);have HJ:=Xh hj;clear hj hrc Zc HF3 HR;go_wp2_with (go_fit HJ.out;rintro e w2⟨rfl,hB2⟩)
        go_ret2;exact Qa2 (HMa.out.step hB2).below hfin.out (by decide)
       |false =>
        rw[hrc]at hj Zc;rw[Bool.false_or]at Zc;have hst:=Xh Zc.symm;have HJ:=Xh hj;clear hj hrc Zc HF3 HR;go_wp2_with (go_fit HJ.out;rintro e w2⟨rfl,hB2⟩)
        go_roundw;case rel=>exact⟨k+1,by omega,hst.out,HMa.out.step hB2,by simp,HMab.out.step hB2⟩
        case measure=>simp[intOf];omega
      ·have hno:Hid ((l.any fun c=>ZR (Za l) c.name)=false):=by
        rw[<-hff.out,Xg (by omega)];rfl
       obtain rfl:k=l.length:=(by omega);have hfin:Hid (Zj l=0):=(by rw[HF3.out,if_neg (by rw[hno.out];decide)];rfl);clear hff hno HF3 HR;have HM:=Xh hM;go_wp2_with fail;go_ret2;exact⟨⟨HM.out.below,Or.inl ⟨hfin.out,rfl,HM,HN,HA2,HCL,hlen⟩⟩,fun _=>HMb.out⟩
set_option maxRecDepth 512
theorem ZdP(l:List Qb)(lv:Value)(w:World)(hl:Qaw w)(ho:∀c∈l,qV c)(hlv:qi w lv l):Calls Tryz.prog 50 #[lv] w (Qbt w l) :=
 (Qco l lv w w Xb hl ho hlv).mono fun _ _ h=>h.1
end Go.Proofs.YtlmfmioljeppfaaGreatDoor
