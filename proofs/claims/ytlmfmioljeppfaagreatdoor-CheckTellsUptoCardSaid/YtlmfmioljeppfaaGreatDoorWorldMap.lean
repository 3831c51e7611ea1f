/- Lemmas; conditions: as each states. -/
import Derived.Test.YtlmfmioljeppfaaGreatDoorClassCheck
import Derived.Maps.Keyed
import Derived.Carry
import Derived.Laws.IdiomRangeMap
import Derived.Laws.AppendOwnNone
import Derived.Maps.AppendAt
set_option maxHeartbeats 4000000
namespace Go.Proofs.YtlmfmioljeppfaaGreatDoor
open Go.RowKit Go.Shelf Go.Lib
open Go.ChangeMaps (setBlock heap_setBlock_same heap_setBlock_other)
open Go.WideMaps (keyOf_string_mk string_law)
theorem zbv:Tryz.prog.underlying 97=some (.map 9 36):=by kernel_rfl
theorem ZaA:Tryz.prog.underlying 9=some .string:=by kernel_rfl
def Qef(w0:World)(e:MapEntry)(c:Qb):Prop :=
 e.key=.string c.name/\c.name.size<=maxLen/\∃fv dv mv,e.val=Qz c fv dv mv/\Qh w0 fv c.faces/\Qg w0 2 ZE dv c.fields/\Qg w0 8 (Zr w0) mv c.methods
structure Zp (w0 w:World) (B:Nat) (cs:List Qb):Prop where
 below:Below w0.heap.size w0 w
 ge:w0.heap.size<=B
 lt:B<w.heap.size
 map:∃es clock,w.heap[B]? = some (.map es clock)/\es.toList.length=cs.length/\∀(i:Nat) (e:MapEntry) (c:Qb),es.toList[i]? = some e->cs[i]? = some c->Qef w0 e c
theorem Zp.step{w0 w w':World}{B:Nat}{cs:List Qb}(h:Zp w0 w B cs)(hb:Below w.heap.size w w'):Zp w0 w' B cs:=by
 obtain⟨h1,h2,h3,es,clock,h4,h5⟩:=h;exact⟨Qa h1 Xl hb,h2,Nat.lt_of_lt_of_le h3 hb.size,es,clock,(hb.block B h3).trans h4,h5⟩
def Qc(cs:List Qb)(n:Str):Option Qb:=cs.find? fun c=>decide (c.name=n)
theorem Qdc(l:List Qb)(n:Str):Qc (QN::QW::l) n=zdo l n:=by
 unfold Qc zdo;by_cases h1:n=Zg
 ·subst h1;simp[QN]
 ·by_cases h2:n=zC
  ·subst h2;rw[List.find?_cons_of_neg (fun h=>h1 (Xm h).symm)];simp[QW,h1]
  ·rw[List.find?_cons_of_neg (fun h=>h1 (Xm h).symm),List.find?_cons_of_neg (fun h=>h2 (Xm h).symm),if_neg h1,if_neg h2]
theorem Zp.look{w0 w:World}{B:Nat}{cs:List Qb}(h:Zp w0 w B cs)(hn:(cs.map (·.name)).Nodup)(n:Str)(hs:n.size<=maxLen):
 ∃fv dv mv,Qh w0 fv ((Qc cs n).getD zg).faces/\Qg w0 2 ZE dv ((Qc cs n).getD zg).fields/\Qg w0 8 (Zr w0) mv ((Qc cs n).getD zg).methods /\
  ∀ok:Bool,(Instr.lookup 97 (.map (some B)) (.string n) ok).run Tryz.prog w=.ok (if ok then .tuple #[Qz ((Qc cs n).getD zg) fv dv mv,.bool (Qc cs n).isSome] else Qz ((Qc cs n).getD zg) fv dv mv) w:=by
 obtain⟨_,_,_,es,clock,hb,hlen,hget⟩:=h;have K:=string_law (P:=Tryz.prog) ZaA;have hkey:=keyOf_string_mk (P:=Tryz.prog) ZaA hs;have hks:∀e∈es.toList,∃l,keyOf Tryz.prog 9 e.key=some l:=fun e he=>by
  obtain⟨i,hi,rfl⟩:=List.getElem_of_mem he;obtain⟨h1,h2,_⟩:=hget i _ (cs[i]'(by omega)) (Xn hi) (Xn (by omega));exact⟨_,by rw[h1];exact keyOf_string_mk ZaA h2⟩
 rcases K.find w hkey es.toList hks with⟨h1,h2⟩|⟨j,e0,h1,h2,h3⟩
 ·have hno:Qc cs n=none:=by
   unfold Qc;rw[List.find?_eq_none];intro c hc;obtain⟨i,hi,rfl⟩:=List.getElem_of_mem hc;have hie:i<es.toList.length:=(by omega);obtain⟨g1,_⟩:=hget i _ _ (Xn hie) (Xn hi);have:=h2 _ (List.getElem_mem hie);rw[g1]at this;simpa using fun h=>this (by rw[h])
  refine⟨.slice none 0 0,.slice none 0 0,.slice none 0 0,?_,?_,?_,?_⟩
  ·rw[hno];exact Or.inl ⟨rfl,rfl⟩
  ·rw[hno];exact Or.inl ⟨rfl,rfl⟩
  ·rw[hno];exact Or.inl ⟨rfl,rfl⟩
  ·intro ok;rw[hno];cases ok<;>simp[Instr.lookup,run_underlying zbv,MapKept.run_getObj_map hb,K.check w _ hkey,h1,Result.andThen,Qz,zg]<;>rfl
 ·have hj:j<cs.length:=by rw[<-hlen];exact(List.getElem?_eq_some_iff.1 h2).1
  obtain⟨g1,g2,fv,dv,mv,g3,g4,g5,g6⟩:=hget j _ _ h2 (Xn hj);rw[h3]at g1;injection g1 with g1
  have hyes:Qc cs n=some cs[j]:=by
   unfold Qc;rw[List.find?_eq_some_iff_getElem];refine⟨by simp[g1],j,hj,rfl,fun i hi=>?_⟩;have:(cs.map (·.name))[i]'(by simp;omega)≠(cs.map (·.name))[j]'(by simp;omega):=List.pairwise_iff_getElem.1 hn i j (by simp;omega) (by simp;omega) hi;simp only[List.getElem_map]at this;simpa[g1] using this
  refine⟨fv,dv,mv,by rw[hyes];exact g4,by rw[hyes];exact g5,by rw[hyes];exact g6,?_⟩;intro ok;rw[hyes];cases ok<;>simp[Instr.lookup,run_underlying zbv,MapKept.run_getObj_map hb,K.check w _ hkey,h1,g3,Result.andThen]
theorem za2{w0 w:World}{B:Nat}{es:Array MapEntry}{clock:Nat}(hB:w0.heap.size<=B)(hb:w.heap[B]? = some (.map es clock))(o:Obj)(h:Below w0.heap.size w0 w):Below w0.heap.size w0 (setBlock w B o) :=
 ⟨h.os,h.tape,h.output,by simpa[setBlock] using h.size,fun k hk=>(heap_setBlock_other hb o (by omega)).trans (h.block k hk)⟩
theorem Zp.put{w0 w:World}{B:Nat}{cs:List Qb}(h:Zp w0 w B cs)(c:Qb)(fv dv mv:Value)(hs:c.name.size<=maxLen)(hnew:Qc cs c.name=none)(hf:Qh w0 fv c.faces)(hd:Qg w0 2 ZE dv c.fields)(hm:Qg w0 8 (Zr w0) mv c.methods):
 ∃w',(Instr.mapUpdate 97 (.map (some B)) (.string c.name) (Qz c fv dv mv)).run Tryz.prog w=.ok () w'/\Zp w0 w' B (cs++[c])/\w'.heap.size=w.heap.size/\∀k,k≠B->w'.heap[k]? = w.heap[k]?:=by
 obtain⟨hbe,hge,hlt,es,clock,hb,hlen,hget⟩:=h;have K:=string_law (P:=Tryz.prog) ZaA;have hkey:=keyOf_string_mk (P:=Tryz.prog) ZaA hs;have hks:∀e∈es.toList,∃l,keyOf Tryz.prog 9 e.key=some l:=fun e he=>by
  obtain⟨i,hi,rfl⟩:=List.getElem_of_mem he;obtain⟨h1,h2,_⟩:=hget i _ (cs[i]'(by omega)) (Xn hi) (Xn (by omega));exact⟨_,by rw[h1];exact keyOf_string_mk ZaA h2⟩
 rcases K.find w hkey es.toList hks with⟨h1,h2⟩|⟨j,e0,h1,h2,h3⟩
 ·refine⟨setBlock w B (.map (es.push ⟨.string c.name,Qz c fv dv mv,clock⟩) (clock+1)),?_,⟨za2 hge hb _ hbe,hge,by simpa[setBlock] using hlt,_,_,heap_setBlock_same hb _,by simp[hlen],?_⟩,by simp[setBlock],fun k hk=>heap_setBlock_other hb _ hk⟩
  ·simp[Instr.mapUpdate,run_underlying zbv,MapKept.run_getObj_map hb,K.check w false hkey,h1,MapKept.run_setObj_map _ hb,Result.andThen,setBlock]
  ·intro i e c' he hc;rw[Array.toList_push]at he;by_cases hi:i<cs.length
   ·rw[List.getElem?_append_left (by omega)]at he;rw[List.getElem?_append_left hi]at hc;exact hget i e c' he hc
   ·rw[List.getElem?_append_right (by omega)]at he hc;have h0:i-es.toList.length=0:=by
     have:=(List.getElem?_eq_some_iff.1 he).1;simpa using this
    rw[hlen]at h0;rw[hlen,h0]at he;rw[h0]at hc;simp at he hc;subst he hc;exact⟨rfl,hs,fv,dv,mv,rfl,hf,hd,hm⟩
 ·exfalso;have hj:j<cs.length:=by rw[<-hlen];exact(List.getElem?_eq_some_iff.1 h2).1
  obtain⟨g1,_⟩:=hget j _ _ h2 (Xn hj);rw[h3]at g1;injection g1 with g1
  unfold Qc at hnew;rw[List.find?_eq_none]at hnew;exact hnew cs[j] (List.getElem_mem hj) (by simp[g1])
end Go.Proofs.YtlmfmioljeppfaaGreatDoor
namespace Go.Proofs.YtlmfmioljeppfaaGreatDoor
open Go.RowKit Go.Shelf Go.Lib
theorem Zp.made(w:World):Zp w (w.alloc (.map #[] 0)) w.heap.size [] :=
 ⟨Xb.alloc Xl _,Xl,by simp,#[],0,heap_alloc_new _ _,rfl,fun i e c h=>by simp at h⟩
set_option maxRecDepth 100000
theorem ZdD(w:World):Calls Tryz.prog 86 #[] w fun e w'=>e=.returned (.map (some w.heap.size))/\Zp w w' w.heap.size [QN,QW]:=by
 have h0:=Zp.made w;obtain⟨w2,u2,h2,_⟩:=h0.put QN (.slice none 0 0) (.slice none 0 0) (.slice none 0 0) (by decide) rfl (Or.inl ⟨rfl,rfl⟩) (Or.inl ⟨rfl,rfl⟩) (Or.inl ⟨rfl,rfl⟩);obtain⟨w3,u3,h3,_⟩:=h2.put QW (.slice none 0 0) (.slice none 0 0) (.slice none 0 0) (by decide) (by decide) (Or.inl ⟨rfl,rfl⟩) (Or.inl ⟨rfl,rfl⟩) (Or.inl ⟨rfl,rfl⟩);have hmm:=fun t w=>run_makeMap (P:=Tryz.prog) t w
 have H3:=Xh h3;clear h0 h2 h3;simp only[Qz,QN,QW,zg,Zg,zC,show ByteArray.empty=⟨#[]⟩ from rfl]at u2 u3;go_enter Tryz.func86,Tryz.ntmps86;go_wp2
 go_ret;exact⟨rfl,H3⟩
set_option maxRecDepth 512
theorem Zp.look2{w0 w:World}{B:Nat}{cs:List Qb}(h:Zp w0 w B cs)(hn:(cs.map (·.name)).Nodup)(n:Str)(hs:n.size<=maxLen):
 ∃pf kf pd kd pm km,Qh w0 (.slice pf ((Qc cs n).getD zg).faces.length kf) ((Qc cs n).getD zg).faces/\Qg w0 2 ZE (.slice pd ((Qc cs n).getD zg).fields.length kd) ((Qc cs n).getD zg).fields/\Qg w0 8 (Zr w0) (.slice pm ((Qc cs n).getD zg).methods.length km) ((Qc cs n).getD zg).methods /\
  (Instr.lookup 97 (.map (some B)) (.string n) true).run Tryz.prog w=.ok (.tuple #[Qz ((Qc cs n).getD zg) (.slice pf ((Qc cs n).getD zg).faces.length kf) (.slice pd ((Qc cs n).getD zg).fields.length kd) (.slice pm ((Qc cs n).getD zg).methods.length km),.bool (Qc cs n).isSome]) w /\
  (Instr.lookup 97 (.map (some B)) (.string n) false).run Tryz.prog w=.ok (Qz ((Qc cs n).getD zg) (.slice pf ((Qc cs n).getD zg).faces.length kf) (.slice pd ((Qc cs n).getD zg).fields.length kd) (.slice pm ((Qc cs n).getD zg).methods.length km)) w:=by
 obtain⟨fv,dv,mv,h1,h2,h3,h4⟩:=h.look hn n hs;obtain⟨pf,kf,rfl,_⟩:=h1.open;obtain⟨pd,kd,rfl,_⟩:=h2.open;obtain⟨pm,km,rfl,_⟩:=h3.open;exact⟨pf,kf,pd,kd,pm,km,h1,h2,h3,h4 true,h4 false⟩
def zu(cs:List Qb)(n:Str)(f:Bool):Nat:=match Qc cs n with|none=>3|some c=>if c.face=f then 0 else 7
set_option maxRecDepth 100000
theorem zec(w0 w:World)(B:Nat)(cs:List Qb)(hm:Zp w0 w B cs)(hn:(cs.map (·.name)).Nodup)(n:Str)(hs:n.size<=maxLen)(f:Bool):
 Calls Tryz.prog 123 #[.map (some B),.string n,.bool f] w fun e w'=>e=.returned (zE (zu cs n f))/\Below w.heap.size w w':=by
 obtain⟨pf,kf,pd,kd,pm,km,_,_,_,hlk,_⟩:=hm.look2 hn n hs;unfold zu;cases hfc:Qc cs n with
 |none =>
  rw[hfc]at hlk;simp only[Option.getD_none,Option.isSome_none,Qz]at hlk;clear hfc hm hn;generalize zg=c at *;obtain⟨name,super,faces,face,fields,methods⟩:=c;go_enter Tryz.func123,Tryz.ntmps123;go_wp2
  go_ret;exact⟨rfl,Xb.alloc Xl _⟩
 |some c =>
  rw[hfc]at hlk;simp only[Option.getD_some,Option.isSome_some,Qz]at hlk;clear hfc hm hn;obtain⟨name,super,faces,face,fields,methods⟩:=c;dsimp only at *;cases face<;>cases f
  all_goals
   go_enter Tryz.func123,Tryz.ntmps123;go_wp2
   go_ret;exact⟨rfl,Xb.alloc Xl _⟩
set_option maxRecDepth 512
theorem QY(W:World)(base:Nat)(v:Value)(hb:base<=W.heap.size):(W.alloc (.cells #[v] 9)).ownsRow base 9 1 (.slice (some ⟨W.heap.size,0,none⟩) 1 1) 1 [v] :=
 ⟨rfl,Or.inr ⟨W.heap.size,1,#[v],rfl,hb,heap_alloc_new _ _,Xl,by decide,rfl,rfl⟩⟩
theorem QbD{w:World}{a:Addr}{m c:Nat}{l:List ByteArray}(h:Qh w (.slice (some a) m c) l):∀(j:Nat) (u:Value),(l.map Value.string)[j]? = some u->w.cell? (a.add j)=some u:=by
 intro j u hj;rcases h with⟨h,_⟩|⟨a',cap,h1,_,_,h4⟩
 ·simp at h
 ·injection h1 with h1;injection h1 with h1;subst h1
  rw[List.getElem?_map]at hj;cases hx:l[j]? with
  |none=>rw[hx]at hj;simp at hj
  |some x =>
   rw[hx]at hj;simp at hj;subst hj;obtain⟨vs,r1,r2,r3,r4⟩:=h4 j x hx;unfold zr at r1;subst r1;have:=r4.1;rw[Nat.mul_one]at this;rw[r3,Addr.add_lit];exact this
theorem ZaU(w:World)(o:Obj)(v:Value):((w.alloc o).alloc (.cells #[v] 9)).ownsRow w.heap.size 9 1 (.slice (some ⟨w.heap.size+1,0,none⟩) 1 1) 1 [v]:=by
 have:=QY (w.alloc o) w.heap.size v (Xb.alloc Xl _).size;rwa [World.size_alloc]at this
theorem QQ(w:World)(o p:Obj):Below w.heap.size w ((w.alloc o).alloc p):=(Xb.alloc Xl _).alloc (by simp) _
def qep(lo hi:Nat)(v:Value):Prop:=∀g,v.ownBlock=some g->g<lo\/hi<=g
theorem zau{w:World}{v:Value}{l:List ByteArray}(h:Qh w v l)(hl:l≠[]):∃g,v.ownBlock=some g/\g<w.heap.size:=by
 rcases h with⟨_,h⟩|⟨a,cap,h1,_,_,h4⟩
 ·exact absurd h hl
 ·obtain⟨y,r,rfl⟩:=List.exists_cons_of_ne_nil hl;obtain⟨vs,r1,r2,r3,r4⟩:=h4 0 y rfl;unfold zr at r1;subst r1;exact⟨a.block,by rw[h1];rfl,r4.lt⟩
theorem Qh.grown{w w':World}{v:Value}{l:List ByteArray}{row:Option Nat}(h:Qh w v l)(hg:w.grownBy w' row)(hs:l=[]\/v.ownBlock≠row):Qh w' v l:=by
 rcases h with h|⟨a,cap,h1,h2,h3,h4⟩
 ·exact Or.inl h
 ·refine Or.inr ⟨a,cap,h1,h2,h3,fun i x hx=>?_⟩;have hs':v.ownBlock≠row:=by
   rcases hs with hs|hs
   ·subst hs;simp at hx
   ·exact hs
  obtain⟨vs,r1,r2,r3,r4⟩:=h4 i x hx;refine⟨vs,r1,r2,r3,?_⟩;unfold zr at r1;subst r1;have hlt:=r4.lt;refine⟨?_,trivial⟩;have:=World.cell?_of_block (w:=w) (w':=w') (a:=⟨a.block,a.off+i*1,none⟩) (hg.block a.block hlt (by rw[h1]at hs';exact hs'));rw[this];exact r4.1
def Qo(cs:List Qb)(n:Str):List Str :=
 if ((Qc cs n).getD zg).super.size=0 then ((Qc cs n).getD zg).faces else ((Qc cs n).getD zg).super::((Qc cs n).getD zg).faces
set_option maxRecDepth 100000
theorem qcp(w0 w:World)(B:Nat)(cs:List Qb)(hm:Zp w0 w B cs)(hn:(cs.map (·.name)).Nodup)(h8:∀c∈cs,c.faces.length<=8)(n:Str)(hs:n.size<=maxLen):
 Calls Tryz.prog 125 #[.map (some B),.string n] w fun e w'=>(∃v,e=.returned v/\Qh w' v (Qo cs n)/\(Qo cs n=[]\/qep w0.heap.size w.heap.size v))/\Below w.heap.size w w':=by
 obtain⟨pf,kf,pd,kd,pm,km,hf,_,_,_,hlk⟩:=hm.look2 hn n hs;unfold Qo;have hc8:((Qc cs n).getD zg).faces.length<=8:=by
  cases hfc:Qc cs n with
  |none=>exact Nat.zero_le _
  |some c=>exact h8 c (List.mem_of_find?_eq_some hfc)
 have hfw:=hf.mono hm.below;have hlt:=hm.lt;have hfa:((Qc cs n).getD zg).faces=[]\/qep w0.heap.size w.heap.size (.slice pf ((Qc cs n).getD zg).faces.length kf):=by
  by_cases he:((Qc cs n).getD zg).faces=[]
  ·exact Or.inl he
  ·refine Or.inr fun g hg=>Or.inl ?_
   obtain⟨g',h1,h2⟩:=zau hf he;rw[h1]at hg;injection hg with hg;omega
 clear hm hn h8 hf;generalize (Qc cs n).getD zg=c at *;obtain⟨name,super,faces,face,fields,methods⟩:=c;unfold Qz at hlk;dsimp only at *;have ze:super.toList.isEmpty=decide (super.size=0):=ZD super;by_cases h0:super.size=0
 ·rw[if_pos h0];rw[Xj h0]at ze;have HFW:=Xh hfw;have HFA:=Xh hfa;clear hfw h0 hfa;go_enter Tryz.func125,Tryz.ntmps125;go_wp2
  go_ret;exact⟨⟨_,rfl,HFW.out.mono (Xb.alloc Xl _),HFA⟩,Xb.alloc Xl _⟩
 ·rw[if_neg h0];rw[Xi h0]at ze;have HFW:=Xh hfw;clear h0 hfa;obtain⟨i0,hi,hz0,hz1,hz2⟩:=info_parts qO;have c1:(faces.map Value.string).length=faces.length*1:=by simp
  have c2:∀u∈faces.map Value.string,u.oneCell'=true:=fun u hu=>by obtain⟨x,_,rfl⟩:=List.mem_map.1 hu;rfl
  have c3:1+faces.length<=maxLen:=Xf (show 1+faces.length<=9 by omega) (by decide);have c4:(1+faces.length)*16<=140737488355328:=by omega
  rcases HFW.out with⟨hv,rfl⟩|⟨a,cap,hv,_⟩
  ·injection hv with hv1 hv2 hv3
   subst hv1 hv3;clear hfw;go_enter Tryz.func125,Tryz.ntmps125;go_wp2_with (at_builtin;(refine wpList_append_own_none rfl _ _ 25 rfl w.heap.size 9 i0 1 Tryz.underlying25 hi _ 1 _ rfl (ZaU w _ (.string super)) rfl ?_))
   go_ret;refine⟨⟨_,rfl,?_,Or.inr fun g hg=>Or.inr (by injection hg with hg;subst hg;simp)⟩,QQ _ _ _⟩;exact Ze (l:=[super]) (ZaU w _ (.string super))
  ·injection hv with hv1 _ hv3
   subst hv1 hv3;have hnews:=QbD (hfw.mono (QQ w (.cells #[.string name,.string super,.slice (some a) faces.length kf,.bool face,.slice pd fields.length kd,.slice pm methods.length km] 36) (.cells #[.string super] 9)));clear hfw;go_enter Tryz.func125,Tryz.ntmps125;go_wp2_with (at_builtin;(refine wpList_append_own_at _ rfl _ _ 25 rfl w.heap.size 9 i0 (.string .empty) 1 16 Tryz.underlying25 hi hz0 hz1 hz2 rfl (by decide) _ _ _ rfl (ZaU w _ (.string super)) a faces.length kf (faces.map Value.string) rfl c1 hnews c2 c3 c4 (QQ _ _ _).size ?_;intro v2 w3 hown3 hgrow3 _ hat3))
   have habv:∀g,v2.ownBlock=some g->w.heap.size<=g:=fun g hg=>by
    rcases hat3 with h|h
    ·rw[h]at hg;injection hg with hg;subst hg;simp
    ·rw[h]at hg;injection hg with hg;subst hg;exact(QQ _ _ _).size
   go_ret;refine⟨⟨_,rfl,?_,by first|exact Or.inr (fun g hg=>Or.inr (habv g hg))|exact(fun g hg=>Or.inr (habv g hg))⟩,(QQ _ _ _).grown hgrow3 (QQ _ _ _).size (fun k hk=>by injection hk with hk;subst hk;simp)⟩;exact Ze (l:=super::faces) (by simpa[Nat.add_comm] using hown3)
set_option maxRecDepth 512
end Go.Proofs.YtlmfmioljeppfaaGreatDoor
