/- Lemmas; conditions: as each states. -/
import Derived.Test.YtlmfmioljeppfaaGreatDoorLooked
set_option maxHeartbeats 4000000
namespace Go.Proofs.YtlmfmioljeppfaaGreatDoor
open Go.RowKit Go.Shelf Go.Lib
def Qbx(w:World)(l:List Qb)(cls:Str)(at':Int)(e:Ending)(w':World):Prop :=
 Below w.heap.size w w'/\((qD l cls at'=0/\∃m ws B v,qS cls at' l=some m/\Hid (m.abs=false)/\e=.returned (.tuple #[.map (some B),v,.nilIface])/\zZ w m v/\zy ws w' B l) \/
  (qD l cls at'≠0/\e=.returned (.tuple #[.map none,.agg Zn.toArray,.iface 29 (.int .i64 (qD l cls at'))])))
theorem Qch{C w w':World}{B:Nat}{cs:List Qb}(h:Qp C w B cs)(F:Below C.heap.size C w')(D:w'.heap[B]? = w.heap[B]?):Qp C w' B cs:=by
 obtain⟨_,G,L,H,A,E,I,J⟩:=h;exact⟨F,G,(Array.getElem?_eq_some_iff.1 (D.trans E)).1,H,A,D.trans E,I,J⟩
theorem zdc{w:World}{b B:Nat}(h:B≠b)(A C D E F G H I:Value):
 ((((((((w.setCell ⟨b,0,none⟩ A).setCell ⟨b,1,none⟩ C).setCell ⟨b,2,none⟩ D).setCell ⟨b,3,none⟩ E).setCell ⟨b,4,none⟩ F).setCell ⟨b,5,none⟩ G).setCell ⟨b,6,none⟩ H).setCell ⟨b,7,none⟩ I).heap[B]? = w.heap[B]? :=
 (Xk _ _ _ _ h).trans ((Xk _ _ _ _ h).trans ((Xk _ _ _ _ h).trans ((Xk _ _ _ _ h).trans ((Xk _ _ _ _ h).trans ((Xk _ _ _ _ h).trans ((Xk _ _ _ _ h).trans (Xk _ _ _ _ h)))))))
theorem ZbM{cls:Str}{at':Int}{l:List Qb}{k:Nat}{c:Qb}(B:l[k]? = some c):qS cls at' (l.drop k)=if c.name=cls/\0<=at'/\at'<(c.methods.length:Int) then c.methods[at'.toNat]? else qS cls at' (l.drop (k+1)):=by
 obtain⟨A,rfl⟩:=List.getElem?_eq_some_iff.1 B;rw[List.drop_eq_getElem_cons A];rfl
set_option maxRecDepth 100000
theorem Zck(l:List Qb)(lv:Value)(cls:Str)(at':Int)(w:World)(hl:QaB w)(ho:∀c∈l,qab c)(S:qj w lv l):
 Calls Tryz.prog 62 #[lv,.string cls,.int .i64 at'] w (Qbx w l cls at'):=by
 have N:Hid (∀wx,Below w.heap.size w wx->_):=fun wx hb=>ZdD l lv w wx hb (hl.mono hb hl.1) ho S
 obtain⟨pl,cap,rfl,hn1,hn2,aC⟩:=S.open;have HC:=Xh aC;have hlen:l.length<=9223372036854775807:=Xf hn1 hn2;have r:Below w.heap.size w (w.alloc (.cells #[.string ⟨#[]⟩,.string ⟨#[]⟩,.bool false,.bool false,.bool false,.int .i64 0,.slice none 0 0,.slice none 0 0] 53)):=Xb.alloc Xl _;have k0:=Blk.new w 53 Zn;clear aC S hl ho;unfold zbE Qb8 at N;by_cases M:Zp l=0
 ·have j:Hid (qD l cls at'=match qS cls at' l with|none=>3|some m=>if m.abs then 1 else 0):=by
   unfold Hid qD;rw[if_neg (by rw[M];decide)];cases qS cls at' l<;>rfl
  have n:=Xh M;clear M;go_enter Tryz.func62,Tryz.ntmps62;go_wp2_with (go_fit (N.out _ r);rintro e w2⟨⟨F,⟨_,rfl,_,_,hA,_,_⟩|⟨M,_⟩⟩,hMb⟩;rotate_left;(exact absurd n.out M))
  have p:=k0.step F;have B2:=Qa r Xl F;have O:=Xh B2;have s:=Xh p;have hM:=hMb n.out;rw[World.size_alloc]at hM;have Hm:=Xh hM;have HR:=Xh (And.intro (zbs n.out) hA);clear k0 r F B2 p hM hMb hA N;go_loopw [24] (fun x wr=>∃k:Nat,k<=l.length/\x=.int .i64 k/\Hid (Below w2.heap.size w2 wr)/\Hid (qS cls at' (l.drop k)=qS cls at' l)) (fun x _=>l.length-(intOf x).toNat)
  case atStart=>exact⟨0,Nat.zero_le _,rfl,Xb,rfl⟩
  case round =>
   obtain⟨k,hk,rfl,D,hN⟩:=hrel;by_cases hkl:k<l.length
   ·obtain⟨c,hx⟩:∃x,l[k]? = some x:=⟨l[k],by simp[hkl]⟩;obtain⟨b,o,vs,rfl,⟨fv,dv,mv,rfl,q1,q2,q⟩,_,t⟩:=HC.out k c hx;have t:=t.mono (Qa O Xl D) t.lt;have H:=ZbM (cls:=cls) (at':=at') hx;rw[hN.out]at H;obtain⟨V,cs,cf,cb,cd,R⟩:=c;dsimp only at H t q;obtain⟨c0,c1,c2,c3,c4,c5,_⟩:=t;obtain⟨pm,km,rfl,hm1,hm2,hmc⟩:=q.open;obtain⟨pf,kf,rfl,_⟩:=q1.open;obtain⟨pd,kd,rfl,_⟩:=q2.open;have e1:=q8 V cls;have hmlen:R.length<=9223372036854775807:=Xf hm1 hm2;have HMc:=Xh hmc;have Hx:=Xh hx;clear hx hmc q1 q2 q;by_cases B:V=cls
    ·rw[Xj B]at e1;by_cases ha:0<=at'/\at'<(R.length:Int)
     ·obtain⟨X,ha1⟩:=ha;obtain⟨a,rfl⟩:=Int.eq_ofNat_of_zero_le X;rw[if_pos ⟨B,X,ha1⟩]at H;have hal:a<R.length:=(by omega);obtain⟨E,Y⟩:∃x,R[a]? = some x:=⟨R[a],by simp[hal]⟩;have A:qS cls (a:Int) l=some E:=(by rw[H];exact Y);obtain⟨bb,oo,vs,rfl,⟨cv,hv,rfl,k1,p⟩,_,C⟩:=HMc.out a E Y;have C:=C.mono (Qa O Xl D) C.lt;obtain⟨pc,kc,rfl,_⟩:=k1.open;obtain⟨ph,kh,rfl,_⟩:=p.open;have y:Hid (zZ w E (.agg #[.string E.name,.string E.type,.bool E.static,.bool E.abs,.bool E.priv,.int .i64 E.locals,.slice pc E.code.length kc,.slice ph E.handlers.length kh])):=⟨pc,kc,ph,kh,rfl,k1,p⟩;have HSt:=Xh A;have I:Hid (qD l cls (a:Int)=if E.abs then 1 else 0):=by
       unfold Hid;rw[j.out,A]
      clear A H Y k1 p j hN X;subst B;obtain⟨mn,mt,Z,mab,d,f,g,i⟩:=E;dsimp only at C I y;have J:Below wr.heap.size wr (wr.alloc (.cells #[.string V,.string cs,.slice pf cf.length kf,.bool cb,.slice pd cd.length kd,.slice (some ⟨bb,oo,none⟩) R.length km] 36)):=Xb.alloc Xl _;have g5:=(Blk.new wr 36 [.string V,.string cs,.slice pf cf.length kf,.bool cb,.slice pd cd.length kd,.slice (some ⟨bb,oo,none⟩) R.length km]).cell 5;obtain⟨u0,u1,u2,u3,u4,u5,u6,u7,_⟩:=C.mono J C.lt;have u3':(wr.alloc (.cells #[.string V,.string cs,.slice pf cf.length kf,.bool cb,.slice pd cd.length kd,.slice (some ⟨bb,oo,none⟩) R.length km] 36)).cell? ⟨bb,oo+a*8+3,none⟩=some (.bool mab):=u3;have G:=(s.out.step D.out).step J;have B3:=Qa (Qa O Xl D) Xl J;have T:=Xh ((Hm.out.step D.out).step J);clear J;obtain⟨q0,q1,q2,q,q4,q5,q6,q7⟩:=G.method;have z:=G.frozen;have L:=HSt.out;cases mab with
      |true =>
       have P:Hid (qD l V (a:Int)=1):=I.out;have U:=Xh (ZB B3 Xl (.string ⟨#[]⟩) (.string ⟨#[]⟩) (.bool false) (.bool false) (.bool false) (.int .i64 0) (.slice none 0 0) (.slice none 0 0));clear B3 G L I T;go_wp2_with fail;exact bodyPost_ret (v:=.tuple #[.map none,.agg Zn.toArray,.iface 29 (.int .i64 1)]) (by simp[results,Tryz.results62,go_sem, *,Zn]) rfl ⟨U,Or.inr ⟨by rw[P.out];decide,by rw[P.out];rfl⟩⟩
      |false =>
       have P:Hid (qD l V (a:Int)=0):=I.out;have hE:=ZB B3 Xl (.string mn) (.string mt) (.bool Z) (.bool false) (.bool d) (.int .i64 f) (.slice pc g.length kc) (.slice ph i.length kh);have aA:=(Qch T.out hE (zdc (Nat.succ_ne_self _) (.string mn) (.string mt) (.bool Z) (.bool false) (.bool d) (.int .i64 f) (.slice pc g.length kc) (.slice ph i.length kh))).step (Xb.drew);have U:=Xh hE.drew;have HM4:Hid (zy _ _ _ _):=⟨aA,HR.out.1,HR.out.2⟩;have HS2:=Xh L;clear B3 G L I T hE aA;go_upto_region 10 with fail;go_region
       clear u0 u1 u2 u3 u4 u5 u6 u7 u3' g5;all_goals
        go_wp2_with fail;exact bodyPost_ret (v:=.tuple #[.map (some (w.heap.size+1)),.agg #[.string mn,.string mt,.bool Z,.bool false,.bool d,.int .i64 f,.slice pc g.length kc,.slice ph i.length kh],.nilIface]) (by simp[results,Tryz.results62,go_sem, *]) rfl ⟨U,Or.inl ⟨P,_,w,w.heap.size+1,_,HS2,rfl,rfl,y,HM4⟩⟩
     ·rw[if_neg (fun h=>ha h.2)]at H;have A:=Xh H.symm;have HI:=Xh ha;clear H ha;by_cases h0:0<=at'
      ·have h1:¬at'<(R.length:Int):=fun h=>HI.out ⟨h0,h⟩
       go_wp2_with fail;go_roundw;case rel=>exact⟨k+1,by omega,by simp,D.out.alloc D.out.size _,A⟩
       case measure=>simp[intOf];omega
      ·go_wp2_with fail;go_roundw;case rel=>exact⟨k+1,by omega,by simp,D.out.alloc D.out.size _,A⟩
       case measure=>simp[intOf];omega
    ·rw[Xi B]at e1;rw[if_neg (fun h=>B h.1)]at H;have A:=Xh H.symm;clear H B;go_wp2_with fail;go_roundw;case rel=>exact⟨k+1,by omega,by simp,D.out.alloc D.out.size _,A⟩
     case measure=>simp[intOf];omega
   ·obtain rfl:k=l.length:=(by omega);have hNo:qS cls at' l=none:=by
     rw[<-hN.out,List.drop_length];rfl
    have aB:Hid (qD l cls at'=3):=by
     unfold Hid;rw[j.out,hNo]
    have G:=s.out.step D.out;obtain⟨q0,q1,q2,q,q4,q5,q6,q7⟩:=G.method;have z:=G.frozen;have U:=Xh (ZB (Qa O Xl D) Xl (.string ⟨#[]⟩) (.string ⟨#[]⟩) (.bool false) (.bool false) (.bool false) (.int .i64 0) (.slice none 0 0) (.slice none 0 0));clear G;go_wp2_with fail;exact bodyPost_ret (v:=.tuple #[.map none,.agg Zn.toArray,.iface 29 (.int .i64 3)]) (by simp[results,Tryz.results62,go_sem, *,Zn]) rfl ⟨U,Or.inr ⟨by rw[aB.out];decide,by rw[aB.out];rfl⟩⟩
 ·have j:Hid (qD l cls at'=Zp l):=by
   unfold Hid qD;rw[if_pos M]
  have n:=Xh M;clear M;go_enter Tryz.func62,Tryz.ntmps62;go_upto_region 3 with(go_fit (N.out _ r);rintro e w2⟨⟨F,⟨M,_⟩|⟨_,rfl⟩⟩,_⟩;(exact absurd M n.out))
  have G:=k0.step F;obtain⟨q0,q1,q2,q,q4,q5,q6,q7⟩:=G.method;have z:=G.frozen;have U:=Xh (ZB (Qa r Xl F) Xl (.string ⟨#[]⟩) (.string ⟨#[]⟩) (.bool false) (.bool false) (.bool false) (.int .i64 0) (.slice none 0 0) (.slice none 0 0));clear G k0;go_wp2_with fail;exact bodyPost_ret (v:=.tuple #[.map none,.agg Zn.toArray,.iface 29 (.int .i64 (Zp l))]) (by simp[results,Tryz.results62,go_sem, *,Zn]) rfl ⟨U,Or.inr ⟨by rw[j.out];exact n.out,by rw[j.out]⟩⟩
set_option maxRecDepth 512
def zaT(l:List Value):Prop:=∀u∈l,∀s,u≠.string s
def z9(te:TypeId)(w:World)(base:Nat)(v:Value)(n:Nat)(xs:List Value):Prop:=(v=.slice none 0 0/\n=0/\xs=[]) \/
 ∃b cap vals,v=.slice (some ⟨b,0,none⟩) n cap/\base<=b/\Blk w b te vals/\n<=cap/\cap<=maxLen/\cap*3<=vals.length/\xs.length=n*3/\zaT vals/\∀(j:Nat) (u:Value),xs[j]? = some u->vals[j]? = some u
theorem z9.empty(A:TypeId)(w:World)(base:Nat):z9 A w base (.slice none 0 0) 0 []:=Or.inl ⟨rfl,rfl,rfl⟩
theorem z9.lt{C:TypeId}{w:World}{base:Nat}{v:Value}{n:Nat}{xs:List Value}(h:z9 C w base v n xs):∀g,v.ownBlock=some g->base<=g/\g<w.heap.size:=by
 intro g A;rcases h with⟨rfl,_⟩|⟨b,cap,B,rfl,D,E,_⟩
 ·cases A
 ·injection A with A
  subst A;exact⟨D,E.lt⟩
theorem z9.keep{B:TypeId}{w w':World}{base:Nat}{v:Value}{n:Nat}{xs:List Value}(h:z9 B w base v n xs)(C:∀g,v.ownBlock=some g->w'.heap[g]? = w.heap[g]?):z9 B w' base v n xs:=by
 rcases h with h|⟨b,cap,A,rfl,D,E,F⟩
 ·exact Or.inl h
 ·exact Or.inr ⟨b,cap,A,rfl,D,(C b rfl).trans E,F⟩
theorem z9.below{A:TypeId}{w w':World}{base:Nat}{v:Value}{n:Nat}{xs:List Value}(h:z9 A w base v n xs)(B:Below w.heap.size w w'):z9 A w' base v n xs:=h.keep fun g C=>B.block g (h.lt g C).2
theorem z9.shape{B:TypeId}{w:World}{base:Nat}{v:Value}{n:Nat}{xs:List Value}(h:z9 B w base v n xs):∃a c,v=.slice a n c:=by
 rcases h with⟨rfl,rfl,_⟩|⟨b,cap,A,rfl,_⟩
 ·exact⟨none,0,rfl⟩
 ·exact⟨_,_,rfl⟩
theorem z9.keepS{G:TypeId}{w w':World}{base:Nat}{v:Value}{n:Nat}{xs:List Value}(h:z9 G w base v n xs)(E:w.grownBy w' v.ownBlock):qx w w':=by
 rcases h with⟨rfl,_⟩|⟨b,cap,F,rfl,_,D,_,_,_,_,I,_⟩
 ·exact fun a s e=>(World.cell?_of_block (E.block a.block (ql e) (by simp[Value.ownBlock]))).trans e
 ·refine qx.blocks b (fun k H C=>E.block k H fun e=>C (Option.some.inj e)) fun a s B e=>?_
  obtain⟨c,off,A⟩:=a;have B:c=b:=B;subst B;cases A with
  |none =>
   rw[D.cell off]at e;exact I _ (Xe e) s rfl
  |some x =>
   unfold Blk at D;unfold World.cell? at e;rw[D]at e;cases e
theorem qdD{n:Nat}{u:Value}(h:u∈(Builtin.zeroCells (Value.agg #[.int .i64 0,.slice none 0 0,.slice none 0 0]).cells n).toList):∀s,u≠.string s:=by
 unfold Builtin.zeroCells at h;simp only[Array.toList_map,List.mem_map]at h;obtain⟨i,_,rfl⟩:=h;have A:(Value.agg #[.int .i64 0,.slice none 0 0,.slice none 0 0]).cells=#[.int .i64 0,.slice none 0 0,.slice none 0 0]:=by kernel_rfl
 rw[A];intro s;have B:i % 3<3:=Nat.mod_lt _ (by decide);show #[Value.int .i64 0,.slice none 0 0,.slice none 0 0].getD (i % 3) _≠_
 match hq:i % 3,B with
 |0,_=>simp
 |1,_=>simp
 |2,_=>simp
theorem z9.made(B:TypeId)(w:World){base n cap:Nat}{xs:List Value}(F:base<=w.heap.size)(G:n<=cap)(H:cap<=maxLen)(C:xs.length=n*3)(I:zaT xs):
 z9 B (w.alloc (.cells (xs.toArray++Builtin.zeroCells (Value.agg #[.int .i64 0,.slice none 0 0,.slice none 0 0]).cells (cap-n)) B)) base (.slice (some ⟨w.heap.size,0,none⟩) n cap) n xs:=by
 have J:(Value.agg #[.int .i64 0,.slice none 0 0,.slice none 0 0]).cells.size=3:=by kernel_rfl
 have L:xs.toArray++Builtin.zeroCells (Value.agg #[.int .i64 0,.slice none 0 0,.slice none 0 0]).cells (cap-n)=(xs++(Builtin.zeroCells (Value.agg #[.int .i64 0,.slice none 0 0,.slice none 0 0]).cells (cap-n)).toList).toArray:=by
  apply Array.ext';simp
 rw[L];refine Or.inr ⟨w.heap.size,cap,_,rfl,F,Blk.new w B _,G,H,?_,C,fun u A=>?_,fun j u E=>?_⟩
 ·have D:=size_zeroCells (Value.agg #[.int .i64 0,.slice none 0 0,.slice none 0 0]).cells (cap-n);rw[J]at D;rw[List.length_append,C,show(Builtin.zeroCells (Value.agg #[.int .i64 0,.slice none 0 0,.slice none 0 0]).cells (cap-n)).toList.length=(cap-n)*3 from D,<-Nat.add_mul];exact Nat.mul_le_mul_right _ (by omega)
 ·rcases List.mem_append.1 A with A|A
  ·exact I u A
  ·exact qdD A
 ·rw[List.getElem?_append_left (List.getElem?_eq_some_iff.1 E).1];exact E
theorem zdY{A:List Value}{o:Nat}{a b c:Value}{xs:List Value}(D:xs.length=o)(hs:o+3<=A.length)(h:∀(j:Nat) (u:Value),xs[j]? = some u->A[j]? = some u):
 ∀(j:Nat) (u:Value),(xs++[a,b,c])[j]? = some u->(((A.set o a).set (o+1) b).set (o+2) c)[j]? = some u:=by
 intro j u B;by_cases E:j<xs.length
 ·rw[List.getElem?_append_left E]at B;rw[List.getElem?_set_ne (by omega),List.getElem?_set_ne (by omega),List.getElem?_set_ne (by omega)];exact h j u B
 ·rw[List.getElem?_append_right (by omega)]at B;have C:j-xs.length<3:=(List.getElem?_eq_some_iff.1 B).1;obtain⟨d,F⟩:∃d,j=o+d:=⟨j-o,by omega⟩;subst F;rw[D,Nat.add_sub_cancel_left]at B C;match d,C with
  |0,_ =>
   rw[List.getElem?_set_ne (by omega),List.getElem?_set_ne (by omega),Nat.add_zero,List.getElem?_set_self (by omega)];exact B
  |1,_ =>
   rw[List.getElem?_set_ne (by omega),List.getElem?_set_self (by rw[List.length_set];omega)];exact B
  |2,_ =>
   rw[List.getElem?_set_self (by rw[List.length_set,List.length_set];omega)];exact B
theorem qbm{l:List Value}(h:zaT l)(o:Nat){a:Value}(B:∀s,a≠.string s):zaT (l.set o a):=fun u A=>by
 rcases List.mem_or_eq_of_mem_set A with A|rfl
 ·exact h u A
 ·exact B
theorem QbQ{C ts:TypeId}(B:Tryz.prog.underlying ts=some (.slice C))(O:(Tryz.prog.info? C).map (fun i=>(i.zero,i.size,i.bytes))=some (some (.agg #[.int .i64 0,.slice none 0 0,.slice none 0 0]),3,56)){w:World}(ty:TypeId){base:Nat}{v:Value}{n:Nat}{xs:List Value}(h:z9 C w base v n xs)(D:base<=w.heap.size)(G H I:Value)(T:Addr)(c:Nat)(q:∀j u,[G,H,I][j]? = some u->w.cell? (T.add j)=some u)(ho:∀u∈[G,H,I],u.oneCell'=true)(U:zaT [G,H,I])(V:n+1<=maxLen)(J:(n+1)*56<=140737488355328):
 ∃x w',(Builtin.append_ #[ts,ts] ty #[v,.slice (some T) 1 c]).run Tryz.prog w=.ok x w'/\z9 C w' base x (n+1) (xs++[G,H,I])/\w.grownBy w' v.ownBlock/\∀g,x.ownBlock=some g->v.ownBlock=some g\/w.heap.size<=g:=by
 obtain⟨l,s,Y,L,Z⟩:=info_parts O;rcases h with⟨rfl,rfl,rfl⟩|⟨b,cap,N,rfl,hb,p,hlc,y,d,M,f,F⟩
 ·have S:=run_append_nil (P:=Tryz.prog) (w:=w) ts ty C l _ B s Y T 1 c [G,H,I] (by rw[L];rfl) q (by decide) (by decide) (by rw[Z];decide);exact⟨_,_,S,z9.made C w.drew D (grownCap_ge w 1 0 C) (grownCap_le_maxLen w 1 0 C (by decide)) rfl U,⟨rfl,rfl,rfl,by simp,fun k o _=>heap_alloc_old w.drew _ o⟩,fun g a=>Or.inr (Nat.le_of_eq (Option.some.inj a))⟩
 ·by_cases A:n+1<=cap
  ·have R:l.size=3:=L;have X:∀j,j<3->n*3+j<N.length:=fun j m=>by have:=Nat.mul_le_mul_right 3 A;omega
   have S:=run_append_room_cells (P:=Tryz.prog) w ts ty C l B s b 0 n cap T 1 c [G,H,I] (by rw[R];rfl) q ho A
    (fun j m=>by
     rw[R,Nat.zero_add,p.cell,Xn (X j m)];rfl)
    (fun j _=>p.frozen _)
   rw[R,Nat.zero_add]at S;refine⟨_,_,S,Or.inr ⟨b,cap,((N.set (n*3) G).set (n*3+1) H).set (n*3+2) I,rfl,hb,((p.put _ _).put _ _).put _ _,A,y,by simpa using d,by rw[List.length_append,M];show _+3=_;omega,?_,zdY M (by have:=X 2 (by decide);omega) F⟩,⟨rfl,rfl,rfl,by simp[World.setCells],fun k o t=>?_⟩,fun g a=>Or.inl a⟩
   ·exact qbm (qbm (qbm f _ (U G (by simp))) _ (U H (by simp))) _ (U I (by simp))
   ·have E:k≠b:=fun e=>t (by rw[e];rfl)
    exact(Xk _ _ _ _ E).trans ((Xk _ _ _ _ E).trans (Xk _ _ _ _ E))
  ·have S:=run_append_grow (P:=Tryz.prog) (w:=w) ts ty C l _ B s Y ⟨b,0,none⟩ n cap xs (by rw[L];exact M)
    (fun j u B=>by
     rw[zbq rfl,Nat.zero_add,p.cell];exact F j u B) T 1 c [G,H,I] (by rw[L];rfl) q (by omega) (by unfold maxLen at V;omega) (growslice_fits (by omega) (by rw[Z];exact J))
   have r:zaT xs:=fun u B=>by
    obtain⟨j,m,rfl⟩:=List.getElem_of_mem B;exact f _ (Xe (F j _ (Xn m)))
   have z:=z9.made C w.drew (xs:=xs++[G,H,I]) (base:=base) (n:=n+1) (cap:=grownCap w (n+1) cap C) D (grownCap_ge w _ _ _) (grownCap_le_maxLen w _ _ _ V) (by rw[List.length_append,M];show _+3=_;omega) (fun u B=>by
    rcases List.mem_append.1 B with B|B
    ·exact r u B
    ·exact U u B)
   rw[<-List.append_toArray]at z;exact⟨_,_,S,z,⟨rfl,rfl,rfl,by simp,fun k o _=>heap_alloc_old w.drew _ o⟩,fun g a=>Or.inr (Nat.le_of_eq (Option.some.inj a))⟩
theorem qaN{J ts:TypeId}(O:Tryz.prog.underlying ts=some (.slice J))(B:(Tryz.prog.info? J).map (fun i=>(i.zero,i.size,i.bytes))=some (some (.agg #[.int .i64 0,.slice none 0 0,.slice none 0 0]),3,56)){w:World}{F:Array Oper}{o:Oper}{a:Act}{K:Act->World->Prop}{Q:Exit->Act->World->Prop}{E:Prop}(L:o.guard=none)(s x:Operand)(P:o.op=.call { callee:=.builtin .append,args:=#[s,x],argTypes:=#[ts,ts] })(base:Nat)(v:Value)(n:Nat)(xs:List Value)(hs:a.eval s=v)(h:z9 J w base v n xs)(C:base<=w.heap.size)(G H I:Value)(M:Addr)(c:Nat)(R:a.eval x=.slice (some M) 1 c)(S:∀j u,[G,H,I][j]? = some u->w.cell? (M.add j)=some u)(T:∀u∈[G,H,I],u.oneCell'=true)(U:zaT [G,H,I])(N:n+1<=maxLen)(A:(n+1)*56<=140737488355328)(V:∀D w',z9 J w' base D (n+1) (xs++[G,H,I])->w.grownBy w' v.ownBlock->(∀g,D.ownBlock=some g->v.ownBlock=some g\/w.heap.size<=g)->K (a.put o.dst D) w'):if Region.wanted o (yielded F a.tmps)=true then Oper.wp Tryz.prog o a w K Q else E:=by
 have X:Region.wanted o (yielded F a.tmps)=true:=by simp[Region.wanted,L]
 rw[if_pos X];obtain⟨D,w',Y,Z,b,d⟩:=QbQ O B o.type h C G H I M c S T U N A;exact Lib.wp_append_run w s x ts ts P v _ hs R D w' Y (V D w' Z b d)
def ZdY(w:World)(p:Nat×Frm)(vs:List Value):Prop:=∃lv sv,vs=[zL p.1,lv,sv]/\zk w lv sv p.2
def Qeq(w:World)(v:Value)(l:List (Nat×Frm)):Prop:=Zg w 3 (ZdY w) v l
def zS(w:World):List (Nat×Frm)->List Value->Prop
 |[],xs=>xs=[]
 |p::r,xs=>∃lv sv ys,xs=zL p.1::lv::sv::ys/\zk w lv sv p.2/\zS w r ys
theorem zS.keepS{w w':World}(A:qx w w'):∀{l:List (Nat×Frm)} {xs:List Value},zS w l xs->zS w' l xs
 |[],_,h=>h
 |_::_,_,⟨B,C,D,E,F,G⟩=>⟨B,C,D,E,F.keepS A,zS.keepS A G⟩
theorem zS.snoc{w:World}{p:Nat×Frm}{A B:Value}(C:zk w A B p.2):∀{l:List (Nat×Frm)} {xs:List Value},zS w l xs->zS w (l++[p]) (xs++[zL p.1,A,B])
 |[],_,h=>by
  have h:_=[]:=h;subst h;exact⟨A,B,[],rfl,C,rfl⟩
 |_::_,_,⟨a,b,G,D,E,F⟩=>by
  subst D;exact⟨a,b,_,rfl,E,zS.snoc C F⟩
theorem zS.at{w:World}:∀{l:List (Nat×Frm)} {xs:List Value} {i:Nat} {p:Nat×Frm},zS w l xs->l[i]? = some p->∃A B,zk w A B p.2/\xs[i*3]? = some (zL p.1)/\xs[i*3+1]? = some A/\xs[i*3+2]? = some B
 |[],_,_,_,_,h=>by simp at h
 |q::r,_,0,p,⟨A,B,J,C,D,E⟩,h=>by
  have h:q=p:=by simpa using h
  subst h C;exact⟨A,B,D,rfl,rfl,rfl⟩
 |q::r,_,i+1,p,⟨A,B,J,C,D,E⟩,h=>by
  subst C;obtain⟨a,b,F,G,H,I⟩:=zS.at E (by simpa using h);refine⟨a,b,F,?_,?_,?_⟩
  ·rw[Nat.succ_mul];exact G
  ·rw[show(i+1)*3+1=(i*3+1)+3 by omega];exact H
  ·rw[show(i+1)*3+2=(i*3+2)+3 by omega];exact I
theorem z9.maps{D:TypeId}{w:World}{base:Nat}{v:Value}{l:List (Nat×Frm)}{xs:List Value}(h:z9 D w base v l.length xs)(E:zS w l xs):Qeq w v l:=by
 rcases h with⟨rfl,B,_⟩|⟨b,cap,A,rfl,R,B,O,P,S,T,U,C⟩
 ·exact Or.inl ⟨rfl,List.eq_nil_of_length_eq_zero B⟩
 ·refine Or.inr ⟨⟨b,0,none⟩,cap,rfl,O,P,fun i p M=>?_⟩;obtain⟨F,G,H,I,J,L⟩:=E.at M;refine⟨_,⟨F,G,rfl,H⟩,rfl,rfl,?_⟩;have e:∀j u,A[j]? = some u->w.cell? ⟨b,j,none⟩=some u:=fun j u N=>(B.cell j).trans N
  simp only[Nat.zero_add];exact⟨e _ _ (C _ _ I),e _ _ (C _ _ J),e _ _ (C _ _ L),trivial⟩
def za9(l:List Qb)(cls:Str)(at':Int)(n:Nat)(F:Option (qi×Asg Frm)):Prop :=
 (qD l cls at'≠0/\n=qD l cls at'/\F=none)\/(qD l cls at'=0/\∃m args g many,qS cls at' l=some m/\m.abs=false/\Z8 m args g many/\∃G,QD (Za l) cls g m (QP cls m.static args many) G/\match G with
  |none=>n=7/\F=none
  |some A=>n=0/\F=some (m,A))
end Go.Proofs.YtlmfmioljeppfaaGreatDoor
