/- Lemmas; conditions: as each states. -/
import Derived.Test.YtmclocdhcblbiaaGreatDoorRound
set_option maxHeartbeats 4000000
namespace Go.Proofs.YtmclocdhcblbiaaGreatDoor
open Go.RowKit Go.Shelf Go.Lib
def Za(l:List qa):List qa:=ZU::Zad::l
def ZF(c:qa)(ahead:List qa):Nat:=if qf c≠0 then qf c else if (Qb (Za ahead) c.name).isSome then 5 else 0
def Zp(l:List qa):Nat :=
 if 10<l.length then 4
 else if zi ZF [] l≠0 then zi ZF [] l
 else if Zh (qE (Za l)) l≠0 then Zh (qE (Za l)) l
 else if l.any (fun c=>zaz (Za l) c.name) then 6 else 0
theorem zcV(l:List qa)(k:Nat)(c:qa)(h:l[k]? = some c):Za (l.take (k+1))=Za (l.take k)++[c]:=by
 obtain⟨A,rfl⟩:=List.getElem?_eq_some_iff.1 h;unfold Za;rw[List.take_succ_eq_append_getElem A];rfl
theorem Qa7{cs:List qa}{c:qa}(C:(cs.map (·.name)).Nodup)(A:Qb cs c.name=none):((cs++[c]).map (·.name)).Nodup:=by
 unfold Qb at A;rw[List.find?_eq_none]at A;rw[List.map_append,List.map_singleton,List.nodup_append];refine⟨C,by simp,fun x E y B=>?_⟩;simp at B;subst B;obtain⟨d,D,rfl⟩:=List.mem_map.1 E;simpa using A d D
theorem Zbp:((Za []).map (·.name)).Nodup:=by decide
theorem qeT{c:qa}(h:qf c=0):c.faces.length<=8:=by
 unfold qf at h;split at h
 ·cases h
 ·split at h
  ·rename_i A;exact absurd h A
  ·split at h
   ·cases h
   ·rename_i A;omega
theorem qcx{l:List qa}(h:∀c∈l,qf c=0):∀c∈Za l,c.faces.length<=8:=by
 intro c A;unfold Za at A;rcases List.mem_cons.1 A with rfl|A
 ·decide
 ·rcases List.mem_cons.1 A with rfl|A
  ·decide
  ·exact qeT (h c A)
theorem zdc{cs:List qa}{c:qa}(h:qE cs c=0):(Qb cs c.super).isSome=true/\∀a∈c.faces,(Qb cs a).isSome=true:=by
 unfold qE at h;split at h
 ·cases h
 ·split at h
  ·cases h
  ·rename_i C;split at h
   ·cases h
   ·rename_i B;rw[Bool.not_eq_true,List.any_eq_false]at B;refine⟨?_,fun a D=>?_⟩
    ·cases A:(Qb cs c.super).isSome with
     |true=>rfl
     |false=>exact absurd (by rw[A];rfl) C
    ·cases A:(Qb cs a).isSome with
     |true=>rfl
     |false=>exact absurd (by rw[A];rfl) (B a D)
theorem Zak{α:Type}{f:α->Nat}{l:List α}(h:Zh f l=0):∀x∈l,f x=0:=by
 induction l with
 |nil=>intro x A;cases A
 |cons a r C =>
  rw[Zh]at h;by_cases B:f a=0
  ·rw[if_pos B]at h;intro x A;rcases List.mem_cons.1 A with rfl|A
   ·exact B
   ·exact C h x A
  ·rw[if_neg B]at h;exact absurd h B
theorem zcU{l:List qa}(h:∀c∈l,qE (Za l) c=0):Zbf (Za l):=by
 intro x E a A;rw[Option.isSome_iff_exists]at E;obtain⟨c,C⟩:=E;unfold Zz at A;rw[C]at A;simp only[Option.getD_some]at A;have B:c∈Za l:=List.mem_of_find?_eq_some C;unfold Za at B;rcases List.mem_cons.1 B with rfl|B
 ·simp[ZU,qg]at A
 ·rcases List.mem_cons.1 B with rfl|B
  ·simp[Zad,qg,Zg]at A;obtain⟨_,rfl⟩:=A;rfl
  ·obtain⟨F,D⟩:=zdc (h c B);split at A
   ·exact D a A
   ·rcases List.mem_cons.1 A with rfl|A
    ·exact F
    ·exact D a A
theorem QeT{l:List qa}{c:qa}(h:c∈l):(Qb (Za l) c.name).isSome=true:=by
 unfold Qb;rw[List.find?_isSome];exact⟨c,by simp[Za,h],by simp⟩
def zcz(w:World)(l:List qa)(e:Ending)(w':World):Prop :=
 Below w.heap.size w w' /\
 (
  (Zp l=0/\e=.returned (.tuple #[.map (some w.heap.size),.nilIface])/\zo w w' w.heap.size (Za l)/\((Za l).map (·.name)).Nodup/\(∀c∈l,qf c=0)/\Zbf (Za l)/\l.length<=10) \/
  (Zp l≠0/\e=.returned (.tuple #[.map none,.iface 52 (.int .i64 (Zp l))])))
theorem ze8{w w':World}{l:List qa}{n:Nat}(A:Below w.heap.size w w')(h:Zp l=n)(B:n≠0):zcz w l (.returned (.tuple #[.map none,.iface 52 (.int .i64 n)])) w':=by
 subst h;exact⟨A,Or.inr ⟨B,rfl⟩⟩
theorem za1{α:Type}{w w':World}{k:Nat}{R A:α->List Value->Prop}{v:Value}(h:qe w k R v ([]:List α)):qe w' k A v ([]:List α):=by
 rcases h with⟨h,_⟩|⟨a,cap,C,D,E,_⟩
 ·exact Or.inl ⟨h,rfl⟩
 ·exact Or.inr ⟨a,cap,C,D,E,fun i x B=>by simp at B⟩
def ZcV(wb w:World)(l:List qa)(e:Ending)(w':World):Prop:=zcz w l e w'/\(Zp l=0->zo wb w' w.heap.size (Za l))
theorem zbq{B w w':World}{l:List qa}{n:Nat}(C:Below w.heap.size w w')(h:Zp l=n)(A:n≠0):ZcV B w l (.returned (.tuple #[.map none,.iface 52 (.int .i64 n)])) w' :=
 ⟨ze8 C h A,fun e=>absurd (h.symm.trans e) A⟩
theorem Zcz{D w w':World}{B:Nat}(h:zo w w' B [ZU,Zad])(F:Below D.heap.size D w):zo D w' B [ZU,Zad]:=by
 obtain⟨N,O,P,R,A,S,T,U⟩:=h;refine⟨Qa F Xl N,Xf F.size O,P,R,A,S,T,fun i e c d C=>?_⟩;obtain⟨V,X,Y,Z,a,b,G,H,I⟩:=U i e c d C;have E:c.faces=[]/\c.fields=[]/\c.methods=[]:=by
  rcases List.mem_cons.1 (Xe C) with rfl|C
  ·exact⟨rfl,rfl,rfl⟩
  ·rw[List.mem_singleton.1 C];exact⟨rfl,rfl,rfl⟩
 obtain⟨J,L,M⟩:=E;rw[J]at G;rw[L]at H;rw[M]at I;refine⟨V,X,Y,Z,a,b,?_,?_,?_⟩
 ·rw[J];exact za1 G
 ·rw[L];exact za1 H
 ·rw[M];exact za1 I
set_option maxRecDepth 100000
theorem zes(l:List qa)(lv:Value)(y w:World)(hbw:Below y.heap.size y w)(hl:ZaB w)(ho:∀c∈l,Z4 c)(hlv:QJ y lv l):
 Calls Tryz.prog 23 #[lv] w (ZcV y w l):=by
 obtain⟨pl,cap,rfl,hc1,hc2,hcc⟩:=hlv.open;have B:=Xh hbw;have HCl:Hid (∀wx c fv dv mv,Below w.heap.size w wx->c∈l->Zo w fv c.faces->qe w 2 zI dv c.fields->qe w 8 (Zt w) mv c.methods->_):=fun wx c fv dv mv hb hc h1 h2 h3 =>
  qee c fv dv mv wx (hl.mono hb hl.1) (ho c hc) (h1.mono hb) (h2.mono hb (by decide) (fun _ _ h=>h)) (h3.mono hb (by decide) (fun _ _ h=>h.mono hb)) _ rfl
 have HC:Hid (∀(i:Nat) (x:qa),l[i]? = some x->∃b o vs,pl=some ⟨b,o,none⟩/\qal y x vs/\vs.length=6/\QB y b (o+i*6) vs):=hcc;have HO:=Xh ho;clear hcc hlv hl ho hbw;by_cases h10:10<l.length
 ·have hf:Zp l=4:=by unfold Zp;rw[if_pos h10]
  have z:=Xh hf;clear hf HC HCl;go_enter Tryz.func23,Tryz.ntmps23;go_wp2_with fail;all_goals first|(exfalso;omega)|skip
  go_ret2;exact zbq Xb z.out (by decide)
 have z:Hid (Zp l=if zi ZF [] l≠0 then zi ZF [] l
  else if Zh (qE (Za l)) l≠0 then Zh (qE (Za l)) l
  else if l.any (fun c=>zaz (Za l) c.name) then 6 else 0):=by unfold Hid Zp;rw[if_neg h10]
 have hfst:=Xh (Zes w);go_enter Tryz.func23,Tryz.ntmps23;go_wp2_with (go_fit hfst.out;rintro e w1⟨rfl,hm1⟩)
 all_goals first|(exfalso;omega)|skip
 have hlen:l.length<=10:=by omega
 go_loopw [22] (fun x wr=>∃k,k<=l.length/\Hid (zi ZF (l.take k) (l.drop k)=zi ZF [] l)/\Hid (∀c∈l.take k,qf c=0)/\Hid (((Za (l.take k)).map (·.name)).Nodup)/\zo w wr w.heap.size (Za (l.take k))/\x=.int .i64 k/\Hid (zo y wr w.heap.size (Za (l.take k)))) (fun x _=>l.length-(intOf x).toNat)
 case atStart=>exact⟨0,by omega,rfl,fun c hc=>by simp at hc,by rw[List.take_zero];exact Zbp,by rw[List.take_zero];exact hm1,rfl,by unfold Hid;rw[List.take_zero];exact Zcz hm1 B.out⟩
 case round =>
  obtain⟨k,hk,E,HA,HN,J,rfl,M⟩:=hrel;clear hm1;by_cases a:k<l.length
  ·obtain⟨c,N⟩:∃x,l[k]? = some x:=⟨l[k],by simp[a]⟩;have aA:=Xe N;have V:=HO.out c aA;obtain⟨b,o,vs,rfl,⟨fv,dv,mv,rfl,j1,j2,j3⟩,_,S⟩:=HC.out k c N;have S:=S.mono (Qa B Xl J.below) S.lt;have f:=j1.mono B.out (by decide) (fun _ _ h=>h);have t:=j2.mono B.out (by decide) (fun _ _ h=>h);have v:=j3.mono B.out (by decide) (fun _ _ h=>h.mono B.out);have A:=qav ZF l k c N;rw[E.out]at A;obtain⟨pf,H,rfl,_⟩:=f.open;obtain⟨pd,F,rfl,_⟩:=t.open;obtain⟨pm,G,rfl,_⟩:=v.open;have I:∀wx,Below w.heap.size w wx->_:=fun wx hb=>HCl.out wx c _ _ _ hb aA f t v
   have HK:=Xh (And.intro f (And.intro t v));have g:=Xh (And.intro j1 (And.intro j2 j3));have HX:=Xh N;have HCM:=Xh aA;have HCO:=Xh V;clear N aA V f t v j1 j2 j3;obtain⟨c0,c1,c2,c3,c4,c5,_⟩:=S;unfold Qv at I;rcases zS (qf c) with⟨s,O⟩|⟨s,O⟩
   ·rw[s]at I;have T:=Xh I;clear I s;rw[show ZF c (l.take k)=if (Qb (Za (l.take k)) c.name).isSome then 5 else 0 from by unfold ZF;rw[if_neg (by rw[O];decide)]]at A;have hall:Hid (∀d∈l.take (k+1),qf d=0):=by
     intro d hd;obtain⟨hk1,hk2⟩:=List.getElem?_eq_some_iff.1 HX.out;rw[List.take_succ_eq_append_getElem hk1,List.mem_append]at hd;rcases hd with hd|hd
     ·exact HA.out d hd
     ·simp at hd;subst hd;rw[hk2];exact O
    clear O;go_upto_region 10 with(go_fit (T.out _ (J.below.alloc J.below.size _));rintro e w2⟨rfl,C⟩)
    have aB:=Qa ((Below.refl wr.heap.size wr).alloc Xl (.cells #[.string c.name,.string c.super,.slice pf c.faces.length H,.bool c.face,.slice pd c.fields.length F,.slice pm c.methods.length G] 31)) Xl C;have BX:QH wr w2 [.string c.name,.string c.super,.slice pf c.faces.length H,.bool c.face,.slice pd c.fields.length F,.slice pm c.methods.length G]:=⟨aB,Nat.lt_of_lt_of_le (by simp) C.size,QB.mono C (by simp) (by simp[QB])⟩;have X:=J.step aB;have HM2b:=Xh (M.out.step aB);obtain⟨q0,q1,q2,q3,q4,q5⟩:=QaH BX;have hsz:=BX.size;obtain⟨pf2,kf2,pd2,kd2,pm2,km2,_,_,_,Z,_⟩:=X.look2 HN.out c.name (Xf HCO.out.name (by decide));clear C aB c0 c1 c2 c3 c4 c5 T J;cases Y:(Qb (Za (l.take k)) c.name).isSome with
    |true =>
     rw[Y]at A Z;replace A:zi ZF [] l=5:=A;have D:Hid (Zp l=5):=(by rw[z.out,if_pos (by rw[A];decide),A];rfl);clear A Y z E HA HN;generalize (Qb (Za (l.take k)) c.name).getD qg=d at *;obtain⟨n2,s2,f2,b2,d2,m2⟩:=d;unfold Qv at Z;dsimp only at Z;have hBw:=Xh (X.below.alloc X.below.size (.cells #[.string n2,.string s2,.slice pf2 f2.length kf2,.bool b2,.slice pd2 d2.length kd2,.slice pm2 m2.length km2] 31));clear X;go_wp2_with fail;go_ret2;exact zbq hBw.out D.out (by decide)
    |false =>
     rw[Y]at A Z;have j:Hid (zi ZF (l.take (k+1)) (l.drop (k+1))=zi ZF [] l):=A.symm;have P:Qb (Za (l.take k)) c.name=none:=by
      cases hq:Qb (Za (l.take k)) c.name with
      |none=>rfl
      |some _=>rw[hq]at Y;cases Y
     have HN2:Hid (((Za (l.take (k+1))).map (·.name)).Nodup):=by
      unfold Hid;rw[zcV l k c HX.out];exact Qa7 HN.out P
     have HNO:=Xh P;clear A Y z E HA P;generalize (Qb (Za (l.take k)) c.name).getD qg=d at *;obtain⟨n2,s2,f2,b2,d2,m2⟩:=d;unfold Qv at Z;dsimp only at Z;have hM3:=X.step (Xb.alloc Xl (.cells #[.string n2,.string s2,.slice pf2 f2.length kf2,.bool b2,.slice pd2 d2.length kd2,.slice pm2 m2.length km2] 31));obtain⟨w4',hup',r,_⟩:=(HM2b.out.step (Xb.alloc Xl (.cells #[.string n2,.string s2,.slice pf2 f2.length kf2,.bool b2,.slice pd2 d2.length kd2,.slice pm2 m2.length km2] 31))).put c _ _ _ (Xf HCO.out.name (by decide)) HNO.out g.out.1 g.out.2.1 g.out.2.2;obtain⟨w4,hup,hM4,hs4,ho4⟩:=hM3.put c _ _ _ (Xf HCO.out.name (by decide)) HNO.out HK.out.1 HK.out.2.1 HK.out.2.2;rw[<-zcV l k c HX.out]at hM4 r;rw[hup]at hup';injection hup' with _ hw4
     subst hw4;have HM4b:=Xh r;clear r;unfold Qv at hup;have HM4:=Xh hM4;clear hM4 hM3 X BX;go_wp2_with fail;go_roundw;case rel=>exact⟨k+1,by omega,j,hall,HN2,HM4,by simp,HM4b⟩
     case measure=>simp[intOf];omega
   ·rw[s]at I;rw[show ZF c (l.take k)=qf c from by unfold ZF;rw[if_pos O],if_neg O]at A;have D:Hid (Zp l=qf c):=(by rw[z.out,if_pos (by rw[A];exact O),A];rfl);have T:=Xh I;clear I s A z E;have HZ:=Xh O;clear O;generalize qf c=fc at *;go_wp2_with (go_fit (T.out _ (J.below.alloc J.below.size _));rintro e w2⟨rfl,C⟩)
    go_ret2;exact zbq (Qa (J.below.alloc J.below.size _) Xl C) D.out HZ.out
  ·have L:Hid (zi ZF [] l=0):=by
    rw[<-E.out,Xg (by omega)];rfl
   obtain rfl:k=l.length:=(by omega);have HA2:Hid (∀c∈l,qf c=0):=(by have:=HA.out;rwa [List.take_length]at this);rw[List.take_length]at HN J M;have m:Hid (Zp l=if Zh (qE (Za l)) l≠0 then Zh (qE (Za l)) l else if l.any (fun c=>zaz (Za l) c.name) then 6 else 0):=by
    rw[z.out,if_neg (by rw[L.out];decide)];rfl
   clear E L z HA HCl;go_wp2_with fail;go_loopw [47] (fun x wy=>∃k,k<=l.length/\Hid (Zh (qE (Za l)) (l.drop k)=Zh (qE (Za l)) l)/\zo w wy w.heap.size (Za l)/\x=.int .i64 k/\Hid (zo y wy w.heap.size (Za l))) (fun x _=>l.length-(intOf x).toNat)
   case atStart=>exact⟨0,by omega,rfl,J,rfl,M⟩
   case round =>
    clear J;obtain⟨k,hk,E,J,rfl,M⟩:=hrel;by_cases a:k<l.length
    ·obtain⟨c,N⟩:∃x,l[k]? = some x:=⟨l[k],by simp[a]⟩;have V:=HO.out c (Xe N);obtain⟨b,o,vs,rfl,⟨fv,dv,mv,rfl,j1,j2,j3⟩,_,S⟩:=HC.out k c N;have S:=S.mono (Qa B Xl J.below) S.lt;have f:=j1.mono B.out (by decide) (fun _ _ h=>h);have t:=j2.mono B.out (by decide) (fun _ _ h=>h);have v:=j3.mono B.out (by decide) (fun _ _ h=>h.mono B.out);have A:=Qar (qE (Za l)) l k c N;rw[E.out]at A;obtain⟨pf,H,rfl,_⟩:=f.open;obtain⟨pd,F,rfl,_⟩:=t.open;obtain⟨pm,G,rfl,_⟩:=v.open;have R:=J.step (Xb.alloc Xl (.cells #[.string c.name,.string c.super,.slice pf c.faces.length H,.bool c.face,.slice pd c.fields.length F,.slice pm c.methods.length G] 31));have U:=qdR w _ w.heap.size (Za l) R HN.out c _ (.slice pd c.fields.length F) (.slice pm c.methods.length G) (Xf V.super (by decide)) (fun x N=>Xf (V.faces x N) (by decide)) f _ rfl;have n:=Xh R;have HX:=Xh N;have p:=Xh (M.out.step (Xb.alloc Xl (.cells #[.string c.name,.string c.super,.slice pf c.faces.length H,.bool c.face,.slice pd c.fields.length F,.slice pm c.methods.length G] 31)));clear N V f t v j1 j2 j3 R;obtain⟨c0,c1,c2,c3,c4,c5,_⟩:=S;unfold Qv at U;rcases zS (qE (Za l) c) with⟨s,O⟩|⟨s,O⟩
     ·rw[s]at U;rw[if_pos O]at A;have j:=Xh A.symm;have g:=Xh U;clear U s O A m;go_wp2_with (go_fit g.out;rintro e w2⟨rfl,C⟩)
      go_roundw;case rel=>exact⟨k+1,by omega,j.out,n.out.step C,by simp,p.out.step C⟩
      case measure=>simp[intOf];omega
     ·rw[s]at U;rw[if_neg O]at A;have D:Hid (Zp l=qE (Za l) c):=(by rw[m.out,if_pos (by rw[A];exact O),A];rfl);have g:=Xh U;have HZ:=Xh O;clear U s O A m;generalize qE (Za l) c=fc at *;go_wp2_with (go_fit g.out;rintro e w2⟨rfl,C⟩)
      go_ret2;exact zbq (n.out.step C).below D.out HZ.out
    ·have L:Hid (Zh (qE (Za l)) l=0):=by
      rw[<-E.out,Xg (by omega)];rfl
     obtain rfl:k=l.length:=(by omega);have hcl:=zcU (Zak L.out);have h8:=qcx HA2.out;have h12:(Za l).length<=12:=(by unfold Za;simp;omega);have q:Hid (Zp l=if l.any (fun c=>zaz (Za l) c.name) then 6 else 0):=by
      rw[m.out,if_neg (by rw[L.out];decide)];rfl
     have HR:Hid (∀wx c,zo w wx w.heap.size (Za l)->c∈l->_):=fun wx c hm hc=>qes w wx w.heap.size (Za l) hm HN.out h8 h12 hcl c.name (QeT hc)
     have HCL:=Xh hcl;clear E L m hcl h8 h12;go_wp2_with fail;go_loopw [60] (fun x wy=>∃k,k<=l.length/\Hid (((l.drop k).any fun c=>zaz (Za l) c.name)=(l.any fun c=>zaz (Za l) c.name))/\zo w wy w.heap.size (Za l)/\x=.int .i64 k/\Hid (zo y wy w.heap.size (Za l))) (fun x _=>l.length-(intOf x).toNat)
     case atStart=>exact⟨0,by omega,rfl,J,rfl,M⟩
     case round =>
      clear J;obtain⟨k,hk,E,J,rfl,M⟩:=hrel;by_cases a:k<l.length
      ·obtain⟨c,N⟩:∃x,l[k]? = some x:=⟨l[k],by simp[a]⟩;obtain⟨b,o,vs,rfl,⟨fv,dv,mv,rfl,j1,j2,j3⟩,_,S⟩:=HC.out k c N;have S:=S.mono (Qa B Xl J.below) S.lt;have f:=j1.mono B.out (by decide) (fun _ _ h=>h);have t:=j2.mono B.out (by decide) (fun _ _ h=>h);have v:=j3.mono B.out (by decide) (fun _ _ h=>h.mono B.out);have A:=qbO (fun c=>zaz (Za l) c.name) l k c N;rw[E.out]at A;obtain⟨pf,H,rfl,_⟩:=f.open;obtain⟨pd,F,rfl,_⟩:=t.open;obtain⟨pm,G,rfl,_⟩:=v.open;have R:=J.step (Xb.alloc Xl (.cells #[.string c.name,.string c.super,.slice pf c.faces.length H,.bool c.face,.slice pd c.fields.length F,.slice pm c.methods.length G] 31));have U:=HR.out _ c R (Xe N);have n:=Xh R;have HX:=Xh N;have p:=Xh (M.out.step (Xb.alloc Xl (.cells #[.string c.name,.string c.super,.slice pf c.faces.length H,.bool c.face,.slice pd c.fields.length F,.slice pm c.methods.length G] 31)));clear N f t v j1 j2 j3 R;obtain⟨c0,c1,c2,c3,c4,c5,_⟩:=S;cases aC:zaz (Za l) c.name with
       |true =>
        rw[aC]at U A;rw[Bool.true_or]at A;have D:Hid (Zp l=6):=(by rw[q.out,if_pos A];rfl);have g:=Xh U;clear U aC A q HR;go_wp2_with (go_fit g.out;rintro e w2⟨rfl,C⟩)
        go_ret2;exact zbq (n.out.step C).below D.out (by decide)
       |false =>
        rw[aC]at U A;rw[Bool.false_or]at A;have j:=Xh A.symm;have g:=Xh U;clear U aC A q HR;go_wp2_with (go_fit g.out;rintro e w2⟨rfl,C⟩)
        go_roundw;case rel=>exact⟨k+1,by omega,j.out,n.out.step C,by simp,p.out.step C⟩
        case measure=>simp[intOf];omega
      ·have hno:Hid ((l.any fun c=>zaz (Za l) c.name)=false):=by
        rw[<-E.out,Xg (by omega)];rfl
       obtain rfl:k=l.length:=(by omega);have D:Hid (Zp l=0):=(by rw[q.out,if_neg (by rw[hno.out];decide)];rfl);clear E hno q HR;have HM:=Xh J;go_wp2_with fail;go_ret2;exact⟨⟨HM.out.below,Or.inl ⟨D.out,rfl,HM,HN,HA2,HCL,hlen⟩⟩,fun _=>M.out⟩
set_option maxRecDepth 512
theorem qeK(l:List qa)(A:Value)(w:World)(C:ZaB w)(D:∀c∈l,Z4 c)(B:QJ w A l):Calls Tryz.prog 23 #[A] w (zcz w l) :=
 (zes l A w w Xb C D B).mono fun _ _ h=>h.1
end Go.Proofs.YtmclocdhcblbiaaGreatDoor
