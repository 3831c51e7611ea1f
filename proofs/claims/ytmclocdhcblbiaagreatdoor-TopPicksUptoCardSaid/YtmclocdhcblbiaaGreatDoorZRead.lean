/- Lemmas; conditions: as each states. -/
import Derived.Test.YtmclocdhcblbiaaGreatDoorZRound
set_option maxHeartbeats 4000000
namespace Go.Proofs.YtmclocdhcblbiaaGreatDoor
open Go.RowKit Go.Shelf Go.Lib Tryz
def Za(l:List qa):List qa:=Z8::Zam::l
def ZG(c:qa)(ahead:List qa):Nat:=if Qf c≠0 then Qf c else if (Qb (Za ahead) c.name).isSome then 5 else 0
def zj(l:List qa):Nat :=
 if 10<l.length then 4
 else if Zi ZG [] l≠0 then Zi ZG [] l
 else if Zh (zF (Za l)) l≠0 then Zh (zF (Za l)) l
 else if l.any (fun c=>QaB (Za l) c.name) then 6 else 0
theorem ZcX(l:List qa)(k:Nat)(c:qa)(h:l[k]? = some c):Za (l.take (k+1))=Za (l.take k)++[c]:=by
 obtain⟨A,rfl⟩:=List.getElem?_eq_some_iff.1 h;unfold Za;rw[List.take_succ_eq_append_getElem A];rfl
theorem Qbb{cs:List qa}{c:qa}(C:(cs.map (·.name)).Nodup)(A:Qb cs c.name=none):((cs++[c]).map (·.name)).Nodup:=by
 unfold Qb at A;rw[List.find?_eq_none]at A;rw[List.map_append,List.map_singleton,List.nodup_append];refine⟨C,by simp,fun x E y B=>?_⟩;simp at B;subst B;obtain⟨d,D,rfl⟩:=List.mem_map.1 E;simpa using A d D
theorem Zbs:((Za []).map (·.name)).Nodup:=by decide
theorem ZeY{c:qa}(h:Qf c=0):c.faces.length<=8:=by
 unfold Qf at h;split at h
 ·cases h
 ·split at h
  ·rename_i A;exact absurd h A
  ·split at h
   ·cases h
   ·rename_i A;omega
theorem zcz{l:List qa}(h:∀c∈l,Qf c=0):∀c∈Za l,c.faces.length<=8:=by
 intro c A;unfold Za at A;rcases List.mem_cons.1 A with rfl|A
 ·decide
 ·rcases List.mem_cons.1 A with rfl|A
  ·decide
  ·exact ZeY (h c A)
theorem zde{cs:List qa}{c:qa}(h:zF cs c=0):(Qb cs c.super).isSome=true/\∀a∈c.faces,(Qb cs a).isSome=true:=by
 unfold zF at h;split at h
 ·cases h
 ·split at h
  ·cases h
  ·rename_i C;split at h
   ·cases h
   ·rename_i B;rw[Bool.not_eq_true,List.any_eq_false]at B;refine⟨?_,fun a D=>?_⟩
    ·cases A:(Qb cs c.super).isSome with
     |true=>rfl
     |false=>exact absurd (by rw[A];rfl) C
    ·cases A:(Qb cs a).isSome with
     |true=>rfl
     |false=>exact absurd (by rw[A];rfl) (B a D)
theorem qal{α:Type}{f:α->Nat}{l:List α}(h:Zh f l=0):∀x∈l,f x=0:=by
 induction l with
 |nil=>intro x A;cases A
 |cons a r C =>
  rw[Zh]at h;by_cases B:f a=0
  ·rw[if_pos B]at h;intro x A;rcases List.mem_cons.1 A with rfl|A
   ·exact B
   ·exact C h x A
  ·rw[if_neg B]at h;exact absurd h B
theorem QcV{l:List qa}(h:∀c∈l,zF (Za l) c=0):zaN (Za l):=by
 intro x E a A;rw[Option.isSome_iff_exists]at E;obtain⟨c,C⟩:=E;unfold zw at A;rw[C]at A;simp only[Option.getD_some]at A;have B:c∈Za l:=List.mem_of_find?_eq_some C;unfold Za at B;rcases List.mem_cons.1 B with rfl|B
 ·simp[Z8,qg]at A
 ·rcases List.mem_cons.1 B with rfl|B
  ·simp[Zam,qg,zh]at A;obtain⟨_,rfl⟩:=A;rfl
  ·obtain⟨F,D⟩:=zde (h c B);split at A
   ·exact D a A
   ·rcases List.mem_cons.1 A with rfl|A
    ·exact F
    ·exact D a A
theorem qeY{l:List qa}{c:qa}(h:c∈l):(Qb (Za l) c.name).isSome=true:=by
 unfold Qb;rw[List.find?_isSome];exact⟨c,by simp[Za,h],by simp⟩
def ZcC(w:World)(l:List qa)(e:Ending)(w':World):Prop :=
 Below w.heap.size w w' /\
 (
  (zj l=0/\e=.returned (.tuple #[.map (some w.heap.size),.nilIface])/\Qn w w' w.heap.size (Za l)/\((Za l).map (·.name)).Nodup/\(∀c∈l,Qf c=0)/\zaN (Za l)/\l.length<=10) \/
  (zj l≠0/\e=.returned (.tuple #[.map none,.iface 52 (.int .i64 (zj l))])))
theorem Zfe{w w':World}{l:List qa}{n:Nat}(A:Below w.heap.size w w')(h:zj l=n)(B:n≠0):ZcC w l (.returned (.tuple #[.map none,.iface 52 (.int .i64 n)])) w':=by
 subst h;exact⟨A,Or.inr ⟨B,rfl⟩⟩
theorem Qa4{α:Type}{w w':World}{k:Nat}{R A:α->List Value->Prop}{v:Value}(h:Qe w k R v ([]:List α)):Qe w' k A v ([]:List α):=by
 rcases h with⟨h,_⟩|⟨a,cap,C,D,E,_⟩
 ·exact Or.inl ⟨h,rfl⟩
 ·exact Or.inr ⟨a,cap,C,D,E,fun i x B=>by simp at B⟩
def qcX(wb w:World)(l:List qa)(e:Ending)(w':World):Prop:=ZcC w l e w'/\(zj l=0->Qn wb w' w.heap.size (Za l))
theorem Qbs{B w w':World}{l:List qa}{n:Nat}(C:Below w.heap.size w w')(h:zj l=n)(A:n≠0):qcX B w l (.returned (.tuple #[.map none,.iface 52 (.int .i64 n)])) w' :=
 ⟨Zfe C h A,fun e=>absurd (h.symm.trans e) A⟩
theorem qcC{D w w':World}{B:Nat}(h:Qn w w' B [Z8,Zam])(F:Below D.heap.size D w):Qn D w' B [Z8,Zam]:=by
 obtain⟨N,O,P,R,A,S,T,U⟩:=h;refine⟨Qa F Xl N,Xf F.size O,P,R,A,S,T,fun i e c d C=>?_⟩;obtain⟨V,X,Y,Z,a,b,G,H,I⟩:=U i e c d C;have E:c.faces=[]/\c.fields=[]/\c.methods=[]:=by
  rcases List.mem_cons.1 (Xe C) with rfl|C
  ·exact⟨rfl,rfl,rfl⟩
  ·rw[List.mem_singleton.1 C];exact⟨rfl,rfl,rfl⟩
 obtain⟨J,L,M⟩:=E;rw[J]at G;rw[L]at H;rw[M]at I;refine⟨V,X,Y,Z,a,b,?_,?_,?_⟩
 ·rw[J];exact Qa4 G
 ·rw[L];exact Qa4 H
 ·rw[M];exact Qa4 I
set_option maxRecDepth 100000
theorem Qeu(l:List qa)(lv:Value)(y w:World)(hbw:Below y.heap.size y w)(hl:Qax w)(ho:∀c∈l,qM c)(hlv:zx y lv l):
 Calls prog 23 #[lv] w (qcX y w l):=by
 obtain⟨pl,cap,rfl,hc1,hc2,hcc⟩:=hlv.open;have B:=Xh hbw;have HCl:Hid (∀wx c fv dv mv,Below w.heap.size w wx->c∈l->qp w fv c.faces->Qe w 2 ZN dv c.fields->Qe w 8 (zo w) mv c.methods->_):=fun wx c fv dv mv hb hc h1 h2 h3 =>
  Zef c fv dv mv wx (hl.mono hb hl.1) (ho c hc) (h1.mono hb) (h2.mono hb (by decide) (fun _ _ h=>h)) (h3.mono hb (by decide) (fun _ _ h=>h.mono hb)) _ rfl
 have HC:Hid (∀(i:Nat) (x:qa),l[i]? = some x->∃b o vs,pl=some ⟨b,o,none⟩/\ZQ y x vs/\vs.length=6/\qw y b (o+i*6) vs):=hcc;have HO:=Xh ho;clear hcc hlv hl ho hbw;by_cases h10:10<l.length
 ·have hf:zj l=4:=by unfold zj;rw[if_pos h10]
  have z:=Xh hf;clear hf HC HCl;go_enter func23,ntmps23;go_wp2_with fail;all_goals first|(exfalso;omega)|skip
  go_ret2;exact Qbs Xb z.out (by decide)
 have z:Hid (zj l=if Zi ZG [] l≠0 then Zi ZG [] l
  else if Zh (zF (Za l)) l≠0 then Zh (zF (Za l)) l
  else if l.any (fun c=>QaB (Za l) c.name) then 6 else 0):=by unfold Hid zj;rw[if_neg h10]
 have hfst:=Xh (zev w);go_enter func23,ntmps23;go_wp2_with (go_fit hfst.out;rintro e w1⟨rfl,hm1⟩)
 all_goals first|(exfalso;omega)|skip
 have hlen:l.length<=10:=by omega
 go_loopw [22] (fun x wr=>∃k,k<=l.length/\Hid (Zi ZG (l.take k) (l.drop k)=Zi ZG [] l)/\Hid (∀c∈l.take k,Qf c=0)/\Hid (((Za (l.take k)).map (·.name)).Nodup)/\Qn w wr w.heap.size (Za (l.take k))/\x=.int .i64 k/\Hid (Qn y wr w.heap.size (Za (l.take k)))) (fun x _=>l.length-(intOf x).toNat)
 case atStart=>exact⟨0,by omega,rfl,fun c hc=>by simp at hc,by rw[List.take_zero];exact Zbs,by rw[List.take_zero];exact hm1,rfl,by unfold Hid;rw[List.take_zero];exact qcC hm1 B.out⟩
 case round =>
  obtain⟨k,hk,E,HA,HN,J,rfl,M⟩:=hrel;clear hm1;by_cases a:k<l.length
  ·obtain⟨c,N⟩:∃x,l[k]? = some x:=⟨l[k],by simp[a]⟩;have aA:=Xe N;have V:=HO.out c aA;obtain⟨b,o,vs,rfl,⟨fv,dv,mv,rfl,j1,j2,j3⟩,_,S⟩:=HC.out k c N;have S:=S.mono (Qa B Xl J.below) S.lt;have f:=j1.mono B.out (by decide) (fun _ _ h=>h);have t:=j2.mono B.out (by decide) (fun _ _ h=>h);have v:=j3.mono B.out (by decide) (fun _ _ h=>h.mono B.out);have A:=Qay ZG l k c N;rw[E.out]at A;obtain⟨pf,H,rfl,_⟩:=f.open;obtain⟨pd,F,rfl,_⟩:=t.open;obtain⟨pm,G,rfl,_⟩:=v.open;have I:∀wx,Below w.heap.size w wx->_:=fun wx hb=>HCl.out wx c _ _ _ hb aA f t v
   have HK:=Xh (And.intro f (And.intro t v));have g:=Xh (And.intro j1 (And.intro j2 j3));have HX:=Xh N;have HCM:=Xh aA;have HCO:=Xh V;clear N aA V f t v j1 j2 j3;obtain⟨c0,c1,c2,c3,c4,c5,_⟩:=S;unfold Zu at I;rcases zB (Qf c) with⟨s,O⟩|⟨s,O⟩
   ·rw[s]at I;have T:=Xh I;clear I s;rw[show ZG c (l.take k)=if (Qb (Za (l.take k)) c.name).isSome then 5 else 0 from by unfold ZG;rw[if_neg (by rw[O];decide)]]at A;have hall:Hid (∀d∈l.take (k+1),Qf d=0):=by
     intro d hd;obtain⟨hk1,hk2⟩:=List.getElem?_eq_some_iff.1 HX.out;rw[List.take_succ_eq_append_getElem hk1,List.mem_append]at hd;rcases hd with hd|hd
     ·exact HA.out d hd
     ·simp at hd;subst hd;rw[hk2];exact O
    clear O;go_upto_region 10 with(go_fit (T.out _ (J.below.alloc J.below.size _));rintro e w2⟨rfl,C⟩)
    have aB:=Qa ((Below.refl wr.heap.size wr).alloc Xl (.cells #[.string c.name,.string c.super,.slice pf c.faces.length H,.bool c.face,.slice pd c.fields.length F,.slice pm c.methods.length G] 31)) Xl C;have BX:zL wr w2 [.string c.name,.string c.super,.slice pf c.faces.length H,.bool c.face,.slice pd c.fields.length F,.slice pm c.methods.length G]:=⟨aB,Nat.lt_of_lt_of_le (by simp) C.size,qw.mono C (by simp) (by simp[qw])⟩;have X:=J.step aB;have HM2b:=Xh (M.out.step aB);obtain⟨q0,q1,q2,q3,q4,q5⟩:=qaU BX;have hsz:=BX.size;obtain⟨pf2,kf2,pd2,kd2,pm2,km2,_,_,_,Z,_⟩:=X.look2 HN.out c.name (Xf HCO.out.name (by decide));clear C aB c0 c1 c2 c3 c4 c5 T J;cases Y:(Qb (Za (l.take k)) c.name).isSome with
    |true =>
     rw[Y]at A Z;replace A:Zi ZG [] l=5:=A;have D:Hid (zj l=5):=(by rw[z.out,if_pos (by rw[A];decide),A];rfl);clear A Y z E HA HN;generalize (Qb (Za (l.take k)) c.name).getD qg=d at *;obtain⟨n2,s2,f2,b2,d2,m2⟩:=d;unfold Zu at Z;dsimp only at Z;have hBw:=Xh (X.below.alloc X.below.size (.cells #[.string n2,.string s2,.slice pf2 f2.length kf2,.bool b2,.slice pd2 d2.length kd2,.slice pm2 m2.length km2] 31));clear X;go_wp2_with fail;go_ret2;exact Qbs hBw.out D.out (by decide)
    |false =>
     rw[Y]at A Z;have j:Hid (Zi ZG (l.take (k+1)) (l.drop (k+1))=Zi ZG [] l):=A.symm;have P:Qb (Za (l.take k)) c.name=none:=by
      cases hq:Qb (Za (l.take k)) c.name with
      |none=>rfl
      |some _=>rw[hq]at Y;cases Y
     have HN2:Hid (((Za (l.take (k+1))).map (·.name)).Nodup):=by
      unfold Hid;rw[ZcX l k c HX.out];exact Qbb HN.out P
     have HNO:=Xh P;clear A Y z E HA P;generalize (Qb (Za (l.take k)) c.name).getD qg=d at *;obtain⟨n2,s2,f2,b2,d2,m2⟩:=d;unfold Zu at Z;dsimp only at Z;have hM3:=X.step (Xb.alloc Xl (.cells #[.string n2,.string s2,.slice pf2 f2.length kf2,.bool b2,.slice pd2 d2.length kd2,.slice pm2 m2.length km2] 31));obtain⟨w4',hup',r,_⟩:=(HM2b.out.step (Xb.alloc Xl (.cells #[.string n2,.string s2,.slice pf2 f2.length kf2,.bool b2,.slice pd2 d2.length kd2,.slice pm2 m2.length km2] 31))).put c _ _ _ (Xf HCO.out.name (by decide)) HNO.out g.out.1 g.out.2.1 g.out.2.2;obtain⟨w4,hup,hM4,hs4,ho4⟩:=hM3.put c _ _ _ (Xf HCO.out.name (by decide)) HNO.out HK.out.1 HK.out.2.1 HK.out.2.2;rw[<-ZcX l k c HX.out]at hM4 r;rw[hup]at hup';injection hup' with _ hw4
     subst hw4;have HM4b:=Xh r;clear r;unfold Zu at hup;have HM4:=Xh hM4;clear hM4 hM3 X BX;go_wp2_with fail;go_roundw;case rel=>exact⟨k+1,by omega,j,hall,HN2,HM4,by simp,HM4b⟩
     case measure=>simp[intOf];omega
   ·rw[s]at I;rw[show ZG c (l.take k)=Qf c from by unfold ZG;rw[if_pos O],if_neg O]at A;have D:Hid (zj l=Qf c):=(by rw[z.out,if_pos (by rw[A];exact O),A];rfl);have T:=Xh I;clear I s A z E;have HZ:=Xh O;clear O;generalize Qf c=fc at *;go_wp2_with (go_fit (T.out _ (J.below.alloc J.below.size _));rintro e w2⟨rfl,C⟩)
    go_ret2;exact Qbs (Qa (J.below.alloc J.below.size _) Xl C) D.out HZ.out
  ·have L:Hid (Zi ZG [] l=0):=by
    rw[<-E.out,Xg (by omega)];rfl
   obtain rfl:k=l.length:=(by omega);have HA2:Hid (∀c∈l,Qf c=0):=(by have:=HA.out;rwa [List.take_length]at this);rw[List.take_length]at HN J M;have m:Hid (zj l=if Zh (zF (Za l)) l≠0 then Zh (zF (Za l)) l else if l.any (fun c=>QaB (Za l) c.name) then 6 else 0):=by
    rw[z.out,if_neg (by rw[L.out];decide)];rfl
   clear E L z HA HCl;go_wp2_with fail;go_loopw [47] (fun x wy=>∃k,k<=l.length/\Hid (Zh (zF (Za l)) (l.drop k)=Zh (zF (Za l)) l)/\Qn w wy w.heap.size (Za l)/\x=.int .i64 k/\Hid (Qn y wy w.heap.size (Za l))) (fun x _=>l.length-(intOf x).toNat)
   case atStart=>exact⟨0,by omega,rfl,J,rfl,M⟩
   case round =>
    clear J;obtain⟨k,hk,E,J,rfl,M⟩:=hrel;by_cases a:k<l.length
    ·obtain⟨c,N⟩:∃x,l[k]? = some x:=⟨l[k],by simp[a]⟩;have V:=HO.out c (Xe N);obtain⟨b,o,vs,rfl,⟨fv,dv,mv,rfl,j1,j2,j3⟩,_,S⟩:=HC.out k c N;have S:=S.mono (Qa B Xl J.below) S.lt;have f:=j1.mono B.out (by decide) (fun _ _ h=>h);have t:=j2.mono B.out (by decide) (fun _ _ h=>h);have v:=j3.mono B.out (by decide) (fun _ _ h=>h.mono B.out);have A:=Zau (zF (Za l)) l k c N;rw[E.out]at A;obtain⟨pf,H,rfl,_⟩:=f.open;obtain⟨pd,F,rfl,_⟩:=t.open;obtain⟨pm,G,rfl,_⟩:=v.open;have R:=J.step (Xb.alloc Xl (.cells #[.string c.name,.string c.super,.slice pf c.faces.length H,.bool c.face,.slice pd c.fields.length F,.slice pm c.methods.length G] 31));have U:=QdV w _ w.heap.size (Za l) R HN.out c _ (.slice pd c.fields.length F) (.slice pm c.methods.length G) (Xf V.super (by decide)) (fun x N=>Xf (V.faces x N) (by decide)) f _ rfl;have n:=Xh R;have HX:=Xh N;have p:=Xh (M.out.step (Xb.alloc Xl (.cells #[.string c.name,.string c.super,.slice pf c.faces.length H,.bool c.face,.slice pd c.fields.length F,.slice pm c.methods.length G] 31)));clear N V f t v j1 j2 j3 R;obtain⟨c0,c1,c2,c3,c4,c5,_⟩:=S;unfold Zu at U;rcases zB (zF (Za l) c) with⟨s,O⟩|⟨s,O⟩
     ·rw[s]at U;rw[if_pos O]at A;have j:=Xh A.symm;have g:=Xh U;clear U s O A m;go_wp2_with (go_fit g.out;rintro e w2⟨rfl,C⟩)
      go_roundw;case rel=>exact⟨k+1,by omega,j.out,n.out.step C,by simp,p.out.step C⟩
      case measure=>simp[intOf];omega
     ·rw[s]at U;rw[if_neg O]at A;have D:Hid (zj l=zF (Za l) c):=(by rw[m.out,if_pos (by rw[A];exact O),A];rfl);have g:=Xh U;have HZ:=Xh O;clear U s O A m;generalize zF (Za l) c=fc at *;go_wp2_with (go_fit g.out;rintro e w2⟨rfl,C⟩)
      go_ret2;exact Qbs (n.out.step C).below D.out HZ.out
    ·have L:Hid (Zh (zF (Za l)) l=0):=by
      rw[<-E.out,Xg (by omega)];rfl
     obtain rfl:k=l.length:=(by omega);have hcl:=QcV (qal L.out);have h8:=zcz HA2.out;have h12:(Za l).length<=12:=(by unfold Za;simp;omega);have q:Hid (zj l=if l.any (fun c=>QaB (Za l) c.name) then 6 else 0):=by
      rw[m.out,if_neg (by rw[L.out];decide)];rfl
     have HR:Hid (∀wx c,Qn w wx w.heap.size (Za l)->c∈l->_):=fun wx c hm hc=>Zev w wx w.heap.size (Za l) hm HN.out h8 h12 hcl c.name (qeY hc)
     have HCL:=Xh hcl;clear E L m hcl h8 h12;go_wp2_with fail;go_loopw [60] (fun x wy=>∃k,k<=l.length/\Hid (((l.drop k).any fun c=>QaB (Za l) c.name)=(l.any fun c=>QaB (Za l) c.name))/\Qn w wy w.heap.size (Za l)/\x=.int .i64 k/\Hid (Qn y wy w.heap.size (Za l))) (fun x _=>l.length-(intOf x).toNat)
     case atStart=>exact⟨0,by omega,rfl,J,rfl,M⟩
     case round =>
      clear J;obtain⟨k,hk,E,J,rfl,M⟩:=hrel;by_cases a:k<l.length
      ·obtain⟨c,N⟩:∃x,l[k]? = some x:=⟨l[k],by simp[a]⟩;obtain⟨b,o,vs,rfl,⟨fv,dv,mv,rfl,j1,j2,j3⟩,_,S⟩:=HC.out k c N;have S:=S.mono (Qa B Xl J.below) S.lt;have f:=j1.mono B.out (by decide) (fun _ _ h=>h);have t:=j2.mono B.out (by decide) (fun _ _ h=>h);have v:=j3.mono B.out (by decide) (fun _ _ h=>h.mono B.out);have A:=ZbQ (fun c=>QaB (Za l) c.name) l k c N;rw[E.out]at A;obtain⟨pf,H,rfl,_⟩:=f.open;obtain⟨pd,F,rfl,_⟩:=t.open;obtain⟨pm,G,rfl,_⟩:=v.open;have R:=J.step (Xb.alloc Xl (.cells #[.string c.name,.string c.super,.slice pf c.faces.length H,.bool c.face,.slice pd c.fields.length F,.slice pm c.methods.length G] 31));have U:=HR.out _ c R (Xe N);have n:=Xh R;have HX:=Xh N;have p:=Xh (M.out.step (Xb.alloc Xl (.cells #[.string c.name,.string c.super,.slice pf c.faces.length H,.bool c.face,.slice pd c.fields.length F,.slice pm c.methods.length G] 31)));clear N f t v j1 j2 j3 R;obtain⟨c0,c1,c2,c3,c4,c5,_⟩:=S;cases aC:QaB (Za l) c.name with
       |true =>
        rw[aC]at U A;rw[Bool.true_or]at A;have D:Hid (zj l=6):=(by rw[q.out,if_pos A];rfl);have g:=Xh U;clear U aC A q HR;go_wp2_with (go_fit g.out;rintro e w2⟨rfl,C⟩)
        go_ret2;exact Qbs (n.out.step C).below D.out (by decide)
       |false =>
        rw[aC]at U A;rw[Bool.false_or]at A;have j:=Xh A.symm;have g:=Xh U;clear U aC A q HR;go_wp2_with (go_fit g.out;rintro e w2⟨rfl,C⟩)
        go_roundw;case rel=>exact⟨k+1,by omega,j.out,n.out.step C,by simp,p.out.step C⟩
        case measure=>simp[intOf];omega
      ·have hno:Hid ((l.any fun c=>QaB (Za l) c.name)=false):=by
        rw[<-E.out,Xg (by omega)];rfl
       obtain rfl:k=l.length:=(by omega);have D:Hid (zj l=0):=(by rw[q.out,if_neg (by rw[hno.out];decide)];rfl);clear E hno q HR;have HM:=Xh J;go_wp2_with fail;go_ret2;exact⟨⟨HM.out.below,Or.inl ⟨D.out,rfl,HM,HN,HA2,HCL,hlen⟩⟩,fun _=>M.out⟩
theorem zbU(l:List qa)(A:Value)(w:World)(C:Qax w)(D:∀c∈l,qM c)(B:zx w A l):Calls prog 23 #[A] w (ZcC w l) :=
 (Qeu l A w w Xb C D B).mono fun _ _ h=>h.1
