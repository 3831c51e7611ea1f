/- Lemmas; conditions: as each states. -/
import Derived.Test.YtlmfmioljeppfaaGreatDoorRefClass
import Derived.Test.YtlmfmioljeppfaaGreatDoorFrameOps
set_option maxHeartbeats 4000000
namespace Go.Proofs.YtlmfmioljeppfaaGreatDoor
open Go.RowKit Go.Shelf Go.Lib
def qJ(w:World)(c:Qb)(is:Bool)(e:Ending)(w':World):Prop :=
 ∃pf kf pd kd pm km,e=.returned (.tuple #[.agg #[.string c.name,.string c.super,.slice pf c.faces.length kf,.bool c.face,.slice pd c.fields.length kd,.slice pm c.methods.length km],.bool is]) /\
  Qh w' (.slice pf c.faces.length kf) c.faces/\Qg w' 2 ZE (.slice pd c.fields.length kd) c.fields/\Qg w' 8 (Zr w') (.slice pm c.methods.length km) c.methods/\Below w.heap.size w w' /\
  (c.faces=[]\/∀g,(Value.slice pf c.faces.length kf).ownBlock=some g->g<w.heap.size)
theorem qau{w w':World}{n s:Str}{is:Bool}(hb:Below w.heap.size w w'):qJ w { zg with name:=n,super:=s } is (.returned (.tuple #[.agg #[.string n,.string s,.slice none 0 0,.bool false,.slice none 0 0,.slice none 0 0],.bool is])) w' :=
 ⟨none,0,none,0,none,0,rfl,Or.inl ⟨rfl,rfl⟩,Or.inl ⟨rfl,rfl⟩,Or.inl ⟨rfl,rfl⟩,hb,Or.inl rfl⟩
theorem qbR{w w':World}(hb:Below w.heap.size w w'):qJ w zg false (.returned (.tuple #[.agg #[.string ⟨#[]⟩,.string ⟨#[]⟩,.slice none 0 0,.bool false,.slice none 0 0,.slice none 0 0],.bool false])) w' :=
 qau (n:=.empty) (s:=.empty) hb
theorem zdE(l:List Qb)(n:Str):Qc (Za l) n=if n=Zg then some QN else if n=zC then some QW else Qc l n:=by
 rw[show Za l=QN::QW::l from rfl,Qdc];rfl
theorem zdd(l:List Qb)(k:Nat)(c:Qb)(n:Str)(h:l[k]? = some c):Qc (l.drop k) n=if c.name=n then some c else Qc (l.drop (k+1)) n:=by
 obtain⟨hk,rfl⟩:=List.getElem?_eq_some_iff.1 h;rw[List.drop_eq_getElem_cons hk];unfold Qc;by_cases hc:l[k].name=n
 ·rw[if_pos hc,List.find?_cons_of_pos (by simpa using hc)]
 ·rw[if_neg hc,List.find?_cons_of_neg (by simpa using hc)]
set_option maxRecDepth 100000
theorem QA(l:List Qb)(lv:Value)(n:Str)(w:World)(hlv:qi w lv l):
 Calls Tryz.prog 14 #[lv,.string n] w (qJ w ((Qc (Za l) n).getD zg) (Qc (Za l) n).isSome):=by
 obtain⟨pl,cap,rfl,hc1,hc2,hcc⟩:=hlv.open;have hlen:l.length<=9223372036854775807:=Xf hc1 hc2;have hall:=zdE l n;by_cases ho:n=Zg
 ·rw[if_pos ho]at hall;subst ho;rw[hall];have he:(ByteArray.toList Zg==[79,98,106,101,99,116])=true:=by rw[ByteArray.toList_eq];rfl
  clear hall hcc hlv;go_enter Tryz.func14,Tryz.ntmps14;go_wp2
  exact bodyPost_ret (v:=.tuple #[.agg #[.string Zg,.string ⟨#[]⟩,.slice none 0 0,.bool false,.slice none 0 0,.slice none 0 0],.bool true]) (by simp[results,Tryz.results14,go_sem]) rfl (qau (n:=Zg) (s:=.empty) (Xb.alloc Xl _))
 ·rw[if_neg ho]at hall;have heo:(n.toList==[79,98,106,101,99,116])=false:=by
   rw[show([79,98,106,101,99,116]:List UInt8)=Zg.toList by rw[ByteArray.toList_eq];rfl,Z5];simpa using ho
  by_cases hf:n=zC
  ·rw[if_pos hf]at hall;subst hf;rw[hall];have he:(ByteArray.toList zC==[70,97,117,108,116])=true:=(by rw[ByteArray.toList_eq];rfl);clear hall hcc hlv ho;go_enter Tryz.func14,Tryz.ntmps14;go_wp2
   exact bodyPost_ret (v:=.tuple #[.agg #[.string zC,.string Zg,.slice none 0 0,.bool false,.slice none 0 0,.slice none 0 0],.bool true]) (by simp[results,Tryz.results14,go_sem];rfl) rfl (qau (n:=zC) (s:=Zg) (Xb.alloc Xl _))
  ·rw[if_neg hf]at hall;rw[hall];have hef:(n.toList==[70,97,117,108,116])=false:=by
    rw[show([70,97,117,108,116]:List UInt8)=zC.toList by rw[ByteArray.toList_eq];rfl,Z5];simpa using hf
   have HC:=Xh hcc;clear hall hcc hlv ho hf;go_enter Tryz.func14,Tryz.ntmps14;go_wp2_with fail;go_loopw [6] (fun x wr=>∃k:Nat,k<=l.length/\Hid (Qc (l.drop k) n=Qc l n)/\(w.alloc (.cells #[.string ⟨#[]⟩,.string ⟨#[]⟩,.slice none 0 0,.bool false,.slice none 0 0,.slice none 0 0] 36))=wr/\x=.int .i64 k) (fun x _=>l.length-(intOf x).toNat)
   case atStart=>exact⟨0,by omega,rfl,rfl,rfl⟩
   case round =>
    obtain⟨k,hk,hff,rfl,rfl⟩:=hrel;have hB:Below w.heap.size w (w.alloc (.cells #[.string ⟨#[]⟩,.string ⟨#[]⟩,.slice none 0 0,.bool false,.slice none 0 0,.slice none 0 0] 36)):=Xb.alloc Xl _;by_cases hkl:k<l.length
    ·obtain⟨x,hx⟩:∃x,l[k]? = some x:=⟨l[k],by simp[hkl]⟩;obtain⟨b,o,vs,rfl,⟨fv,dv,mv,rfl,k1,k2,k3⟩,_,qc⟩:=HC.out k x hx;have hbl:=qc.lt;have qc:=qc.mono hB qc.lt;obtain⟨c0,c1,c2,c3,c4,c5,_⟩:=qc;have Zc:=zdd l k x n hx;rw[hff.out]at Zc;have HX:=Xh hx;clear hx;cases he:x.name.toList==n.toList with
     |true =>
      have hxn:x.name=n:=(by rw[Z5]at he;simpa using he);rw[if_pos hxn]at Zc;rw[Zc];obtain⟨pf,kf,rfl,_⟩:=k1.open;obtain⟨pd,kd,rfl,_⟩:=k2.open;obtain⟨pm,km,rfl,_⟩:=k3.open;have hfl:Hid (x.faces=[]\/∀g,(Value.slice pf x.faces.length kf).ownBlock=some g->g<w.heap.size):=by
       by_cases hfe:x.faces=[]
       ·exact Or.inl hfe
       ·refine Or.inr fun g hg=>?_
        obtain⟨g',h1,h2⟩:=zau k1 hfe;rw[h1]at hg;injection hg with hg;omega
      have K1:Hid (∀wx,Below w.heap.size w wx->_):=fun wx hb=>Qh.mono hb k1
      have K2:Hid (∀wx,Below w.heap.size w wx->_):=fun wx hb=>Qg.mono hb (by decide) (fun _ _ h=>h) k2
      have K3:Hid (∀wx,Below w.heap.size w wx->Qg wx 8 (Zr wx) _ _):=fun wx hb=>Qg.mono hb (by decide) (fun _ _ h=>h.mono hb) k3
      clear Zc hff k1 k2 k3 HC hxn;go_wp2_with fail;exact bodyPost_ret (v:=.tuple #[.agg #[.string x.name,.string x.super,.slice pf x.faces.length kf,.bool x.face,.slice pd x.fields.length kd,.slice pm x.methods.length km],.bool true]) (by simp[results,Tryz.results14,go_sem]) rfl ⟨pf,kf,pd,kd,pm,km,rfl,K1.out _ (Xb.alloc Xl _),K2.out _ (Xb.alloc Xl _),K3.out _ (Xb.alloc Xl _),Xb.alloc Xl _,hfl.out⟩
     |false =>
      have hxn:¬x.name=n:=(by rw[Z5]at he;simpa using he);rw[if_neg hxn]at Zc;have hst:=Xh Zc.symm;clear Zc hff k1 k2 k3 HC hxn;go_wp2_with fail;go_roundw;case rel=>exact⟨k+1,by omega,hst.out,by simp,by simp⟩
      case measure=>simp[intOf];omega
    ·obtain rfl:k=l.length:=(by omega);have hno:Qc l n=none:=(by rw[<-hff.out,Xg Xl];rfl);have HNO:=Xh hno;clear hno hff HC;go_wp2_with fail;exact bodyPost_ret (v:=.tuple #[.agg #[.string ⟨#[]⟩,.string ⟨#[]⟩,.slice none 0 0,.bool false,.slice none 0 0,.slice none 0 0],.bool false]) (by simp[results,Tryz.results14,go_sem]) rfl (by rw[HNO.out];exact qbR (Xb.alloc Xl _))
set_option maxRecDepth 512
def qaj(w:World)(l:List Str)(e:Ending)(w':World):Prop:=(∃v,e=.returned v/\w'.ownsRow w.heap.size 9 1 v l.length (l.map Value.string))/\Below w.heap.size w w'
theorem za4(w:World)(base:Nat):w.ownsRow base 9 1 (.slice none 0 0) 0 []:=⟨rfl,Or.inl ⟨rfl,rfl⟩⟩
theorem Qec:∀{s:Str},0+[s].length<=maxLen:=by intro s;show 1<=maxLen;decide
theorem ZdE:∀{s:Str},(0+[s].length)*16<=140737488355328:=by intro s;show 1*16<=140737488355328;decide
set_option maxRecDepth 100000
theorem Zbx(l:List Qb)(lv:Value)(n:Str)(w:World)(hlv:qi w lv l)(h8:∀c∈l,c.faces.length<=1048576):
 Calls Tryz.prog 74 #[lv,.string n] w (qaj w (Qo (Za l) n)):=by
 have HC:=Xh (QA l lv n w hlv);obtain⟨pl,cap,rfl,_⟩:=hlv.open;have hc8:((Qc (Za l) n).getD zg).faces.length<=1048576:=by
  cases hfc:Qc (Za l) n with
  |none=>exact Nat.zero_le _
  |some c =>
   have hm:c∈Za l:=List.mem_of_find?_eq_some hfc;unfold Za at hm;rcases List.mem_cons.1 hm with rfl|hm
   ·exact Nat.zero_le _
   ·rcases List.mem_cons.1 hm with rfl|hm
    ·exact Nat.zero_le _
    ·exact h8 c hm
 unfold Qo;clear hlv h8;generalize (Qc (Za l) n).isSome=is at *;generalize (Qc (Za l) n).getD zg=c at *;obtain⟨name,super,faces,face,fields,methods⟩:=c;dsimp only at *;unfold qJ at HC;dsimp only at HC;have ze:super.toList.isEmpty=decide (super.size=0):=ZD super;have hcf:0+faces.length<=maxLen:=Xf (show 0+faces.length<=1048576 by omega) (by decide);have hcg:(0+faces.length)*16<=140737488355328:=by omega
 have hch:1+faces.length<=maxLen:=Xf (show 1+faces.length<=1048577 by omega) (by decide);have hci:(1+faces.length)*16<=140737488355328:=by omega
 have HF1:=Xh hcf;have HF2:=Xh hcg;have HF3:=Xh hch;have HF4:=Xh hci;clear hcf hcg hch hci;by_cases h0:super.size=0
 ·rw[if_pos h0];rw[Xj h0]at ze;clear h0;go_enter Tryz.func74,Tryz.ntmps74;go_upto_region 2 with(go_fit HC.out;rintro e w2⟨pf,kf,pd,kd,pm,km,rfl,h1,_,_,hB2,_⟩)
  have BX:=ZY w2 #[.string name,.string super,.slice pf faces.length kf,.bool face,.slice pd fields.length kd,.slice pm methods.length km] 36;have hBa:Below w2.heap.size w2 (w2.alloc (.cells #[.string name,.string super,.slice pf faces.length kf,.bool face,.slice pd fields.length kd,.slice pm methods.length km] 36)):=BX.below;replace h1:=h1.mono hBa;have hB3:=Qa hB2 Xl hBa;obtain⟨q0,q1,q2,q3,q4,q5⟩:=qM BX;have hlt:w2.heap.size<(w2.alloc (.cells #[.string name,.string super,.slice pf faces.length kf,.bool face,.slice pd fields.length kd,.slice pm methods.length km] 36)).heap.size:=BX.size;clear hBa BX hB2;generalize w2.alloc (.cells #[.string name,.string super,.slice pf faces.length kf,.bool face,.slice pd fields.length kd,.slice pm methods.length km] 36)=w3 at *;go_wp2_with (at_builtin;(refine qg rfl _ _ rfl w.heap.size _ 0 [] rfl (za4 _ _) _ faces rfl h1 HF1.out HF2.out hB3.size ?_);intro v4 w4 hown4 hgrow4 _)
  go_ret;exact⟨⟨v4,rfl,by simpa using hown4⟩,hB3.grown hgrow4 hB3.size (fun k hk=>by cases hk)⟩
 ·rw[if_neg h0];rw[Xi h0]at ze;clear h0;go_enter Tryz.func74,Tryz.ntmps74;go_upto_region 2 with(go_fit HC.out;rintro e w2⟨pf,kf,pd,kd,pm,km,rfl,h1,_,_,hB2,_⟩)
  have BX:=ZY w2 #[.string name,.string super,.slice pf faces.length kf,.bool face,.slice pd fields.length kd,.slice pm methods.length km] 36;have hBa:Below w2.heap.size w2 (w2.alloc (.cells #[.string name,.string super,.slice pf faces.length kf,.bool face,.slice pd fields.length kd,.slice pm methods.length km] 36)):=BX.below;replace h1:=h1.mono hBa;have hB3:=Qa hB2 Xl hBa;obtain⟨q0,q1,q2,q3,q4,q5⟩:=qM BX;have hlt:w2.heap.size<(w2.alloc (.cells #[.string name,.string super,.slice pf faces.length kf,.bool face,.slice pd fields.length kd,.slice pm methods.length km] 36)).heap.size:=BX.size;clear hBa BX hB2;generalize w2.alloc (.cells #[.string name,.string super,.slice pf faces.length kf,.bool face,.slice pd fields.length kd,.slice pm methods.length km] 36)=w3 at *;have hone:=Zt w3 super;have hBb:Below w3.heap.size w3 (w3.alloc (.cells #[.string super] 9)):=Xb.alloc Xl _;have hB4:=Qa hB3 Xl hBb;go_wp2_with (first
   |(at_builtin;(refine qg rfl _ _ rfl w.heap.size _ _ _ rfl hown5 _ faces rfl h5 HF3.out HF4.out hB5.size ?_);intro v6 w6 hown6 hgrow6 _)
   |(at_builtin;(refine qg rfl _ _ rfl w.heap.size _ 0 [] rfl (za4 _ _) _ [super] rfl hone Qec ZdE hB4.size ?_);intro v5 w5 hown4 hgrow5 _;(have hown5:w5.ownsRow w.heap.size 9 1 v5 1 [.string super]:=by simpa using hown4);clear hown4;(have hB45:Below w3.heap.size w3 w5:=hBb.grown hgrow5 hBb.size (fun k hk=>by cases hk));(have h5:=h1.mono hB45);(have hB5:=Qa hB3 Xl hB45);(have q6:=(hB45.cell (p:=⟨w2.heap.size,2,none⟩) hlt).trans q2)))
  go_ret;exact⟨⟨v6,rfl,by simpa[Nat.add_comm] using hown6⟩,hB5.grown hgrow6 hB5.size (fun k hk=>(hown5.lt k hk).1)⟩
theorem zbe(l:List Qb)(lv:Value)(n:Str)(w:World)(hlv:qi w lv l)(h8:∀c∈l,c.faces.length<=1048576)(h12:(Za l).length<=12)(hcl:zay (Za l))(hk:(Qc (Za l) n).isSome=true)(hnd:(Qo (Za l) n).Nodup):
 Calls Tryz.prog 39 #[lv,.string n] w (qaj w (upC (Za l) n)):=by
 obtain⟨i0,hi,hz0,hz1,hz2⟩:=info_parts qO;have HAb:Hid (∀wr x,Below w.heap.size w wr->_):=fun wr x hb=>Zbx l lv x wr (hlv.mono hb) h8
 have HA0:=Xh (Zbx l lv n w hlv h8);obtain⟨pl,cap,rfl,_⟩:=hlv.open;have HG0:Hid (qaz (Za l) (Qo (Za l) n)):=⟨hnd,hcl n hk⟩;have HR0:Hid (qaa (Qo (Za l)) ((Za l).length+1-0) 0 (Qo (Za l) n)=upC (Za l) n):=rfl;have HCl:=Xh hcl;clear hlv h8 hcl hnd hk;generalize upC (Za l) n=res at *;generalize Qo (Za l) n=ab0 at *;generalize hcs:Za l=cs at *;have HCS:=Xh hcs;clear hcs;go_enter Tryz.func39,Tryz.ntmps39;go_wp2_with (go_fit HA0.out;rintro e w2⟨⟨v2,rfl,hown⟩,hB⟩)
 go_loopw [5,6] (fun v x wr=>∃(i:Nat) (out:List Str),Hid (qaa (Qo cs) (cs.length+1-i) i out=res)/\Hid (qaz cs out)/\wr.ownsRow w.heap.size 9 1 v out.length (out.map Value.string)/\Below w.heap.size w wr/\i<=13/\x=.int .i64 i) (fun _ x _=>14-(intOf x).toNat)
 case atStart=>exact⟨0,ab0,HR0,HG0,hown,hB,by omega,rfl⟩
 case round =>
  clear hown hB HR0 HG0;obtain⟨i,out,HR,HG,hown,hB,hi13,rfl⟩:=hrel;obtain⟨va,vc,rfl⟩:=qe hown;have hol:=Xf HG.out.length h12;by_cases hil:i<out.length
  ·obtain⟨x,hx⟩:∃x,out[i]? = some x:=⟨out[i],by simp[hil]⟩;have hkx:=HG.out.known x (Xe hx);have hrs:Hid (qaa (Qo cs) (cs.length+1-(i+1)) (i+1) (Qaa out (Qo cs x))=res):=by
    have:=HR.out;have hle:=HG.out.length;rw[show cs.length+1-i=(cs.length-i)+1 by omega,Za1 hx]at this;rw[show cs.length+1-(i+1)=cs.length-i by omega];exact this
   have hknow:Hid (∀a∈Qo cs x,(Qc cs a).isSome=true):=HCl.out x hkx;have hcell:=zbd hown i x hx;obtain⟨g,rfl⟩:=qbO hown (by omega);have HAx:=Xh (HAb.out wr x hB);have HX:=Xh hx;clear hx HR hkx;generalize Qo cs x=abv at *;go_wp2_with (go_at_call 74;((with_reducible refine HAx.out.mono ?_);rintro e w3⟨⟨v3,rfl,hv3⟩,hB2⟩;obtain⟨pv,kv,rfl⟩:=qe hv3))
   have hg:=(hown.lt g rfl);have hown2:=qr hown hB2;have hbw:=Qa hB Xl hB2;have hsep:Hid (abv=[]\/∀g',(Value.slice (some ⟨g,0,none⟩) out.length vc).ownBlock=some g'->(Value.slice pv abv.length kv).ownBlock≠some g'):=by
    refine Or.inr fun g' h1 h2=>?_
    obtain rfl:g=g':=(by injection h1);have:=(hv3.lt _ h2).1;have:=hg.2;omega
   have hv2:=Ze hv3;obtain⟨pv',kv',he2,hv21,hv22,_⟩:=hv2.open;injection he2 with he1 he3 he2
   subst he1 he2;clear he3;clear HAx HAb hcell hown hB hB2 HCl hv3 hg HA0;go_loopw [5,8] (fun v x wr2=>∃(k:Nat) (o2:List Str),k<=abv.length/\Hid (Qaa o2 (abv.drop k)=Qaa out abv)/\Hid (qaz cs o2)/\wr2.ownsRow w.heap.size 9 1 v o2.length (o2.map Value.string)/\Below w.heap.size w wr2/\Qh wr2 (.slice pv abv.length kv) abv/\Hid (abv=[]\/∀g',v.ownBlock=some g'->(Value.slice pv abv.length kv).ownBlock≠some g')/\x=.int .i64 k) (fun _ x _=>abv.length-(intOf x).toNat)
   case atStart=>exact⟨0,out,by omega,rfl,HG,hown2,hbw,hv2,hsep,rfl⟩
   case round =>
    clear hown2 hbw hv2 hsep;obtain⟨k,o2,hk,HA,HG2,hown,hB,hv,hsep,rfl⟩:=hrel;obtain⟨va,vc2,rfl⟩:=qe hown;have hlen:abv.length<=9223372036854775807:=Xf hv21 hv22;by_cases hkl:k<abv.length
    ·obtain⟨a,ha⟩:∃a,abv[k]? = some a:=⟨abv[k],by simp[hkl]⟩;have hka:=hknow.out a (Xe ha);have Zc:=ZbO o2 abv k a ha;rw[HA.out]at Zc;obtain⟨⟨b,o,rfl⟩,_⟩:=hv.ptr (by omega);have hc:=hv.cell ha;have hcon:=qbk o2 (.slice va o2.length vc2) a wr (Ze hown);have HX2:=Xh ha;clear ha;cases hmm:ZL o2 a with
     |true =>
      rw[hmm,if_pos rfl]at Zc;rw[hmm]at hcon;have HC:=Xh hcon;have hst:=Xh Zc.symm;clear hcon Zc hmm;go_wp2_with (go_fit HC.out;rintro e w3⟨rfl,rfl⟩)
      go_roundw;case rel=>exact⟨k+1,o2,by omega,hst.out,HG2,hown,hB,hv,hsep,by simp⟩
      case measure=>simp[intOf];omega
     |false =>
      rw[hmm,if_neg (by decide)]at Zc;rw[hmm]at hcon;have HC:=Xh hcon;have hst:=Xh Zc.symm;have HG3:Hid (qaz cs (o2++[a])):=HG2.out.add hka hmm;have hl3:(o2++[a]).length<=12:=Xf HG3.out.length h12;rw[List.length_append,List.length_singleton]at hl3;have c2:∀u∈[Value.string a],u.oneCell'=true:=fun u hu=>by simp at hu;subst hu;rfl
      have c3:o2.length+1<=maxLen:=Xf hl3 (by decide);have c4:(o2.length+1)*16<=140737488355328:=(by omega);have c5:w.heap.size<=(wr.alloc (.cells #[.string a] 9)).heap.size:=(hB.alloc hB.size _).size;have HV:=Xh (hv.mono (Xb.alloc Xl (.cells #[.string a] 9)));have HB:=Xh (hB.alloc hB.size (.cells #[.string a] 9));have HO:=Xh hown;clear hcon Zc hmm hv hB hka;go_wp2_with (first|(go_fit HC.out;rintro e w3⟨rfl,rfl⟩)|(at_builtin;(refine wpList_append_own_at _ rfl _ _ 25 rfl w.heap.size 9 i0 (.string .empty) 1 16 Tryz.underlying25 hi hz0 hz1 hz2 rfl (by decide) _ _ _ rfl (hown.alloc _) ⟨wr.heap.size,0,none⟩ 1 1 [.string a] rfl rfl (cell_one_new _ _ _) c2 c3 c4 c5 ?_;intro v3 w3 hown3 hgrow3 _ hat3)))
      have hown4:w3.ownsRow w.heap.size 9 1 v3 (o2++[a]).length ((o2++[a]).map Value.string):=(by simpa using hown3);go_roundw;case measure=>simp[intOf];omega
      case rel =>
      refine⟨k+1,o2++[a],by omega,hst.out,HG3,hown4,HB.out.grown hgrow3 c5 (fun k hk=>(HO.out.lt k hk).1),?_,?_,by simp⟩
      ·refine HV.out.grown hgrow3 ?_;rcases hsep.out with h|h
       ·exact Or.inl h
       ·refine Or.inr fun he=>?_
        obtain⟨g2,h1,_⟩:=zau HV.out (List.ne_nil_of_length_pos (by omega));rw[h1]at he;exact h g2 he.symm h1
      ·refine Or.inr fun g' h1 h2=>?_
       obtain⟨g2,h3,h4⟩:=zau HV.out (List.ne_nil_of_length_pos (by omega));rw[h3]at h2;injection h2 with h2
       subst h2;rcases hat3 with h|h
       ·rcases hsep.out with h5|h5
        ·rw[h5]at hkl;simp at hkl
        ·exact h5 _ (h.symm.trans h1) h3
       ·rw[h]at h1;injection h1 with h1;omega
    ·have hdone:Hid (o2=Qaa out abv):=by
      have:=HA.out;rw[Xg (by omega)]at this;exact this
     cases hdone.out;go_wp2_with fail;go_roundw;case rel=>exact⟨i+1,_,hrs,HG2,hown,hB,by omega,by simp⟩
     case measure=>simp[intOf];omega
  ·have hend:Hid (out=res):=by
    have:=HR.out;rwa [za1 (List.getElem?_eq_none (by omega))]at this
   have HO:=Xh hown;have HBw:=Xh hB;clear hown HR hB;go_wp2_with fail;go_ret;exact⟨⟨_,rfl,by rw[<-hend.out];exact HO.out⟩,HBw⟩
set_option maxRecDepth 512
def fb(cs:List Qb)(i:Nat)(n:Str):Bool:=((Qc cs n).getD zg).face != decide (0<i)
def Q8(cs:List Qb):Nat->List Str->Bool
 |_,[]=>false
 |i,a::r=>fb cs i a||Q8 cs (i+1) r
theorem zcB(cs:List Qb)(l:List Str)(k:Nat)(x:Str)(h:l[k]? = some x):Q8 cs k (l.drop k)=(fb cs k x||Q8 cs (k+1) (l.drop (k+1))):=by
 obtain⟨hk,rfl⟩:=List.getElem?_eq_some_iff.1 h;rw[List.drop_eq_getElem_cons hk];rfl
def Qa8(cs:List Qb)(c:Qb):Nat :=
 if c.super.size=0 then 1
 else if (c.super::c.faces).any (fun n=>!(Qc cs n).isSome) then 3
 else if Q8 cs 0 (c.super::c.faces) then 7
 else if c.face&&decide (c.super≠Zg) then 7 else 0
theorem ZbP{cs:List Qb}:∀(r:List Str) (i:Nat),0<i->(∀a∈r,(Qc cs a).isSome=true)->(Q8 cs i r=false↔Zh (fun n=>zu cs n true) r=0)/\(Q8 cs i r=true->Zh (fun n=>zu cs n true) r=7)
 |[],i,_,_=>⟨⟨fun _=>rfl,fun _=>rfl⟩,fun h=>by cases h⟩
 |a::r,i,hi,hk=>by
  obtain⟨ih1,ih2⟩:=ZbP r (i+1) (by omega) (fun b hb=>hk b (by simp[hb]));have ha:=hk a (by simp);rw[Option.isSome_iff_exists]at ha;obtain⟨c,hc⟩:=ha;have e1:fb cs i a=!c.face:=by unfold fb;rw[hc,Xj hi,Option.getD_some];generalize c.face=b;cases b<;>rfl
  have e2:zu cs a true=if c.face=true then 0 else 7:=by unfold zu;rw[hc]
  rw[Q8,Zh,e1,e2];cases hf:c.face with
  |true=>simpa using⟨ih1,ih2⟩
  |false=>simp
theorem ZcB(cs:List Qb)(c:Qb):Qa8 cs c=qv cs c:=by
 unfold Qa8 qv;by_cases h0:c.super.size=0
 ·rw[if_pos h0,if_pos h0]
 ·rw[if_neg h0,if_neg h0];cases hs:(Qc cs c.super).isSome with
  |false=>rw[List.any_cons,hs];rfl
  |true =>
   rw[List.any_cons,hs];simp only[Bool.not_true,Bool.false_or,Bool.false_eq_true,if_false];cases hany:c.faces.any (fun n=>!(Qc cs n).isSome) with
   |true=>simp
   |false =>
    simp only[Bool.false_eq_true,if_false];have hk:∀a∈c.faces,(Qc cs a).isSome=true:=fun a ha=>by
     rw[List.any_eq_false]at hany;have:=hany a ha;cases hq:(Qc cs a).isSome with
     |true=>rfl
     |false=>rw[hq]at this;exact absurd rfl this
    obtain⟨g1,g2⟩:=ZbP (cs:=cs) c.faces 1 (by omega) hk;rw[Option.isSome_iff_exists]at hs;obtain⟨d,hd⟩:=hs;have e1:Q8 cs 0 (c.super::c.faces)=(d.face||Q8 cs 1 c.faces):=by
     rw[Q8];unfold fb;rw[hd,Option.getD_some];generalize d.face=b;cases b<;>rfl
    have e2:zu cs c.super false=if d.face=false then 0 else 7:=(by unfold zu;rw[hd]);rw[e1,e2];cases hdf:d.face with
    |true=>simp
    |false =>
     cases hb:Q8 cs 1 c.faces with
     |true=>rw[g2 hb];simp
     |false=>rw[g1.1 hb];simp
set_option maxRecDepth 100000
theorem zch(l:List Qb)(lv:Value)(c:Qb)(fv dv mv:Value)(w:World)(hlv:qi w lv l)(hf:Qh w fv c.faces)(hfl:c.faces.length<=1048576):
 Calls Tryz.prog 37 #[lv,Qz c fv dv mv] w fun e w'=>e=.returned (.int .i64 (qv (Za l) c))/\Below w.heap.size w w':=by
 rw[<-ZcB];have HCO:Hid (∀wx n,Below w.heap.size w wx->_):=fun wx n hb=>QA l lv n wx (hlv.mono hb)
 unfold qJ at HCO;have HFm:Hid (∀wx,Below w.heap.size w wx->Qh wx fv c.faces):=fun wx hb=>hf.mono hb
 obtain⟨pl,cap,rfl,_⟩:=hlv.open;obtain⟨pf,kf,rfl,_⟩:=hf.open;have HB0:=Xh (za3 w c (.slice pf c.faces.length kf) dv mv 36);have HF:Hid (Qa8 (Za l) c=if c.super.size=0 then 1 else if (c.super::c.faces).any (fun n=>!(Qc (Za l) n).isSome) then 3
  else if Q8 (Za l) 0 (c.super::c.faces) then 7 else if c.face&&decide (c.super≠Zg) then 7 else 0):=rfl
 clear hlv hf;generalize Qa8 (Za l) c=res at *;generalize Za l=cs at *;obtain⟨name,super,faces,face,fields,methods⟩:=c;unfold Qz;dsimp only at *;have ze:super.toList.isEmpty=decide (super.size=0):=ZD super;have hch:1+faces.length<=maxLen:=Xf (show 1+faces.length<=1048577 by omega) (by decide);have hci:(1+faces.length)*16<=140737488355328:=by omega
 have HF3:=Xh hch;have HF4:=Xh hci;clear hch hci;by_cases h0:super.size=0
 ·rw[Xj h0]at ze;have hfin:Hid (res=1):=by unfold Hid;rw[HF.out,if_pos h0]
  clear HF h0;go_enter Tryz.func37,Tryz.ntmps37;go_wp2_with fail;go_ret;exact⟨by rw[hfin.out];rfl,HB0.out.below⟩
 ·rw[Xi h0]at ze;rw[if_neg h0]at HF;clear h0;go_enter Tryz.func37,Tryz.ntmps37;go_upto_region 3 with fail;have BX:=HB0.out;generalize w.alloc (.cells #[.string name,.string super,.slice pf faces.length kf,.bool face,dv,mv] 36)=w3 at *;have hfm:=HFm.out w3 BX.below;have hone:=QY w3 w3.heap.size (.string super) Xl;have hBb:Below w3.heap.size w3 (w3.alloc (.cells #[.string super] 9)):=Xb.alloc Xl _;have h5:=hfm.mono hBb;obtain⟨q0,q1,q2,q3,q4,q5⟩:=qM BX;have hlt:=BX.size;go_upto_region 4 with(at_builtin;(refine qg rfl _ _ rfl w3.heap.size _ _ _ rfl hone _ faces rfl h5 HF3.out HF4.out hBb.size ?_);intro v6 w6 hown6 hgrow6 _)
  replace BX:=BX.step (hBb.grown hgrow6 hBb.size (fun k hk=>(hone.lt k hk).1));have hown7:w6.ownsRow w3.heap.size 9 1 v6 (super::faces).length ((super::faces).map Value.string):=by simpa[Nat.add_comm] using hown6
  have hS6:=Ze hown7;obtain⟨p6,k6,rfl,hk6,hk7,_⟩:=hS6.open;clear hlt hone hBb h5 hown6 hown7 hgrow6 q0 q1 q2 q3 q4 q5 hfm HFm HB0;have HAL:Hid (super::faces=super::faces):=rfl;generalize hall:super::faces=all at *;have HAll:=Xh hall;clear hall HAL;have hlen:all.length<=9223372036854775807:=Xf hk6 hk7;go_wp2_with fail;go_loopw [6] (fun x wr=>∃k:Nat,k<=all.length/\Hid (((all.drop k).any fun n=>!(Qc cs n).isSome)=all.any fun n=>!(Qc cs n).isSome)/\zB w wr [.string name,.string super,.slice pf faces.length kf,.bool face,dv,mv]/\Qh wr (.slice p6 all.length k6) all/\x=.int .i64 k) (fun x _=>all.length-(intOf x).toNat)
  case atStart=>exact⟨0,by omega,rfl,BX,hS6,rfl⟩
  case round =>
   clear BX hS6;obtain⟨k,hk,hff,BX,hS,rfl⟩:=hrel;by_cases hkl:k<all.length
   ·obtain⟨x,hx⟩:∃x,all[k]? = some x:=⟨all[k],by simp[hkl]⟩;obtain⟨⟨b6,o6,rfl⟩,_⟩:=hS.ptr (by omega);have u0:=hS.cell hx;have Zc:=qai (fun n=>!(Qc cs n).isSome) all k x hx;rw[hff.out]at Zc;have hco:=HCO.out wr x BX.below;generalize (Qc cs x).getD zg=d at *;obtain⟨n2,s2,f2,b2,d2,m2⟩:=d;dsimp only at hco;have HX:=Xh hx;clear hx;cases hfc:(Qc cs x).isSome with
    |true =>
     rw[hfc]at Zc hco;rw[Bool.not_true,Bool.false_or]at Zc;have hst:=Xh Zc.symm;have HC:=Xh hco;clear Zc hco hfc HF hff;go_wp2_with (go_fit HC.out;rintro e w7⟨pf2,kf2,pd2,kd2,pm2,km2,rfl,_,_,_,hB7,_⟩)
     have BX7:=(BX.step hB7).alloc (.cells #[.string n2,.string s2,.slice pf2 f2.length kf2,.bool b2,.slice pd2 d2.length kd2,.slice pm2 m2.length km2] 36);have hS7:=(hS.mono hB7).mono (Xb.alloc Xl (.cells #[.string n2,.string s2,.slice pf2 f2.length kf2,.bool b2,.slice pd2 d2.length kd2,.slice pm2 m2.length km2] 36));go_roundw;case rel=>exact⟨k+1,by omega,hst.out,BX7,hS7,by simp⟩
     case measure=>simp[intOf];omega
    |false =>
     rw[hfc]at Zc hco;rw[Bool.not_false,Bool.true_or]at Zc;have hfin:Hid (res=3):=(by unfold Hid;rw[HF.out,if_pos Zc]);have HC:=Xh hco;clear Zc hco hfc HF hff;go_wp2_with (go_fit HC.out;rintro e w7⟨pf2,kf2,pd2,kd2,pm2,km2,rfl,_,_,_,hB7,_⟩)
     go_ret;exact⟨by rw[hfin.out];rfl,((BX.step hB7).alloc _).below⟩
   ·have hff0:Hid ((all.any fun n=>!(Qc cs n).isSome)=false):=by
     rw[<-hff.out,Xg (by omega)];rfl
    clear hff;obtain rfl:k=all.length:=(by omega);rw[if_neg (by rw[hff0.out];decide)]at HF;clear hff0;go_wp2_with fail;go_loopw [9] (fun x wr=>∃k:Nat,k<=all.length/\Hid (Q8 cs k (all.drop k)=Q8 cs 0 all)/\zB w wr [.string name,.string super,.slice pf faces.length kf,.bool face,dv,mv]/\Qh wr (.slice p6 all.length k6) all/\x=.int .i64 k) (fun x _=>all.length-(intOf x).toNat)
    case atStart=>exact⟨0,by omega,rfl,BX,hS,rfl⟩
    case round =>
     clear BX hS;obtain⟨k,hk,hff,BX,hS,rfl⟩:=hrel;by_cases hkl:k<all.length
     ·obtain⟨x,hx⟩:∃x,all[k]? = some x:=⟨all[k],by simp[hkl]⟩;obtain⟨⟨b6,o6,rfl⟩,_⟩:=hS.ptr (by omega);have u0:=hS.cell hx;have Zc:=zcB cs all k x hx;rw[hff.out]at Zc;unfold fb at Zc;have hco:=HCO.out wr x BX.below;generalize (Qc cs x).isSome=is at *;generalize (Qc cs x).getD zg=d at *;obtain⟨n2,s2,f2,b2,d2,m2⟩:=d;dsimp only at hco Zc;have HX:=Xh hx;have HC:=Xh hco;clear hx hco hff;obtain⟨t0,ht0⟩:∃t,decide (0<k)=t:=⟨_,rfl⟩;rw[ht0]at Zc;rcases(show b2=!t0\/b2=t0 by cases b2<;>cases t0<;>simp) with rfl|rfl
      ·rw[show((!t0) != t0)=true by cases t0<;>rfl,Bool.true_or]at Zc;have hfin:Hid (res=7):=(by unfold Hid;rw[HF.out,if_pos Zc]);clear Zc HF;cases t0;all_goals
        have hk0:=ht0;simp only[decide_eq_true_eq,decide_eq_false_iff_not]at hk0;have hc:=HC.out;simp only[Bool.not_true,Bool.not_false]at hc;have HC2:=Xh hc;clear hc HC;go_wp2_with (go_fit HC2.out;rintro e w7⟨pf2,kf2,pd2,kd2,pm2,km2,rfl,_,_,_,hB7,_⟩)
        go_ret;exact⟨by rw[hfin.out];rfl,((BX.step hB7).alloc _).below⟩
      ·rw[show(b2 != b2)=false by cases b2<;>rfl,Bool.false_or]at Zc;have hst:=Xh Zc.symm;clear Zc HF;cases b2;all_goals
        have hk0:=ht0;simp only[decide_eq_true_eq,decide_eq_false_iff_not]at hk0;go_wp2_with (go_fit HC.out;rintro e w7⟨pf2,kf2,pd2,kd2,pm2,km2,rfl,_,_,_,hB7,_⟩)
        go_roundw;case rel=>exact⟨k+1,by omega,hst.out,(BX.step hB7).alloc _,(hS.mono hB7).mono (Xb.alloc Xl _),by simp⟩
        case measure=>simp[intOf];omega
     ·have hff0:Hid (Q8 cs 0 all=false):=by
       rw[<-hff.out,Xg (by omega)];rfl
      clear hff;obtain rfl:k=all.length:=(by omega);rw[if_neg (by rw[hff0.out];decide)]at HF;obtain⟨q0,q1,q2,q3,q4,q5⟩:=qM BX;have HBw:=Xh BX.below;obtain⟨ko,hko⟩:∃t,decide (super≠Zg)=t:=⟨_,rfl⟩;have hso:(!super.toList==[79,98,106,101,99,116])=ko:=by
       have h1:=Z5 super Zg;rw[show Zg.toList=[79,98,106,101,99,116] by rw[ByteArray.toList_eq];rfl]at h1;rw[h1,<-hko];simp
      rw[hko]at HF;clear hff0 hko BX hS;cases face<;>cases ko
      all_goals
       have hf2:=HF.out;simp only[Bool.and_true,Bool.and_false,if_true,Bool.false_eq_true,if_false]at hf2;have hfin:=Xh hf2;clear HF hf2;go_wp2_with fail;go_ret;exact⟨by rw[hfin.out];rfl,HBw⟩
set_option maxRecDepth 512
end Go.Proofs.YtlmfmioljeppfaaGreatDoor
