/- Lemmas; conditions: as each states. -/
import Derived.Test.YtlmfmioljeppfaaGreatDoorLayLaw
set_option maxHeartbeats 4000000
namespace Go.Proofs.YtlmfmioljeppfaaGreatDoor
open Go.RowKit Go.Shelf Go.Lib
def Blk(w:World)(b:Nat)(t:TypeId)(vals:List Value):Prop:=w.heap[b]? = some (.cells vals.toArray t (0,0))
theorem Blk.new(w:World)(t:TypeId)(vals:List Value):Blk (w.alloc (.cells vals.toArray t)) w.heap.size t vals:=heap_alloc_new _ _
theorem Blk.lt{w:World}{b:Nat}{t:TypeId}{vals:List Value}(h:Blk w b t vals):b<w.heap.size:=(Array.getElem?_eq_some_iff.1 h).1
theorem Blk.step{w w':World}{b:Nat}{t:TypeId}{vals:List Value}(h:Blk w b t vals)(hb:Below w.heap.size w w'):Blk w' b t vals:=(hb.block b h.lt).trans h
theorem Blk.cell{w:World}{b:Nat}{t:TypeId}{vals:List Value}(h:Blk w b t vals)(i:Nat):w.cell? ⟨b,i,none⟩=vals[i]?:=by
 rw[cell_of_row w b i _ t _ h];simp
theorem Blk.frozen{w:World}{b:Nat}{t:TypeId}{vals:List Value}(h:Blk w b t vals)(i:Nat):w.frozen? ⟨b,i,none⟩=false:=frozen_of_row w b i _ t h
def zo:List Value:=[.string ⟨#[]⟩,.string ⟨#[]⟩,.bool false,.bool false,.bool false,.int .i64 0,.slice none 0 0,.slice none 0 0]
theorem Blk.method{w:World}{b:Nat}(h:Blk w b 53 zo):
 w.cell? ⟨b,0,none⟩=some (.string ⟨#[]⟩)/\w.cell? ⟨b,1,none⟩=some (.string ⟨#[]⟩)/\w.cell? ⟨b,2,none⟩=some (.bool false)/\w.cell? ⟨b,3,none⟩=some (.bool false)/\w.cell? ⟨b,4,none⟩=some (.bool false)/\w.cell? ⟨b,5,none⟩=some (.int .i64 0)/\w.cell? ⟨b,6,none⟩=some (.slice none 0 0)/\w.cell? ⟨b,7,none⟩=some (.slice none 0 0) :=
 ⟨h.cell 0,h.cell 1,h.cell 2,h.cell 3,h.cell 4,h.cell 5,h.cell 6,h.cell 7⟩
theorem ZB{B b:Nat}{a w:World}(h:Below B a w)(hp:B<=b)(v0 v1 v2 v3 v4 v5 v6 v7:Value):
 Below B a ((((((((w.setCell ⟨b,0,none⟩ v0).setCell ⟨b,1,none⟩ v1).setCell ⟨b,2,none⟩ v2).setCell ⟨b,3,none⟩ v3).setCell ⟨b,4,none⟩ v4).setCell ⟨b,5,none⟩ v5).setCell ⟨b,6,none⟩ v6).setCell ⟨b,7,none⟩ v7) :=
 ((((((((h.setCell (p:=⟨b,0,none⟩) hp v0).setCell (p:=⟨b,1,none⟩) hp v1).setCell (p:=⟨b,2,none⟩) hp v2).setCell (p:=⟨b,3,none⟩) hp v3).setCell (p:=⟨b,4,none⟩) hp v4).setCell (p:=⟨b,5,none⟩) hp v5).setCell (p:=⟨b,6,none⟩) hp v6).setCell (p:=⟨b,7,none⟩) hp v7)
theorem z7{B b:Nat}{a w:World}(h:Below B a w)(hp:B<=b)(v0 v1:Value):Below B a ((w.setCell ⟨b,0,none⟩ v0).setCell ⟨b,1,none⟩ v1) :=
 (h.setCell (p:=⟨b,0,none⟩) hp v0).setCell (p:=⟨b,1,none⟩) hp v1
def qY(w:World)(m:Zk)(v:Value):Prop:=∃pc kc ph kh,v=.agg #[.string m.name,.string m.type,.bool m.static,.bool m.abs,.bool m.priv,.int .i64 m.locals,.slice pc m.code.length kc,.slice ph m.handlers.length kh]/\Qg w 6 qy (.slice pc m.code.length kc) m.code/\Qg w 4 qw (.slice ph m.handlers.length kh) m.handlers
theorem qY.none(w:World):qY w QG (.agg zo.toArray):=⟨.none,0,.none,0,rfl,Or.inl ⟨rfl,rfl⟩,Or.inl ⟨rfl,rfl⟩⟩
theorem qY.mono{w w':World}{m:Zk}{v:Value}(hb:Below w.heap.size w w'):qY w m v->qY w' m v
 |⟨pc,kc,ph,kh,h1,h2,h3⟩=>⟨pc,kc,ph,kh,h1,h2.mono hb (by decide) (fun _ _ h=>h),h3.mono hb (by decide) (fun _ _ h=>h)⟩
def zdl(w0 w:World)(o:Option Zk)(e:Ending)(w':World):Prop:=(∃v,e=.returned (.tuple #[v,.bool o.isSome])/\qY w0 (o.getD QG) v)/\Below w.heap.size w w'
set_option maxRecDepth 100000
theorem qd7(w0 w:World)(hb0:Below w0.heap.size w0 w)(c:Qb)(fv dv:Value)(pm:Option Addr)(km:Nat)(n t:Str)(hms:Qg w0 8 (Zr w0) (.slice pm c.methods.length km) c.methods):
 Calls Tryz.prog 229 #[.agg #[.string c.name,.string c.super,fv,.bool c.face,dv,.slice pm c.methods.length km],.string n,.string t] w (zdl w0 w (zao n t c.methods)):=by
 obtain⟨name,super,faces,face,fields,ms⟩:=c;dsimp only at *;obtain⟨pa,ca,he,h1,h2,hcc⟩:=hms.open;injection he with he1 he2 he3
 subst he1 he3;clear he2;have HC:=Xh hcc;have hlen:ms.length<=9223372036854775807:=Xf h1 h2;have hblk:=Blk.new (w.alloc (.cells #[.string name,.string super,fv,.bool face,dv,.slice pm ms.length km] 36)) 53 zo;have hB:=QQ w (.cells #[.string name,.string super,fv,.bool face,dv,.slice pm ms.length km] 36) (.cells zo.toArray 53);simp only[World.size_alloc]at hblk;clear hms hcc;go_enter Tryz.func229,Tryz.ntmps229;go_wp2_with fail;go_loopw [13] (fun x wr=>∃k:Nat,k<=ms.length/\Hid (zao n t (ms.drop k)=zao n t ms)/\Below w.heap.size w wr/\Hid (Blk wr (w.heap.size+1) 53 zo)/\x=.int .i64 k) (fun x _=>ms.length-(intOf x).toNat)
 case atStart=>exact⟨0,by omega,rfl,hB,hblk,rfl⟩
 case round =>
  clear hB hblk;obtain⟨k,hk,hff,hB,HBl,rfl⟩:=hrel;by_cases hkl:k<ms.length
  ·obtain⟨m,hx⟩:∃a,ms[k]? = some a:=⟨ms[k],by simp[hkl]⟩;obtain⟨b,o,vs,rfl,⟨cv,hv,rfl,k1,k2⟩,_,qc⟩:=HC.out k m hx;have hB0:=Qa hb0 Xl hB;obtain⟨c0,c1,c2,c3,c4,c5,c6,c7,_⟩:=qc.mono hB0 qc.lt;have Zc:=ZbZ n t ms k m hx;rw[hff.out]at Zc;obtain⟨pc,kc,rfl,_⟩:=k1.open;obtain⟨ph,kh,rfl,_⟩:=k2.open;have e1:=Z5 m.name n;have e2:=Z5 m.type t;have hlt:=HBl.out.lt;have HX:=Xh hx;have hBa:=hB.alloc hB.size (.cells #[.string m.name,.string m.type,.bool m.static,.bool m.abs,.bool m.priv,.int .i64 m.locals,.slice pc m.code.length kc,.slice ph m.handlers.length kh] 53);have hBla:=HBl.out.step ((Below.refl wr.heap.size wr).alloc Xl (.cells #[.string m.name,.string m.type,.bool m.static,.bool m.abs,.bool m.priv,.int .i64 m.locals,.slice pc m.code.length kc,.slice ph m.handlers.length kh] 53));by_cases hyes:m.name=n/\m.type=t
   ·rw[if_pos hyes]at Zc;rw[Xj hyes.1]at e1;rw[Xj hyes.2]at e2;obtain⟨q0,q1,q2,q3,q4,q5,q6,q7⟩:=HBl.out.method;have hfz:=HBl.out.frozen;have HS:=Xh Zc;have HM:Hid (qY w0 m (.agg #[.string m.name,.string m.type,.bool m.static,.bool m.abs,.bool m.priv,.int .i64 m.locals,.slice pc m.code.length kc,.slice ph m.handlers.length kh])):=⟨pc,kc,ph,kh,rfl,k1,k2⟩;have HBa:=Xh hBa;clear Zc hyes k1 k2 hBla hBa HBl hB0 qc hff hx;have hE:=(ZB hB (show w.heap.size<=w.heap.size+1 by omega) (.string m.name) (.string m.type) (.bool m.static) (.bool m.abs) (.bool m.priv) (.int .i64 m.locals) (.slice pc m.code.length kc) (.slice ph m.handlers.length kh)).alloc (Xf hB.size (by simp)) (.cells #[.string m.name,.string m.type,.bool m.static,.bool m.abs,.bool m.priv,.int .i64 m.locals,.slice pc m.code.length kc,.slice ph m.handlers.length kh] 53);have HE:=Xh hE;clear hE hB;go_wp2_with fail;exact bodyPost_ret (v:=.tuple #[.agg #[.string m.name,.string m.type,.bool m.static,.bool m.abs,.bool m.priv,.int .i64 m.locals,.slice pc m.code.length kc,.slice ph m.handlers.length kh],.bool true]) (by simp[results,Tryz.results229,go_sem, *]) rfl (by rw[HS.out];exact⟨⟨_,rfl,HM⟩,HE⟩)
   ·rw[if_neg hyes]at Zc;have hst:=Xh Zc.symm;have hno:(decide (m.name=n)&&decide (m.type=t))=false:=by
     rw[Bool.and_eq_false_iff,decide_eq_false_iff_not,decide_eq_false_iff_not];by_cases h1:m.name=n
     ·exact Or.inr fun h2=>hyes ⟨h1,h2⟩
     ·exact Or.inl h1
    rw[<-e1,<-e2]at hno;have HBa:=Xh hBa;have HBla:Hid (Blk _ _ _ _):=hBla;clear Zc hyes k1 k2 hBla hBa HBl hB hB0 qc hff hx e1 e2;obtain⟨b1,g1⟩:∃q,(m.name.toList==n.toList)=q:=⟨_,rfl⟩;obtain⟨b2,g2⟩:∃q,(m.type.toList==t.toList)=q:=⟨_,rfl⟩;rw[g1,g2]at hno;cases b1<;>cases b2
    all_goals first
     |(exact absurd hno (by decide))
     |(
      clear hno;go_wp2_with fail;go_roundw;case rel=>exact⟨k+1,by omega,hst.out,HBa,HBla,by simp⟩
      case measure=>simp[intOf];omega)
  ·obtain rfl:k=ms.length:=(by omega);have hno:zao n t ms=none:=(by rw[<-hff.out,Xg Xl];rfl);obtain⟨q0,q1,q2,q3,q4,q5,q6,q7⟩:=HBl.out.method;have hfz:=HBl.out.frozen;have HS:=Xh hno;have HE:=Xh (ZB hB (show w.heap.size<=w.heap.size+1 by omega) (.string ⟨#[]⟩) (.string ⟨#[]⟩) (.bool false) (.bool false) (.bool false) (.int .i64 0) (.slice none 0 0) (.slice none 0 0));clear hno hff HBl hB;go_wp2_with fail;exact bodyPost_ret (v:=.tuple #[.agg zo.toArray,.bool false]) (by simp[results,Tryz.results229,go_sem, *,zo]) rfl (by rw[HS.out];exact⟨⟨_,rfl,qY.none w0⟩,HE⟩)
set_option maxRecDepth 512
def Zbi:List Value:=[.string ⟨#[]⟩,.string ⟨#[]⟩]
theorem Blk.field{w:World}{b:Nat}(h:Blk w b 130 Zbi):w.cell? ⟨b,0,none⟩=some (.string ⟨#[]⟩)/\w.cell? ⟨b,1,none⟩=some (.string ⟨#[]⟩):=⟨h.cell 0,h.cell 1⟩
def QaP:Option (Str×qag)->Value
 |some (c,f)=>.tuple #[.string c,.agg #[.string f.name,.string f.type],.bool true]
 |none=>.tuple #[.string ⟨#[]⟩,.agg #[.string ⟨#[]⟩,.string ⟨#[]⟩],.bool false]
theorem Qj.line_known{l:List Qb}(h:Qj l){c d:Str}(hk:(Qc (Za l) c).isSome=true)(hd:d∈Zq (Za l) c):(Qc (Za l) d).isSome=true:=h.tree.known c d hk hd
set_option maxRecDepth 100000
theorem QcF(w0 w:World)(B:Nat)(l:List Qb)(hm:Qw w0 w B l)(c n:Str)(hk:(Qc (Za l) c).isSome=true):
 Calls Tryz.prog 186 #[.map (some B),.string c,.string n] w fun e w'=>e=.returned (QaP (Zam (Za l) c n))/\Below w.heap.size w w':=by
 have HL:Hid (∀wx,Below w.heap.size w wx->_):=fun wx hb=>qbq w0 wx B l hm.right (hm.map.step hb) c hk
 have HKn:Hid (∀d∈Zq (Za l) c,(Qc (Za l) d).isSome=true):=fun d hd=>hm.right.line_known hk hd
 have HLk:Hid (∀d:Str,(Qc (Za l) d).isSome=true->_):=fun d hd=>hm.map.look3 hm.right.nodup d (hm.map.names hd)
 have HB0:=Xh hm.map.below;have hcf:=zcw;have hblk:Blk (w.alloc (.cells #[.string ⟨#[]⟩,.string ⟨#[]⟩] 130)) w.heap.size 130 Zbi:=Blk.new w _ Zbi;have hB1:Below w.heap.size w (w.alloc (.cells #[.string ⟨#[]⟩,.string ⟨#[]⟩] 130)):=Xb.alloc Xl _;unfold Zam;clear hm hk;generalize Zq (Za l) c=L at *;go_enter Tryz.func186,Tryz.ntmps186;go_wp2_with (go_fit (HL.out _ hB1);rintro e w3⟨⟨v3,rfl,hv3⟩,hB3⟩;obtain⟨pv,kv,rfl⟩:=qe hv3)
 have hs3:=Ze hv3;obtain⟨pv',kv',he,h1,h2,hcc⟩:=hs3.open;injection he with he1 he2 he3
 subst he1 he3;clear he2;have HC:=Xh hcc;have hlen:L.length<=9223372036854775807:=Xf h1 h2;have HBl:Hid (Blk w3 w.heap.size 130 Zbi):=hblk.step hB3;have HBw:=Xh (Qa hB1 Xl hB3);clear hs3 hcc hv3 hblk hB1 hB3 HL;go_loopw [17] (fun x wr=>∃k:Nat,k<=L.length/\Hid (Z0 (Za l) n (L.drop k)=Z0 (Za l) n L)/\Below w3.heap.size w3 wr/\x=.int .i64 k) (fun x _=>L.length-(intOf x).toNat)
 case atStart=>exact⟨0,by omega,rfl,Xb,rfl⟩
 case round =>
  obtain⟨k,hk,hff,hB,rfl⟩:=hrel;by_cases hkl:k<L.length
  ·obtain⟨a,ha⟩:∃a,L[k]? = some a:=⟨L[k],by simp[hkl]⟩;have hka:=HKn.out a (Xe ha);obtain⟨b,o,vs,rfl,hR,_,qc⟩:=HC.out k a ha;unfold zr at hR;subst hR;have c0:=(qc.mono hB qc.lt).1;rw[Nat.mul_one]at c0;have Zc:=Qbq (Za l) n L k a ha;rw[hff.out]at Zc;obtain⟨p1,k1,p2,k2,p3,k3,_,hfs,_,hlk⟩:=HLk.out a hka;have hlk2:=(hlk wr (Qa HBw Xl hB)).2;have hc0:(Qc (Za l) a).getD zg=qh (Za l) a:=rfl;rw[hc0]at hlk2 hfs;have HX:=Xh ha;clear ha qc hff hlk hc0 hka;generalize qh (Za l) a=d at *;obtain⟨n2,s2,f2,b2,d2,m2⟩:=d;unfold Qz at hlk2;dsimp only at hlk2 hfs Zc;obtain⟨pd',kd',he,g1,g2,hdd⟩:=hfs.open;injection he with he1 he2 he3
   subst he1 he3;clear he2 hfs;have HD:=Xh hdd;have hlen2:d2.length<=9223372036854775807:=Xf g1 g2;clear hdd;have HS:=Xh Zc;clear Zc;go_wp2_with fail;go_loopw [26] (fun x wy=>∃j:Nat,j<=d2.length/\Hid (zab n (d2.drop j)=zab n d2)/\Below w3.heap.size w3 wy/\x=.int .i64 j) (fun x _=>d2.length-(intOf x).toNat)
   case atStart=>exact⟨0,by omega,rfl,hB,rfl⟩
   case round =>
    clear hB c0 hlk2;obtain⟨j,hj,hgg,hB,rfl⟩:=hrel;by_cases hjl:j<d2.length
    ·obtain⟨f,hf⟩:∃a,d2[j]? = some a:=⟨d2[j],by simp[hjl]⟩;obtain⟨bb,oo,vs,rfl,hR,_,qc⟩:=HD.out j f hf;unfold ZE at hR;subst hR;obtain⟨u0,u1,_⟩:=qc.mono (Qa HB0 Xl (Qa HBw Xl hB)) qc.lt;have hst2:=zbr n d2 j f hf;rw[hgg.out]at hst2;have HXf:=Xh hf;have e1:=Z5 f.name n;have hBa:=hB.alloc hB.size (.cells #[.string f.name,.string f.type] 130);clear hf qc hgg;by_cases hyes:f.name=n
     ·rw[if_pos hyes]at hst2;rw[Xj hyes]at e1;have hS2:=HS.out;rw[hst2]at hS2;have hBl:=HBl.out.step hB;obtain⟨q0,q1⟩:=hBl.field;have hfz:=hBl.frozen;have hlt:=hBl.lt;have HF:=Xh hS2;have HE:=Xh ((z7 (Qa HBw Xl hB) (Nat.le_refl w.heap.size) (.string f.name) (.string f.type)).alloc (Xf (Qa HBw Xl hB).size (by simp)) (.cells #[.string f.name,.string f.type] 130));clear hst2 hS2 hyes hBl hB hBa;go_upto_region 8 with fail;go_region
      all_goals go_wp2
      all_goals exact bodyPost_ret (v:=.tuple #[.string a,.agg #[.string f.name,.string f.type],.bool true]) (by simp[results,Tryz.results186,go_sem, *]) rfl ⟨by rw[HF.out];rfl,HE.out.drew⟩
     ·rw[if_neg hyes]at hst2;rw[Xi hyes]at e1;have hst:=Xh hst2.symm;have HBa:=Xh hBa;clear hst2 hyes hBa hB;go_wp2_with fail;go_roundw;case rel=>exact⟨j+1,by omega,hst.out,HBa,by simp⟩
      case measure=>simp[intOf];omega
    ·obtain rfl:j=d2.length:=(by omega);have hno:zab n d2=none:=(by rw[<-hgg.out,Xg Xl];rfl);have hS2:=HS.out;rw[hno]at hS2;have hst:Hid (Z0 (Za l) n (L.drop (k+1))=Z0 (Za l) n L):=hS2.symm;clear hno hS2 hgg;go_wp2_with fail;go_roundw;case rel=>exact⟨k+1,by omega,hst.out,hB,by simp⟩
     case measure=>simp[intOf];omega
  ·obtain rfl:k=L.length:=(by omega);have hno:Z0 (Za l) n L=none:=(by rw[<-hff.out,Xg Xl];rfl);have hBl:=HBl.out.step hB;obtain⟨q0,q1⟩:=hBl.field;have hfz:=hBl.frozen;have hlt:=hBl.lt;have HS:=Xh hno;have HE:=Xh (z7 (Qa HBw Xl hB) (Nat.le_refl w.heap.size) (.string ⟨#[]⟩) (.string ⟨#[]⟩));clear hno hff hBl hB;go_wp2_with fail;exact bodyPost_ret (v:=.tuple #[.string ⟨#[]⟩,.agg #[.string ⟨#[]⟩,.string ⟨#[]⟩],.bool false]) (by simp[results,Tryz.results186,go_sem, *]) rfl ⟨by rw[HS.out];rfl,HE⟩
set_option maxRecDepth 512
def Zao(cs:List Qb)(n t:Str)(E:List Str):List Bool->Option (Str×Zk)
 |[]=>none
 |a::r=>match qH cs n t a E with
  |some x=>some x
  |none=>Zao cs n t E r
theorem zbK(cs:List Qb)(n t:Str)(E:List Str)(l:List Bool)(k:Nat)(a:Bool)(h:l[k]? = some a):Zao cs n t E (l.drop k)=match qH cs n t a E with
 |some x=>some x
 |none=>Zao cs n t E (l.drop (k+1)):=by
 obtain⟨hk,rfl⟩:=List.getElem?_eq_some_iff.1 h;rw[List.drop_eq_getElem_cons hk];rfl
theorem qbZ(cs:List Qb)(n t:Str)(E:List Str):(match qH cs n t false E with
 |some x=>some x
 |none=>qH cs n t true E)=Zao cs n t E [false,true]:=by
 unfold Zao;cases qH cs n t false E with
 |some x=>rfl
 |none =>
  show qH cs n t true E=match qH cs n t true E with
   |some x=>some x
   |none=>none
  cases qH cs n t true E<;>rfl
def qaL(v:Value):Option (Str×Zk)->Value
 |some (c,_)=>.tuple #[.string c,v,.bool true]
 |none=>.tuple #[.string ⟨#[]⟩,v,.bool false]
def QbJ(w0 w:World)(o:Option (Str×Zk))(e:Ending)(w':World):Prop:=(∃v,e=.returned (qaL v o)/\qY w0 ((o.map (·.2)).getD QG) v)/\Below w.heap.size w w'
set_option maxRecDepth 100000
theorem zcv(w0 w:World)(B:Nat)(l:List Qb)(hm:Qw w0 w B l)(c n t:Str)(hk:(Qc (Za l) c).isSome=true):
 Calls Tryz.prog 214 #[.map (some B),.string c,.string n,.string t] w (QbJ w0 w (zam (Za l) c n t)):=by
 have HL:Hid (∀wx,Below w.heap.size w wx->_):=fun wx hb=>qbq w0 wx B l hm.right (hm.map.step hb) c hk
 have HEv:Hid (∀wx,Below w.heap.size w wx->_):=fun wx hb=>qbD w0 wx B (Za l) (hm.map.step hb) hm.right.nodup hm.faces hm.right.small hm.right.closed c hk
 have HKn:Hid (∀d∈Zq (Za l) c,(Qc (Za l) d).isSome=true):=fun d hd=>hm.right.line_known hk hd
 have HKe:Hid (∀d∈qE (Qk (Za l) c),(Qc (Za l) d).isSome=true):=fun d hd=>(Qn hm.right.closed hk).1.known d (by rw[<-qx]at hd ⊢;rwa [zaM]at hd)
 have HLk:Hid (∀d:Str,(Qc (Za l) d).isSome=true->_):=fun d hd=>hm.map.look3 hm.right.nodup d (hm.map.names hd)
 have HOwn:Hid (∀wx (d:Qb) (fv dv:Value) (pm:Option Addr) (km:Nat),Below w0.heap.size w0 wx->Qg w0 8 (Zr w0) (.slice pm d.methods.length km) d.methods->_):=fun wx d fv dv pm km hb h=>qd7 w0 wx hb d fv dv pm km n t h
 have HB0:=Xh hm.map.below;have hcf:=QbZ;have hblk:Blk (w.alloc (.cells #[.string ⟨#[]⟩,.string ⟨#[]⟩,.bool false,.bool false,.bool false,.int .i64 0,.slice none 0 0,.slice none 0 0] 53)) w.heap.size 53 zo:=Blk.new w _ zo;have hB1:Below w.heap.size w (w.alloc (.cells #[.string ⟨#[]⟩,.string ⟨#[]⟩,.bool false,.bool false,.bool false,.int .i64 0,.slice none 0 0,.slice none 0 0] 53)):=Xb.alloc Xl _;have HMC:Hid (zam (Za l) c n t=match zT (Za l) n t (Zq (Za l) c) with
  |some x=>some x
  |none=>match qH (Za l) n t false (qE (Qk (Za l) c)) with
   |some x=>some x
   |none=>qH (Za l) n t true (qE (Qk (Za l) c))):=rfl
 unfold zdl at HOwn;clear hm hk;generalize zam (Za l) c n t=res at *;generalize Zq (Za l) c=L at *;generalize qE (Qk (Za l) c)=E at *;go_enter Tryz.func214,Tryz.ntmps214;go_wp2_with (go_fit (HL.out _ hB1);rintro e w3⟨⟨v3,rfl,hv3⟩,hB3⟩;obtain⟨pv,kv,rfl⟩:=qe hv3)
 have hs3:=Ze hv3;obtain⟨pv',kv',he,h1,h2,hcc⟩:=hs3.open;injection he with he1 he2 he3
 subst he1 he3;clear he2;have HC:=Xh hcc;have hlen:L.length<=9223372036854775807:=Xf h1 h2;have HBl:Hid (Blk w3 w.heap.size 53 zo):=hblk.step hB3;have HBw:=Xh (Qa hB1 Xl hB3);clear hs3 hcc hv3 hblk hB1 hB3 HL;go_loopw [25] (fun x wr=>∃k:Nat,k<=L.length/\Hid (zT (Za l) n t (L.drop k)=zT (Za l) n t L)/\Below w3.heap.size w3 wr/\x=.int .i64 k) (fun x _=>L.length-(intOf x).toNat)
 case atStart=>exact⟨0,by omega,rfl,Xb,rfl⟩
 case round =>
  obtain⟨k,hk,hff,hB,rfl⟩:=hrel;by_cases hkl:k<L.length
  ·obtain⟨a,ha⟩:∃a,L[k]? = some a:=⟨L[k],by simp[hkl]⟩;have hka:=HKn.out a (Xe ha);obtain⟨b,o,vs,rfl,hR,_,qc⟩:=HC.out k a ha;unfold zr at hR;subst hR;have c0:=(qc.mono hB qc.lt).1;rw[Nat.mul_one]at c0;have Zc:=Zbb (Za l) n t L k a ha;rw[hff.out]at Zc;obtain⟨p1,k1,p2,k2,p3,k3,_,_,hms,hlk⟩:=HLk.out a hka;have hlk2:=(hlk wr (Qa HBw Xl hB)).2;have hc0:(Qc (Za l) a).getD zg=qh (Za l) a:=rfl;rw[hc0]at hlk2 hms;have HX:=Xh ha;clear ha qc hff hlk hc0 hka;generalize qh (Za l) a=d at *;obtain⟨n2,s2,f2,b2,d2,m2⟩:=d;have HO:=Xh (HOwn.out wr ⟨n2,s2,f2,b2,d2,m2⟩ (.slice p1 f2.length k1) (.slice p2 d2.length k2) p3 k3 (Qa HB0 Xl (Qa HBw Xl hB)) hms);unfold Qz at hlk2;dsimp only at hlk2 hms Zc HO;clear hms;cases hq:zao n t m2 with
   |some m =>
    rw[hq]at Zc HO;simp only[Option.isSome_some,Option.getD_some]at HO;have hres:Hid (res=some (a,m)):=(by unfold Hid;rw[HMC.out,Zc]);clear Zc hq HMC;have hBl:=HBl.out.step hB;have HBr:=Xh hB;have HBlr:Hid (Blk wr _ _ _):=hBl;clear hB hBl;go_upto_region 6 with(go_fit HO.out;rintro e w5⟨⟨v5,rfl,hv5⟩,hB5⟩;obtain⟨pc,kc,ph,kh,rfl,_,_⟩:=id hv5)
    have hBl5:=HBlr.out.step hB5;obtain⟨q0,q1,q2,q3,q4,q5,q6,q7⟩:=hBl5.method;have hfz:=hBl5.frozen;have hlt:=hBl5.lt;have hBe:=Qa HBw Xl (Qa HBr Xl hB5);have HE:=Xh ((ZB hBe (Nat.le_refl w.heap.size) (.string m.name) (.string m.type) (.bool m.static) (.bool m.abs) (.bool m.priv) (.int .i64 m.locals) (.slice pc m.code.length kc) (.slice ph m.handlers.length kh)).alloc (Xf hBe.size (by simp)) (.cells #[.string m.name,.string m.type,.bool m.static,.bool m.abs,.bool m.priv,.int .i64 m.locals,.slice pc m.code.length kc,.slice ph m.handlers.length kh] 53)).drew;have HV:=Xh hv5;clear hBl5 hBe hv5 hB5;go_region
    all_goals go_wp2
    all_goals exact bodyPost_ret (v:=.tuple #[.string a,.agg #[.string m.name,.string m.type,.bool m.static,.bool m.abs,.bool m.priv,.int .i64 m.locals,.slice pc m.code.length kc,.slice ph m.handlers.length kh],.bool true]) (by simp[results,Tryz.results214,go_sem, *]) rfl (by rw[hres.out];exact⟨⟨_,rfl,HV⟩,HE⟩)
   |none =>
    rw[hq]at Zc HO;simp only[Option.isSome_none,Option.getD_none]at HO;have hst:Hid (zT (Za l) n t (L.drop (k+1))=zT (Za l) n t L):=Zc.symm;have HBr:=Xh hB;clear Zc hq hB;go_wp2_with (go_fit HO.out;rintro e w5⟨⟨v5,rfl,hv5⟩,hB5⟩;obtain⟨pc,kc,ph,kh,rfl,_,_⟩:=id hv5)
    go_roundw;case rel=>exact⟨k+1,by omega,hst.out,(Qa HBr Xl hB5).alloc (Qa HBr Xl hB5).size _,by simp⟩
    case measure=>simp[intOf];omega
  ·obtain rfl:k=L.length:=(by omega);have hno:zT (Za l) n t L=none:=(by rw[<-hff.out,Xg Xl];rfl);have HM2:Hid (res=Zao (Za l) n t E [false,true]):=(by unfold Hid;rw[HMC.out,hno];exact qbZ _ _ _ _);have hBa:=(Below.refl wr.heap.size wr).alloc Xl (.cells #[.bool false,.bool true] 4);have HT:Hid (∀(j:Nat) (a:Bool),[false,true][j]? = some a->(wr.alloc (.cells #[.bool false,.bool true] 4)).cell? ⟨wr.heap.size,j,none⟩=some (.bool a)):=fun j a h=>by
    match j,h with
    |0,h=>simp at h;subst h;simp
    |1,h=>simp at h;subst h;simp
   have HBr:=Xh (Qa HBw Xl (Qa hB Xl hBa));have HBl4:Hid (Blk (wr.alloc (.cells #[.bool false,.bool true] 4)) w.heap.size 53 zo):=HBl.out.step (Qa hB Xl hBa);have HLT:Hid (wr.heap.size<(wr.alloc (.cells #[.bool false,.bool true] 4)).heap.size):=(by unfold Hid;simp);clear hno hff HMC hB hBa HBw HBl HKn HC;go_wp2_with fail;generalize wr.alloc (.cells #[.bool false,.bool true] 4)=w4 at *;generalize wr.heap.size=bb at *;go_loopw [44] (fun x wx=>∃j:Nat,j<=2/\Hid (res=Zao (Za l) n t E ([false,true].drop j))/\Below w4.heap.size w4 wx/\x=.int .i64 j) (fun x _=>2-(intOf x).toNat)
   case atStart=>exact⟨0,by omega,HM2,Xb,rfl⟩
   case round =>
    obtain⟨j,hj,hgg,hB,rfl⟩:=hrel;by_cases hjl:j<2
    ·obtain⟨a,ha⟩:∃a,[false,true][j]? = some a:=⟨[false,true][j]'(by simp;omega),by simp⟩;have c0:=(hB.cell (p:=⟨bb,j,none⟩) HLT.out).trans (HT.out j a ha);have Zc:=zbK (Za l) n t E [false,true] j a ha;have HG:Hid (res=match qH (Za l) n t a E with
      |some x=>some x
      |none=>Zao (Za l) n t E ([false,true].drop (j+1))):=by unfold Hid;rw[hgg.out,Zc]
     have HX:=Xh ha;have HEw:=Xh (HEv.out wr (Qa HBr Xl hB));have hB4:=hB;clear ha Zc hgg;go_wp2_with (go_fit HEw.out;rintro e w6⟨⟨v6,rfl,hv6⟩,hB6⟩;obtain⟨pe,ke,rfl,_⟩:=hv6.open)
     obtain⟨pe',ke',he,h3,h4,hee⟩:=hv6.open;injection he with he1 he2 he3
     subst he1 he3;clear he2;have HCe:=Xh hee;have hlenE:E.length<=9223372036854775807:=Xf h3 h4;have HB6:=Xh (Qa hB4 Xl hB6);have HBl6:Hid (Blk w6 w.heap.size 53 zo):=HBl4.out.step (Qa hB4 Xl hB6);have HBw6:=Xh (Qa HBr Xl (Qa hB4 Xl hB6));clear hee hv6 hB4 hB6 hB HEw c0;go_loopw [52] (fun x wy=>∃i:Nat,i<=E.length/\Hid (qH (Za l) n t a (E.drop i)=qH (Za l) n t a E)/\Below w6.heap.size w6 wy/\x=.int .i64 i) (fun x _=>E.length-(intOf x).toNat)
     case atStart=>exact⟨0,by omega,rfl,Xb,rfl⟩
     case round =>
      obtain⟨i,hi,hff,hB,rfl⟩:=hrel;by_cases hil:i<E.length
      ·obtain⟨z,hz⟩:∃a,E[i]? = some a:=⟨E[i],by simp[hil]⟩;have hkz:=HKe.out z (Xe hz);obtain⟨be,oe,vs,rfl,hR,_,qc⟩:=HCe.out i z hz;unfold zr at hR;subst hR;have c0:=(qc.mono hB qc.lt).1;rw[Nat.mul_one]at c0;have Zc:=ZbK (Za l) n t a E i z hz;rw[hff.out]at Zc;obtain⟨p1,k1,p2,k2,p3,k3,_,_,hms,hlk⟩:=HLk.out z hkz;have hBwr:=Qa HBw6 Xl hB;have hlk2:=(hlk wr hBwr).2;have hc0:(Qc (Za l) z).getD zg=qh (Za l) z:=rfl;rw[hc0]at hlk2 hms hlk;have HLK:=Xh hlk;have HZ:=Xh hz;clear hz qc hff hlk hc0 hkz;generalize qh (Za l) z=d at *;obtain⟨n2,s2,f2,b2,d2,m2⟩:=d;have HO:=Xh (HOwn.out wr ⟨n2,s2,f2,b2,d2,m2⟩ (.slice p1 f2.length k1) (.slice p2 d2.length k2) p3 k3 (Qa HB0 Xl hBwr) hms);unfold Qz at hlk2 HLK;dsimp only at hlk2 hms Zc HO HLK;clear hms;cases hq:zao n t m2 with
       |none =>
        rw[hq]at Zc HO;simp only[Option.isSome_none,Option.getD_none]at HO;have hst:Hid (qH (Za l) n t a (E.drop (i+1))=qH (Za l) n t a E):=Zc.symm;have HBr2:=Xh hB;clear Zc hq hB hBwr;go_wp2_with (go_fit HO.out;rintro e w7⟨⟨v7,rfl,hv7⟩,hB7⟩;obtain⟨pc,kc,ph,kh,rfl,_,_⟩:=id hv7)
        go_roundw;case rel=>exact⟨i+1,by omega,hst.out,(Qa HBr2 Xl hB7).alloc (Qa HBr2 Xl hB7).size _,by simp⟩
        case measure=>simp[intOf];omega
       |some m =>
        rw[hq]at Zc HO;simp only[Option.isSome_some,Option.getD_some]at HO;have HBr2:=Xh hB;have HBwr:=Xh hBwr;clear hq hB hBwr;go_upto_region 15 with(go_fit HO.out;rintro e w7⟨⟨v7,rfl,hv7⟩,hB7⟩;obtain⟨pc,kc,ph,kh,rfl,_,_⟩:=id hv7)
        have hBa7:=(Qa HBr2 Xl hB7).alloc (Qa HBr2 Xl hB7).size (.cells #[.string m.name,.string m.type,.bool m.static,.bool m.abs,.bool m.priv,.int .i64 m.locals,.slice pc m.code.length kc,.slice ph m.handlers.length kh] 53);have hlk3:=(HLK.out _ (Qa HBw6 Xl hBa7)).2;obtain⟨yes,hy⟩:∃q,(m.abs==a)=q:=⟨_,rfl⟩;rw[hy]at Zc;have HBa7:=Xh hBa7;have HB7:=Xh hB7;have HV7:=Xh hv7;have HS:=Xh Zc;clear Zc hBa7 hB7 hv7;by_cases hbb:(b2&&yes)=true
        ·rw[Bool.and_eq_true]at hbb;obtain⟨rfl,rfl⟩:=hbb;have hres:Hid (res=some (z,m)):=by
          unfold Hid;rw[HG.out,HS.out];rfl
         have hBl7:=HBl6.out.step (Qa HBr2 Xl HB7);obtain⟨q0,q1,q2,q3,q4,q5,q6,q7⟩:=hBl7.method;have hfz:=hBl7.frozen;have hlt:=hBl7.lt;have hBe:=Qa HBwr Xl HB7.out;have HE:=Xh ((ZB hBe (Nat.le_refl w.heap.size) (.string m.name) (.string m.type) (.bool m.static) (.bool m.abs) (.bool m.priv) (.int .i64 m.locals) (.slice pc m.code.length kc) (.slice ph m.handlers.length kh)).alloc (Xf hBe.size (by simp)) (.cells #[.string m.name,.string m.type,.bool m.static,.bool m.abs,.bool m.priv,.int .i64 m.locals,.slice pc m.code.length kc,.slice ph m.handlers.length kh] 53)).drew;clear hBl7 hBe;go_upto_region 16 with fail;go_region
         all_goals go_wp2
         all_goals exact bodyPost_ret (v:=.tuple #[.string z,.agg #[.string m.name,.string m.type,.bool m.static,.bool m.abs,.bool m.priv,.int .i64 m.locals,.slice pc m.code.length kc,.slice ph m.handlers.length kh],.bool true]) (by simp[results,Tryz.results214,go_sem, *]) rfl (by rw[hres.out];exact⟨⟨_,rfl,HV7⟩,HE⟩)
        ·have hst:Hid (qH (Za l) n t a (E.drop (i+1))=qH (Za l) n t a E):=by
          unfold Hid;rw[HS.out,if_neg hbb]
         cases b2<;>cases yes<;>first|(exact absurd rfl hbb)|skip
         all_goals
          clear hbb;go_wp2_with fail;go_roundw;case rel=>exact⟨i+1,by omega,hst.out,HBa7,by simp⟩
          case measure=>simp[intOf];omega
      ·obtain rfl:i=E.length:=(by omega);have hno:qH (Za l) n t a E=none:=(by rw[<-hff.out,Xg Xl];rfl);have hst:Hid (res=Zao (Za l) n t E ([false,true].drop (j+1))):=(by unfold Hid;rw[HG.out,hno]);have HBe:=Xh (Qa HB6 Xl hB);clear hno hff hB HG;go_wp2_with fail;go_roundw;case rel=>exact⟨j+1,by omega,hst.out,HBe,by simp⟩
       case measure=>simp[intOf];omega
    ·obtain rfl:j=2:=(by omega);have hres:Hid (res=none):=hgg.out;have hBl:=HBl4.out.step hB;obtain⟨q0,q1,q2,q3,q4,q5,q6,q7⟩:=hBl.method;have hfz:=hBl.frozen;have hlt:=hBl.lt;have HE:=Xh (ZB (Qa HBr Xl hB) (Nat.le_refl w.heap.size) (.string ⟨#[]⟩) (.string ⟨#[]⟩) (.bool false) (.bool false) (.bool false) (.int .i64 0) (.slice none 0 0) (.slice none 0 0));clear hgg hBl hB;go_wp2_with fail;exact bodyPost_ret (v:=.tuple #[.string ⟨#[]⟩,.agg zo.toArray,.bool false]) (by simp[results,Tryz.results214,go_sem, *,zo]) rfl (by rw[hres.out];exact⟨⟨_,rfl,qY.none w0⟩,HE⟩)
set_option maxRecDepth 512
end Go.Proofs.YtlmfmioljeppfaaGreatDoor
