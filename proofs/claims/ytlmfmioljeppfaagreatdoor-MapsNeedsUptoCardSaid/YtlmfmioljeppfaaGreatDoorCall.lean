/- Lemmas; conditions: as each states. -/
import Derived.Test.YtlmfmioljeppfaaGreatDoorPlainly
set_option maxHeartbeats 4000000
namespace Go.Proofs.YtlmfmioljeppfaaGreatDoor
open Go.RowKit Go.Shelf Go.Lib
def Zz(cs:List Qb)(src c n t:Str)(static:Bool):Nat :=
 if (Qc cs c).isNone then 3
 else match Qal cs c n t with
  |none=>3
  |some (d,m)=>if (Qc cs src).isNone then 3 else if m.static≠static then 7 else if m.priv&&decide (d≠src) then 9 else 0
theorem zbI{n:Str}:∀{l:List Qag} {f:Qag},Qab n l=some f->f∈l
 |x::r,f,h=>by
  unfold Qab at h;split at h
  ·injection h with h
   subst h;simp
  ·exact List.mem_cons_of_mem _ (zbI h)
theorem qaY{cs:List Qb}{n:Str}:∀{B:List Str} {x:Str} {f:Qag},Q0 cs n B=some (x,f)->f∈(qh cs x).fields
 |c::r,x,f,h=>by
  unfold Q0 at h;cases A:Qab n (qh cs c).fields with
  |none =>
   rw[A]at h;exact qaY h
  |some g =>
   rw[A]at h;injection h with h
   injection h with C D
   subst C D;exact zbI A
theorem QaY{cs:List Qb}{c:Str}(h:zd cs (Zd c)=0):(Qc cs c).isSome=true:=by
 obtain⟨X,B,C⟩:=ZM h;rw[zbh]at B;have A:X=.ty (.cl c):=Zbh B;subst A;exact C
theorem Qi.aside{base:Nat}{w:World}{A B b:Nat}{qb Zb:Str}{C D:Value}{L S:List Str}(h:Qi base w A B qb Zb C D L S)(E:zaM A C D b)(j:Nat)(u:Value):Qi base (w.setCell ⟨b,j,none⟩ u) A B qb Zb C D L S :=
 ⟨(Xk w ⟨b,j,none⟩ A u (fun e=>E.1 e.symm)).trans h.blk,zai h.locals E.2.1 j u,zai h.stack E.2.2 j u,h.apart,h.lfar,h.sfar,h.low⟩
theorem SA.aside{M w:World}{B:Nat}{l:List Qb}{base:Nat}{F:World}{A C:Value}{G:Nat}{qb Zb:Str}{H:Nat}{N:List Value}{wx:World}{I J:Value}{L S:List Str}(T:SA M w B l base F A C G qb Zb H N wx I J L S){b:Nat}(U:F.heap.size<=b)(D:base<=b)(P:b≠H)(R:zaM G I J b)(j:Nat)(u:Value):SA M w B l base F A C G qb Zb H N (wx.setCell ⟨b,j,none⟩ u) I J L S :=
 ⟨⟨T.env.map0,T.env.le,T.env.below.setCell (p:=⟨b,j,none⟩) (Xf T.env.le D) u⟩,T.step.aside R j u,T.box.other (fun e=>P e.symm) j u,T.apart,T.below.setCell (p:=⟨b,j,none⟩) D u,⟨T.kp.1,fun g O E=>⟨(Xk wx ⟨b,j,none⟩ g u (by show g≠b;omega)).trans (T.kp.2 g O E).1,(T.kp.2 g O E).2⟩⟩⟩
theorem zj{w:World}{a:Addr}{b:Nat}(h:a.block≠b)(u v:Value):((w.setCell ⟨b,0,none⟩ u).setCell ⟨b,1,none⟩ v).cell? a=w.cell? a:=World.cell?_of_block (by rw[Xk _ _ _ _ h,Xk _ _ _ _ h])
def zG(cs:List Qb)(c n:Str):Option Str :=
 if zd cs (Zd c)≠0 then none else match zam cs c n with
  |none=>none
  |some (_,f)=>if zd cs f.type=0 then some f.type else none
set_option maxRecDepth 100000
theorem Zcl(w0 w:World)(B:Nat)(l:List Qb)(base:Nat)(I:World)(hE:Env w0 w B l base I)(P:Nat)(qb Zb:Str)(lv sv:Value)(L S:List Str)(h:Qi base I P B qb Zb lv sv L S)(op a b:Int)(U cls A:Str)(hc:cls.size<=1048576):
 Calls Tryz.prog 144 #[.pointer (some ⟨P,0,none⟩),.agg #[.int .i64 op,.int .i64 a,.int .i64 b,.string U,.string cls,.string A]] I (qf base I P B qb Zb lv sv ((zG (Za l) cls A).map fun t=>(.string t,L,S))):=by
 have T0:SA w0 w B l base I lv sv P qb Zb I.heap.size [.int .i64 op,.int .i64 a,.int .i64 b,.string U,.string cls,.string A] (I.alloc (.cells #[.int .i64 op,.int .i64 a,.int .i64 b,.string U,.string cls,.string A] 24)) lv sv L S:=SA.new hE h _;obtain⟨i0,i1,i2,i3,i4,i5⟩:=T0.cells;have HT:Hid (∀wx,_):=fun wx=>ZI wx
 have HF:Hid (∀wx,_):=fun wx=>qB wx
 have HTh:Hid (∀wx,_):=fun wx=>QX cls wx (Xf hc (by decide))
 have hsz:(Zd cls).size<=maxLen:=by rw[Zam];exact Xf (Nat.add_le_add_right hc 2) (by decide)
 have HRg:=Xh hE.map0.faults;obtain⟨res,X⟩:∃r,(zG (Za l) cls A).map (fun t=>((.string t:Value),L,S))=r:=⟨_,rfl⟩;have J:=Xh X;rw[X];clear X;unfold zG at J;clear h hE;by_cases hk:zd (Za l) (Zd cls)=0
 ·rw[if_neg (by rw[hk];decide)]at J;have HKn:=Xh (QaY hk);go_enter Tryz.func144,Tryz.ntmps144;go_upto_region 2 with(first
   |(go_fit (HTh.out _);rintro e x⟨rfl,rfl⟩)
   |(go_fit (T0.knowsY (Zd cls) hsz hk);rintro e F R;obtain⟨g,rfl,lv1,sv1,hS1,s⟩:=R.ok'))
  obtain rfl:=s.1;have m:=T0.next g hS1 s;obtain⟨i0,i1,i2,i3,i4,i5⟩:=m.cells;have q0:F.cell? ⟨P,0,none⟩=some (.map (some B)):=m.step.blk.cell 0;have E:=Xh m;have N:Hid (∀wx,Below F.heap.size F wx->Calls Tryz.prog 186 #[.map (some B),.string cls,.string A] wx fun e w'=>e=.returned (zaR (zam (Za l) cls A))/\Below wx.heap.size wx w'/\Below F.heap.size F w'/\w'.cell? ⟨P,0,none⟩=some (.map (some B))/\w'.cell? ⟨I.heap.size,4,none⟩=some (.string cls)/\w'.cell? ⟨I.heap.size,5,none⟩=some (.string A)):=fun wx hb =>
   (ZcH w0 wx B l (E.out.over hb).env.map cls A HKn.out).mono fun e w' ⟨he,hB⟩=>by
    have hb':=Qa hb Xl hB;have T2:=E.out.over hb';obtain⟨_,_,_,_,i,j⟩:=T2.cells;exact⟨he,hB,hb',T2.step.blk.cell 0,i,j⟩
  have O:=m.step.blk.lt;have Z:=m.step.low;have C:=m.box.lt;clear T0 m g hS1 s R;cases hf:zam (Za l) cls A with
  |none =>
   rw[hf]at J N;unfold zaR at N;go_region_held3 (fun w'=>w'.cell? ⟨P,0,none⟩=some (.map (some B))/\w'.cell? ⟨I.heap.size,4,none⟩=some (.string cls)/\w'.cell? ⟨I.heap.size,5,none⟩=some (.string A)) (first|go_keep|exact⟨(zj (a:=⟨P,0,none⟩) (Nat.ne_of_lt O) _ _).trans k0,(zj (a:=⟨I.heap.size,4,none⟩) (Nat.ne_of_lt C) _ _).trans i,(zj (a:=⟨I.heap.size,5,none⟩) (Nat.ne_of_lt C) _ _).trans j⟩)
    (first
     |(go_fit (N.out _ ?_);(first|exact Xb.drew|exact(Xb.alloc Xl _).drew);rintro e T⟨rfl,z,G,k0,i,j⟩;(first|(have k:Blk T F.heap.size 130 [.string ⟨#[]⟩,.string ⟨#[]⟩]:=Blk.step (w:=(F.alloc (.cells #[.string ⟨#[]⟩,.string ⟨#[]⟩] 130)).drew) (Blk.new F 130 [.string ⟨#[]⟩,.string ⟨#[]⟩]) z;obtain⟨x0,x1⟩:=k.cells2;(have f0:=k.frozen 0);(have f1:=k.frozen 1))|skip)))
   ·have V:=(E.out.over G).alloc (.cells #[.string ⟨#[]⟩,.string ⟨#[]⟩] 130);generalize (T.alloc (.cells #[.string ⟨#[]⟩,.string ⟨#[]⟩] 130))=W at *;have D:=Xh V;clear V k0 i j i0 i1 i2 i3 i4 i5 q0;go_wp2_with (first
     |(go_fit (HF.out _);rintro e x⟨rfl,rfl⟩))
    exact And.intro rfl (D.out.stop Xb J.out.symm)
   ·have V:=((E.out.over G).aside (b:=F.heap.size) (Nat.le_of_lt C) (Xf Z (Nat.le_of_lt O)) (Nat.ne_of_gt C) (E.out.step.fresh Xl) 0 (.string ⟨#[]⟩)).aside (b:=F.heap.size) (Nat.le_of_lt C) (Xf Z (Nat.le_of_lt O)) (Nat.ne_of_gt C) (E.out.step.fresh Xl) 1 (.string ⟨#[]⟩);generalize ((T.setCell ⟨F.heap.size,0,none⟩ (.string ⟨#[]⟩)).setCell ⟨F.heap.size,1,none⟩ (.string ⟨#[]⟩))=W at *;have D:=Xh V;clear V k0 i j i0 i1 i2 i3 i4 i5 q0;go_wp2_with (first
     |(go_fit (HF.out _);rintro e x⟨rfl,rfl⟩))
    exact And.intro rfl (D.out.stop Xb J.out.symm)
  |some p =>
   obtain⟨c,f⟩:=p;have d:f.type.size<=maxLen:=by
    obtain⟨y,hy⟩:=Zaq (QaF HRg.out c f (qaY hf));exact hy.size
   rw[hf]at J N;unfold zaR at N;dsimp only at J;go_region_held3 (fun w'=>w'.cell? ⟨P,0,none⟩=some (.map (some B))/\w'.cell? ⟨I.heap.size,4,none⟩=some (.string cls)/\w'.cell? ⟨I.heap.size,5,none⟩=some (.string A)) (first|go_keep|exact⟨(zj (a:=⟨P,0,none⟩) (Nat.ne_of_lt O) _ _).trans k0,(zj (a:=⟨I.heap.size,4,none⟩) (Nat.ne_of_lt C) _ _).trans i,(zj (a:=⟨I.heap.size,5,none⟩) (Nat.ne_of_lt C) _ _).trans j⟩)
    (first
     |(go_fit (N.out _ ?_);(first|exact Xb.drew|exact(Xb.alloc Xl _).drew);rintro e T⟨rfl,z,G,k0,i,j⟩;(first|(have k:Blk T F.heap.size 130 [.string ⟨#[]⟩,.string ⟨#[]⟩]:=Blk.step (w:=(F.alloc (.cells #[.string ⟨#[]⟩,.string ⟨#[]⟩] 130)).drew) (Blk.new F 130 [.string ⟨#[]⟩,.string ⟨#[]⟩]) z;obtain⟨x0,x1⟩:=k.cells2;(have f0:=k.frozen 0);(have f1:=k.frozen 1))|skip)))
   ·have V:=(E.out.over G).alloc (.cells #[.string f.name,.string f.type] 130);have n:Blk (T.alloc (.cells #[.string f.name,.string f.type] 130)) T.heap.size 130 [.string f.name,.string f.type]:=Blk.new T 130 [.string f.name,.string f.type];have o:zaM P lv1 sv1 T.heap.size:=(E.out.over G).step.fresh Xl;generalize (T.alloc (.cells #[.string f.name,.string f.type] 130))=W at *;obtain⟨y0,y1⟩:=n.cells2;have D:=Xh V;have q:=Xh n;clear V n k0 i j i0 i1 i2 i3 i4 i5 q0;by_cases H:zd (Za l) f.type=0
    ·rw[if_pos H]at J;go_wp2_with (first
      |(go_fit (HT.out _);rintro e x⟨rfl,rfl⟩)
      |(go_fit (D.out.knowsY f.type d H);rintro e w3 R;obtain⟨M,rfl,lv3,sv3,v,Y⟩:=R.ok';(have T3:=D.out.next M v Y);obtain⟨x0,x1⟩:=(Y.blk q.out o).cells2))
     go_ret;exact T3.done J.out.symm
    ·rw[if_neg H]at J;go_wp2_with (first
      |(go_fit (HT.out _);rintro e x⟨rfl,rfl⟩)
      |(go_fit (D.out.knowsN f.type d H);rintro e w3 R;obtain⟨M,rfl⟩:=R.no'))
     exact And.intro rfl (D.out.stop M J.out.symm)
   ·have V:=((E.out.over G).aside (b:=F.heap.size) (Nat.le_of_lt C) (Xf Z (Nat.le_of_lt O)) (Nat.ne_of_gt C) (E.out.step.fresh Xl) 0 (.string f.name)).aside (b:=F.heap.size) (Nat.le_of_lt C) (Xf Z (Nat.le_of_lt O)) (Nat.ne_of_gt C) (E.out.step.fresh Xl) 1 (.string f.type);have n:Blk ((T.setCell ⟨F.heap.size,0,none⟩ (.string f.name)).setCell ⟨F.heap.size,1,none⟩ (.string f.type)) F.heap.size 130 [.string f.name,.string f.type]:=k.put2 _ _;have o:zaM P lv1 sv1 F.heap.size:=E.out.step.fresh Xl;generalize ((T.setCell ⟨F.heap.size,0,none⟩ (.string f.name)).setCell ⟨F.heap.size,1,none⟩ (.string f.type))=W at *;obtain⟨y0,y1⟩:=n.cells2;have D:=Xh V;have q:=Xh n;clear V n k0 i j i0 i1 i2 i3 i4 i5 q0;by_cases H:zd (Za l) f.type=0
    ·rw[if_pos H]at J;go_wp2_with (first
      |(go_fit (HT.out _);rintro e x⟨rfl,rfl⟩)
      |(go_fit (D.out.knowsY f.type d H);rintro e w3 R;obtain⟨M,rfl,lv3,sv3,v,Y⟩:=R.ok';(have T3:=D.out.next M v Y);obtain⟨x0,x1⟩:=(Y.blk q.out o).cells2))
     go_ret;exact T3.done J.out.symm
    ·rw[if_neg H]at J;go_wp2_with (first
      |(go_fit (HT.out _);rintro e x⟨rfl,rfl⟩)
      |(go_fit (D.out.knowsN f.type d H);rintro e w3 R;obtain⟨M,rfl⟩:=R.no'))
     exact And.intro rfl (D.out.stop M J.out.symm)
 ·rw[if_pos hk]at J;go_enter Tryz.func144,Tryz.ntmps144;go_wp2_with (first
   |(go_fit (HTh.out _);rintro e x⟨rfl,rfl⟩)
   |(go_fit (T0.knowsN (Zd cls) hsz hk);rintro e F R;obtain⟨g,rfl⟩:=R.no'))
  exact And.intro rfl (T0.stop g J.out.symm)
set_option maxRecDepth 512
def qdu(v:Value):Prop:=∃a b c d e n p1 n1 k1 p2 n2 k2,v=.agg #[.string a,.string b,.bool c,.bool d,.bool e,.int .i64 n,.slice p1 n1 k1,.slice p2 n2 k2]
def qcl(w:World)(f:Nat)(e:Ending)(w':World):Prop:=(∃s v,e=.returned (.tuple #[.string s,v,zE f])/\qdu v)/\Below w.heap.size w w'
def Zbz(o:Option (Str×qi))(iss:Bool)(src:Str)(static:Bool):Nat :=
 match o with
 |none=>3
 |some (d,m)=>if (!iss)=true then 3 else if m.static≠static then 7 else if m.priv&&decide (d≠src) then 9 else 0
theorem ZbI(d:Str)(m:qi)(A:Bool)(B:Str)(static:Bool):Zbz (some (d,m)) A B static=if A=false then 3 else if (m.static==static)=false then 7 else if (m.priv&&!decide (d=B))=true then 9 else 0:=by
 unfold Zbz;cases A with
 |false=>rfl
 |true =>
  obtain⟨p,E⟩:∃p,m.priv=p:=⟨_,rfl⟩;cases p<;>by_cases C:m.static=static<;>by_cases D:d=B<;>simp[C,D,E]
theorem zbo(cs:List Qb)(A c n t:Str)(static:Bool):Zz cs A c n t static=if (!(Qc cs c).isSome)=true then 3 else Zbz (Qal cs c n t) (Qc cs A).isSome A static:=by
 unfold Zz Zbz;cases Qc cs c<;>cases Qc cs A<;>cases Qal cs c n t<;>rfl
set_option maxRecDepth 100000
theorem qbz(w0 w:World)(B:Nat)(l:List Qb)(j:zy w0 w B l)(A c n t:Str)(static:Bool)(k:c.size<=maxLen)(p:A.size<=maxLen):
 Calls Tryz.prog 188 #[.map (some B),.string A,.string c,.string n,.string t,.bool static] w (qcl w (Zz (Za l) A c n t static)):=by
 obtain⟨p1,k1,p2,k2,p3,k3,_,_,_,aB⟩:=j.map.look3 j.right.nodup c k;obtain⟨p4,k4,p5,k5,p6,k6,_,_,_,g⟩:=j.map.look3 j.right.nodup A p;have I:Below w.heap.size w (w.alloc (.cells #[.string ⟨#[]⟩,.string ⟨#[]⟩,.bool false,.bool false,.bool false,.int .i64 0,.slice none 0 0,.slice none 0 0] 53)):=Xb.alloc Xl _;have a:=(aB _ I).1;have P:Hid ((Qc (Za l) c).isSome=true->∀wx,Below w.heap.size w wx->_):=fun hk wx hb=>qcw w0 wx B l (j.step hb) c n t hk
 unfold qbI at P;have J:=Xh g;have C:Blk (w.alloc (.cells #[.string ⟨#[]⟩,.string ⟨#[]⟩,.bool false,.bool false,.bool false,.int .i64 0,.slice none 0 0,.slice none 0 0] 53)) w.heap.size 53 Zn:=Blk.new w _ Zn;have E:=Xh (zbo (Za l) A c n t static);unfold qcl;clear j k p aB g;generalize Zz (Za l) A c n t static=f at *;generalize (Qc (Za l) c).isSome=isc at *;generalize (Qc (Za l) A).isSome=i at *;generalize (Qc (Za l) c).getD zg=dc at *;generalize (Qc (Za l) A).getD zg=ds at *;generalize Qal (Za l) c n t=o at *;obtain⟨n2,s2,f2,b2,d2,m2⟩:=dc;obtain⟨n3,s3,f3,b3,d3,m3⟩:=ds;unfold Qz at a J;dsimp only at a J;have H:=(I.alloc I.size (.cells #[.string n2,.string s2,.slice p1 f2.length k1,.bool b2,.slice p2 d2.length k2,.slice p3 m2.length k3] 36));have D:=C.step (Xb.alloc Xl (.cells #[.string n2,.string s2,.slice p1 f2.length k1,.bool b2,.slice p2 d2.length k2,.slice p3 m2.length k3] 36));cases isc with
 |false =>
  have N:f=3:=E.out;subst N;obtain⟨q0,q1,q2,q3,q4,q5,q6,q7⟩:=C.method;have r:=C.frozen;have s:=Xh I;have y:=C.lt;clear E D C H P J I;go_enter Tryz.func188,Tryz.ntmps188;go_wp2_with fail;exact bodyPost_ret (v:=.tuple #[.string ⟨#[]⟩,.agg Zn.toArray,.iface 29 (.int .i64 3)]) (by simp[results,Tryz.results188,go_sem, *,Zn]) rfl ⟨⟨_,_,rfl,⟨_,_,_,_,_,_,_,_,_,_,_,_,rfl⟩⟩,s.out.alloc s.out.size _⟩
 |true =>
  have R:Hid (∀wx,Below w.heap.size w wx->_):=fun wx hb=>P.out rfl wx hb
  replace E:Hid (f=Zbz o i A static):=E.out;clear P C I;cases o with
  |none =>
   simp only[ZaM,Option.map_none,Option.getD_none]at R;have N:f=3:=E.out;subst N;clear E J;go_enter Tryz.func188,Tryz.ntmps188;go_upto_region 6 with(go_fit (R.out _ H);rintro e U⟨⟨v3,rfl,V,X,Y,Z,rfl,_,_⟩,G⟩)
   have S:=D.step G;obtain⟨q0,q1,q2,q3,q4,q5,q6,q7⟩:=S.method;have r:=S.frozen;have y:=S.lt;have L:=Qa H Xl G;have HE:=Xh ((ZB L (Nat.le_refl w.heap.size) (.string ⟨#[]⟩) (.string ⟨#[]⟩) (.bool false) (.bool false) (.bool false) (.int .i64 0) (.slice none 0 0) (.slice none 0 0)).alloc (Xf L.size (by simp)) (.cells #[.string zH.name,.string zH.type,.bool zH.static,.bool zH.abs,.bool zH.priv,.int .i64 zH.locals,.slice V zH.code.length X,.slice Y zH.handlers.length Z] 53));clear S L D H G;go_wp2_with fail;exact bodyPost_ret (v:=.tuple #[.string ⟨#[]⟩,.agg Zn.toArray,.iface 29 (.int .i64 3)]) (by simp[results,Tryz.results188,go_sem, *,Zn]) rfl ⟨⟨_,_,rfl,⟨_,_,_,_,_,_,_,_,_,_,_,_,rfl⟩⟩,HE⟩
  |some x =>
   obtain⟨d,m⟩:=x;simp only[ZaM,Option.map_some,Option.getD_some]at R;go_enter Tryz.func188,Tryz.ntmps188;go_upto_region 7 with(go_fit (R.out _ H);rintro e U⟨⟨v3,rfl,V,X,Y,Z,rfl,_,_⟩,G⟩)
   have L:=Qa H Xl G;have O:=Blk.new U 53 [.string m.name,.string m.type,.bool m.static,.bool m.abs,.bool m.priv,.int .i64 m.locals,.slice V m.code.length X,.slice Y m.handlers.length Z];have b:=(Below.refl U.heap.size U).alloc Xl (.cells #[.string m.name,.string m.type,.bool m.static,.bool m.abs,.bool m.priv,.int .i64 m.locals,.slice V m.code.length X,.slice Y m.handlers.length Z] 53);have T:=(D.step G).step b;have M:=Qa L Xl b;have hne:w.heap.size<U.heap.size:=(D.step G).lt;have O:Blk (U.alloc (.cells #[.string m.name,.string m.type,.bool m.static,.bool m.abs,.bool m.priv,.int .i64 m.locals,.slice V m.code.length X,.slice Y m.handlers.length Z] 53)) U.heap.size 53 [.string m.name,.string m.type,.bool m.static,.bool m.abs,.bool m.priv,.int .i64 m.locals,.slice V m.code.length X,.slice Y m.handlers.length Z]:=O;clear D H G L b;generalize U.alloc (.cells #[.string m.name,.string m.type,.bool m.static,.bool m.abs,.bool m.priv,.int .i64 m.locals,.slice V m.code.length X,.slice Y m.handlers.length Z] 53)=w4 at *;generalize U.heap.size=x18 at *;have g:=(J.out w4 M).1;obtain⟨q0,q1,q2,q3,q4,q5,q6,q7⟩:=T.method;have r:=T.frozen;have y:=T.lt;obtain⟨t0,t1,t2,t3,t4,t5,t6,t7⟩:=O.cells8;have hl18:=O.lt;have h:=Xh ((ZB M (Nat.le_refl w.heap.size) (.string ⟨#[]⟩) (.string ⟨#[]⟩) (.bool false) (.bool false) (.bool false) (.int .i64 0) (.slice none 0 0) (.slice none 0 0)).alloc (Xf M.size (by simp)) (.cells #[.string n3,.string s3,.slice p4 f3.length k4,.bool b3,.slice p5 d3.length k5,.slice p6 m3.length k6] 36));have z:=Xh (((ZB M (Nat.le_refl w.heap.size) (.string m.name) (.string m.type) (.bool m.static) (.bool m.abs) (.bool m.priv) (.int .i64 m.locals) (.slice V m.code.length X) (.slice Y m.handlers.length Z)).alloc (Xf M.size (by simp)) (.cells #[.string n3,.string s3,.slice p4 f3.length k4,.bool b3,.slice p5 d3.length k5,.slice p6 m3.length k6] 36)).drew);clear T O M J;have aA:=q8 d A;obtain⟨st,aC⟩:∃q,(m.static==static)=q:=⟨_,rfl⟩;have hs1n:(m.static != static)=!st:=(by rw[<-aC];rfl);obtain⟨ne,hs2⟩:∃q,(d.toList==A.toList)=q:=⟨_,rfl⟩;have F:Hid (f=if i=false then 3 else if st=false then 7 else if (m.priv&&!ne)=true then 9 else 0):=by
    unfold Hid;rw[E.out,ZbI,<-aC,<-hs2,aA]
   clear E aA;obtain⟨pv,hpv⟩:∃q,m.priv=q:=⟨_,rfl⟩;rw[hpv]at F t4 z;cases i with
   |false =>
    have N:f=3:=F.out;subst N;go_wp2_with fail;exact bodyPost_ret (v:=.tuple #[.string ⟨#[]⟩,.agg Zn.toArray,.iface 29 (.int .i64 3)]) (by simp[results,Tryz.results188,go_sem, *,Zn]) rfl ⟨⟨_,_,rfl,⟨_,_,_,_,_,_,_,_,_,_,_,_,rfl⟩⟩,h⟩
   |true =>
    cases st with
    |false =>
     have N:f=7:=F.out;subst N;go_wp2_with fail;exact bodyPost_ret (v:=.tuple #[.string ⟨#[]⟩,.agg Zn.toArray,.iface 29 (.int .i64 7)]) (by simp[results,Tryz.results188,go_sem, *,Zn]) rfl ⟨⟨_,_,rfl,⟨_,_,_,_,_,_,_,_,_,_,_,_,rfl⟩⟩,h⟩
    |true =>
     cases pv<;>cases ne
     case true.false =>
      have N:f=9:=F.out;subst N;go_wp2_with fail;exact bodyPost_ret (v:=.tuple #[.string ⟨#[]⟩,.agg Zn.toArray,.iface 29 (.int .i64 9)]) (by simp[results,Tryz.results188,go_sem, *,Zn]) rfl ⟨⟨_,_,rfl,⟨_,_,_,_,_,_,_,_,_,_,_,_,rfl⟩⟩,h⟩
     all_goals
      have N:f=0:=F.out;subst N;go_upto_region 14 with fail;go_region
      all_goals go_wp2
      all_goals exact bodyPost_ret (v:=.tuple #[.string d,.agg #[.string m.name,.string m.type,.bool m.static,.bool m.abs,.bool _,.int .i64 m.locals,.slice V m.code.length X,.slice Y m.handlers.length Z],.nilIface]) (by simp[results,Tryz.results188,go_sem, *];rfl) rfl ⟨⟨_,_,rfl,⟨_,_,_,_,_,_,_,_,_,_,_,_,rfl⟩⟩,z⟩
set_option maxRecDepth 512
def ZaR(w:World)(m:Option (List ByteArray×ByteArray))(e:Ending)(w':World):Prop :=
 Below w.heap.size w w'/\match m with
  |none=>e=.returned (.tuple #[.slice none 0 0,.string .empty,.iface 29 (.int .i64 1)])
  |some (args,g)=>∃v,e=.returned (.tuple #[v,.string g,.nilIface])/\w'.ownsRow w.heap.size 9 1 v args.length (args.map Value.string)
theorem Qcw{w w':World}{m:Option (List ByteArray×ByteArray)}(A:m=none)(B:Below w.heap.size w w'):
 ZaR w m (.returned (.tuple #[.slice none 0 0,.string .empty,.iface 29 (.int .i64 1)])) w':=by subst A;exact⟨B,rfl⟩
theorem qcH{w w':World}{m:Option (List ByteArray×ByteArray)}{args:List ByteArray}{g:ByteArray}{v:Value}(A:m=some (args,g))(B:Below w.heap.size w w')(C:w'.ownsRow w.heap.size 9 1 v args.length (args.map Value.string)):
 ZaR w m (.returned (.tuple #[v,.string g,.nilIface])) w':=by subst A;exact⟨B,v,rfl,C⟩
set_option maxRecDepth 100000
theorem Qdu(s h:ByteArray)(P:Bool)(w:World)(hs:s.size<=1048576)(Y:h.size<=s.size)(h0:Lib.trimPrefix s.data.toList [40]=h.data.toList)(l:Lib.hasPrefix s.data.toList [40]=P)(r:ByteArray)(acc:List ByteArray)(Z:Bool)(hf:zA h P []=(r,acc,Z))(m:Option (List ByteArray×ByteArray))(hm:QC (r,acc,Z)=m):
 Calls Tryz.prog 132 #[.string s] w (ZaR w m):=by
 have M:=Xh hm;clear hm;have HF:=Xh hf;obtain⟨i0,hi,aA,aB,aC⟩:=info_parts qO;clear hf;go_enter Tryz.func132,Tryz.ntmps132;go_wp2_with (go_fit (Qbb _ _ _);rintro e w'⟨rfl,rfl⟩)
 clear h0 l;go_loopw [5,6,7] (fun x y v wr=>∃(F:ByteArray) (N:Bool) (A:List ByteArray),Hid (zA F N A=(r,acc,Z))/\F.size+A.length<=s.size/\wr.ownsRow w.heap.size 9 1 v A.length (A.map Value.string)/\Below w.heap.size w wr/\x=.string F/\y=.bool N)
  (fun x y _ _=>if Qbz y then zbS x+1 else 0)
 case atStart=>exact⟨h,P,[],HF,by simpa using Y,World.ownsRow_nil _ _ _ _,Xb,rfl,rfl⟩
 case round =>
  clear HF;obtain⟨F,N,A,E,d,C,B,rfl,rfl⟩:=hrel;cases N with
  |false =>
   have G:=E.out;unfold zA at G;simp only[Bool.false_eq_true,if_false,Prod.mk.injEq]at G;obtain⟨rfl,rfl,rfl⟩:=G;have J:Hid (m=none):=(by unfold Hid;rw[<-M.out];simp[QC]);clear E M C;go_wp2_with (go_fit (ZL _ _);rintro e w'⟨rfl,rfl⟩)
   go_ret3;exact Qcw J.out B
  |true =>
   cases z:Lib.hasPrefix F.data.toList [41] with
   |true =>
    have G:=E.out;rw[qbV z]at G;simp only[Prod.mk.injEq]at G;obtain⟨rfl,rfl,rfl⟩:=G;clear E;have H:(Z5 F).size<=maxLen:=qF (by have:=QbV F;omega);have D:Hid (QC (F,A,true)=m):=M.out;clear M;obtain⟨va,vc,rfl⟩:=qe C;generalize hg:Z5 F=g at *;by_cases o:A.length<=5
    ·cases hV:(g.toList==[86]) with
     |true =>
      have L:Hid (m=some (A,g)):=(by unfold Hid;rw[<-D.out];exact Q9 o hg (by simp[zY,hV]));have hv:=Xh C;have HG:=Xh H;clear C D H;go_wp2_with (first|(go_fit (zz _ _ _);rintro e w'⟨rfl,rfl⟩)|(go_fit (ZL _ _);rintro e w'⟨rfl,rfl⟩))
      go_ret3;exact qcH L.out B hv.out
     |false =>
      cases X:Zs g.data.toList with
      |true =>
       have L:Hid (m=some (A,g)):=(by unfold Hid;rw[<-D.out];exact Q9 o hg (by simp[zY,X]));have p:=Xh (qad H X);have HO:=Xh C;clear C D H X;go_wp2_with (first|(go_fit (zz _ _ _);rintro e w'⟨rfl,rfl⟩)|(go_fit (ZL _ _);rintro e w'⟨rfl,rfl⟩)|(go_fit (p.out _);rintro e f⟨rfl,I⟩))
       go_ret3;exact qcH L.out (B.trans (I.mono B.size)) (Zr HO.out I)
      |false =>
       have J:Hid (m=none):=(by unfold Hid;rw[<-D.out];exact QaH hg (by simp[zY,X,hV]));have p:=Xh (Zai H X);clear C D H X;go_wp2_with (first|(go_fit (zz _ _ _);rintro e w'⟨rfl,rfl⟩)|(go_fit (ZL _ _);rintro e w'⟨rfl,rfl⟩)|(go_fit (p.out _);rintro e f⟨rfl,I⟩))
       go_ret3;exact Qcw J.out (B.trans (I.mono B.size))
    ·have J:Hid (m=none):=(by unfold Hid;rw[<-D.out];exact zaI o);clear D H C;go_wp2_with (first|(go_fit (zz _ _ _);rintro e w'⟨rfl,rfl⟩)|(go_fit (ZL _ _);rintro e w'⟨rfl,rfl⟩))
     go_ret3;exact Qcw J.out B
   |false =>
    cases T:ZA F.data.toList with
    |zero =>
     have i:=Xh T;have a:Hid (zA F false A=(r,acc,Z)):=(by unfold Hid;rw[<-ZbS z T];exact E.out);clear T E;go_wp2_with (first|(go_fit (zz _ _ _);rintro e w'⟨rfl,rfl⟩)|(go_fit (zcx (qF (by omega)) i.out _);rintro e f⟨rfl,I⟩))
     go_roundw;case rel=>exact⟨F,false,A,a,d,Zr C I,B.trans (I.mono B.size),rfl,rfl⟩
     case measure=>simp[Qbz]
    |succ n =>
     have b:=qaq F.data.toList;rw[QB,T]at b;have i:=Xh T;have a:Hid (zA (F.extract (n+1) F.size) true (A++[F.extract 0 (n+1)])=(r,acc,Z)):=(by unfold Hid;rw[<-zbW z T];exact E.out);have c:(F.extract (n+1) F.size).size=F.size-(n+1):=(by simp);have j:=Xh c;clear T E c;generalize hr2:F.extract (n+1) F.size=r2 at a j;generalize hx:F.extract 0 (n+1)=V at a;go_wp2_with (go_fit (zz _ _ _);rintro e w'⟨rfl,rfl⟩)
     (with_reducible refine(Zbo (qF (by omega)) i.out _).mono ?_)
     rintro e f⟨rfl,I⟩;have ho:=Zr C I;have R:Below w.heap.size w (f.alloc (.cells #[.string V] 9)):=(B.trans (I.mono B.size)).alloc (Xf B.size I.size) _;have c2:∀u∈[Value.string V],u.oneCell'=true:=fun u hu=>by simp at hu;subst hu;rfl
     have c3:A.length+1<=maxLen:=qF (by omega);have c4:(A.length+1)*16<=140737488355328:=(by omega);have c5:=R.size;have q:=Xh R;have HZ:Hid ((r2.size:Nat)+(A++[V]).length<=s.size):=(by unfold Hid;rw[j.out];simp;omega);have HM:Hid (r2.size<F.size):=(by unfold Hid;rw[j.out];omega);clear C I B R b d Y j i;go_wp2_with (at_builtin;refine wpList_append_own _ rfl _ _ 25 rfl w.heap.size 9 i0 (.string .empty) 1 16 Tryz.underlying25 hi aA aB aC rfl (by decide) _ _ _ rfl (ho.alloc _) ⟨f.heap.size,0,none⟩ 1 1 [.string V] rfl rfl (cell_one_new _ _ _) c2 c3 c4 c5 ?_;intro v2 w3 U O _)
     have t:Below w.heap.size w w3:=q.out.grown O c5 (fun k hk=>(ho.lt k hk).1);have S:w3.ownsRow w.heap.size 9 1 v2 (A++[V]).length ((A++[V]).map Value.string):=(by simpa using U);go_roundw;case rel=>exact⟨r2,true,A++[V],a,HZ,S,t,rfl,rfl⟩
     case measure=>have:=HM.out;simp[Qbz,zbS];omega
set_option maxRecDepth 512
theorem zaZ(s:ByteArray)(w:World)(hs:s.size<=1048576):Calls Tryz.prog 132 #[.string s] w (ZaR w (Zm s)):=by
 have A:(Lib.trimPrefix s.data.toList [40]).length<=s.data.toList.length:=by unfold Lib.trimPrefix;split<;>simp
 rw[QB]at A;exact Qdu s ⟨(Lib.trimPrefix s.data.toList [40]).toArray⟩ (Lib.hasPrefix s.data.toList [40]) w hs (by show(Lib.trimPrefix s.data.toList [40]).toArray.size<=s.size;rw[List.size_toArray];exact A) rfl rfl _ _ _ rfl _ rfl
theorem qbo(N:Nat):∀(n:Nat) (r:ByteArray) (acc:List ByteArray),r.size<=N->(∀x∈acc,x.size<=N)->(qaw n r acc).1.size<=N/\∀x∈(qaw n r acc).2.1,x.size<=N
 |0,r,acc,C,B=>⟨C,B⟩
 |n+1,r,acc,C,B=>by
  unfold qaw;split
  ·exact⟨C,B⟩
  ·split
   ·exact⟨C,B⟩
   ·refine qbo N n _ _ ?_ ?_
    ·rw[ByteArray.size_extract];omega
    ·intro x A;rcases List.mem_append.1 A with A|A
     ·exact B x A
     ·simp at A;subst A;rw[ByteArray.size_extract];omega
theorem QQ{s:ByteArray}{args:List ByteArray}{g:ByteArray}(h:Zm s=some (args,g)):(∀x∈args,x.size<=s.size)/\g.size<=s.size:=by
 have A:(Lib.trimPrefix s.data.toList [40]).length<=s.data.toList.length:=by unfold Lib.trimPrefix;split<;>simp
 rw[QB]at A;unfold Zm QC at h;have D:(zA ⟨(Lib.trimPrefix s.data.toList [40]).toArray⟩ (Lib.hasPrefix s.data.toList [40]) []).1.size<=s.size/\∀x∈(zA ⟨(Lib.trimPrefix s.data.toList [40]).toArray⟩ (Lib.hasPrefix s.data.toList [40]) []).2.1,x.size<=s.size:=by
  have B:(⟨(Lib.trimPrefix s.data.toList [40]).toArray⟩:ByteArray).size<=s.size:=by show(Lib.trimPrefix s.data.toList [40]).toArray.size<=s.size;rw[List.size_toArray];exact A
  unfold zA;split
  ·exact qbo s.size _ _ _ B (fun x C=>by cases C)
  ·exact⟨B,fun x C=>by cases C⟩
 split at h
 ·injection h with h
  injection h with F G
  subst F G;refine⟨D.2,?_⟩;have E:(Z5 (zA ⟨(Lib.trimPrefix s.data.toList [40]).toArray⟩ (Lib.hasPrefix s.data.toList [40]) []).1).size<=(zA ⟨(Lib.trimPrefix s.data.toList [40]).toArray⟩ (Lib.hasPrefix s.data.toList [40]) []).1.size:=by
   generalize (zA ⟨(Lib.trimPrefix s.data.toList [40]).toArray⟩ (Lib.hasPrefix s.data.toList [40]) []).1=r;show(Lib.trimPrefix r.data.toList [41]).toArray.size<=r.size
   rw[List.size_toArray,<-QB r];unfold Lib.trimPrefix;split<;>simp
  exact Xf E D.1
 ·cases h
def zdv(cs:List Qb)(L S:List Str)(g:Str):Option (List Str×List Str):=if zd cs g=0 then Zv L S g else none
def ZaZ(cs:List Qb)(L S:List Str)(g:Str):Option (List Str×List Str):=if (g.toList==[86])=true then some (L,S) else zdv cs L S g
def qaZ(cs:List Qb)(static:Bool)(cls:Str)(S:List Str):Option (List Str):=if static=true then some S else zh cs [Zd cls] S
def qam(cs:List Qb)(qb cls name type:Str)(static:Bool)(L S:List Str):Option (List Str×List Str) :=
 if Zz cs qb cls name type static≠0 then none else match Zm type with
  |none=>none
  |some (args,g)=>(zh cs args.reverse S).bind fun S1=>(qaZ cs static cls S1).bind fun S2=>ZaZ cs L S2 g
theorem ZbW{cs:List Qb}{L S:List Str}{g:Str}(h:(g.toList==[86])=true):ZaZ cs L S g=some (L,S):=by unfold ZaZ;rw[if_pos h]
theorem Qbo{cs:List Qb}{L S:List Str}{g:Str}(h:(g.toList==[86])=false)(A:zd cs g≠0):ZaZ cs L S g=none:=by unfold ZaZ zdv;rw[if_neg (by rw[h];decide),if_neg A]
theorem Qa6{cs:List Qb}{L S:List Str}{g:Str}(h:(g.toList==[86])=false)(A:zd cs g=0)(B:ZK S g=none):ZaZ cs L S g=none:=by unfold ZaZ zdv;rw[if_neg (by rw[h];decide),if_pos A];exact ZE B
theorem za7{cs:List Qb}{L S A:List Str}{g:Str}(h:(g.toList==[86])=false)(B:zd cs g=0)(C:ZK S g=some A):ZaZ cs L S g=some (L,A):=by unfold ZaZ zdv;rw[if_neg (by rw[h];decide),if_pos B];exact zD C
theorem Qi.grown{base:Nat}{w w':World}{A B:Nat}{qb Zb:Str}{C D v:Value}{L S:List Str}(h:Qi base w A B qb Zb C D L S)(E:w.grownBy w' v.ownBlock)(F:∀g,v.ownBlock=some g->zaM A C D g):Qi base w' A B qb Zb C D L S :=
 ⟨h.blk.grown E (fun e=>(F A e).1 rfl),h.locals.kept E (by
  cases G:C.ownBlock with
  |none=>exact Or.inl rfl
  |some g=>exact Or.inr (fun e=>(F g e.symm).2.1 G)),h.stack.kept E (by
  cases G:D.ownBlock with
  |none=>exact Or.inl rfl
  |some g=>exact Or.inr (fun e=>(F g e.symm).2.2 G)),h.apart,h.lfar,h.sfar,h.low⟩
theorem SA.grown{N w:World}{B:Nat}{l:List Qb}{base:Nat}{H:World}{C D:Value}{I:Nat}{qb Zb:Str}{E:Nat}{O:List Value}{wx:World}{J M v:Value}{L S:List Str}(T:SA N w B l base H C D I qb Zb E O wx J M L S){w':World}(F:wx.grownBy w' v.ownBlock)(U:base<=wx.heap.size)(G:∀g,v.ownBlock=some g->H.heap.size<=g/\base<=g/\g≠E/\zaM I J M g):SA N w B l base H C D I qb Zb E O w' J M L S :=
 have P:Below base wx w':=(Below.refl base wx).grown F U (fun g e=>(G g e).2.1);⟨T.env.step P,T.step.grown F (fun g e=>(G g e).2.2.2),T.box.grown F (fun e=>(G E e).2.2.1 rfl),T.apart,T.below.trans P,⟨T.kp.1,fun g A R=>⟨(F.block g (Nat.lt_of_lt_of_le A T.below.size) (fun e=>absurd (G g e.symm).1 (Nat.not_le_of_lt A))).trans (T.kp.2 g A R).1,(T.kp.2 g A R).2⟩⟩⟩
theorem ZG{w:World}{a:Addr}{b:Nat}{A B C D E F G H:Value}(h:a.block≠b):((((((((w.setCell ⟨b,0,none⟩ A).setCell ⟨b,1,none⟩ B).setCell ⟨b,2,none⟩ C).setCell ⟨b,3,none⟩ D).setCell ⟨b,4,none⟩ E).setCell ⟨b,5,none⟩ F).setCell ⟨b,6,none⟩ G).setCell ⟨b,7,none⟩ H).cell? a=w.cell? a:=World.cell?_of_block (by rw[Xk _ _ _ _ h,Xk _ _ _ _ h,Xk _ _ _ _ h,Xk _ _ _ _ h,Xk _ _ _ _ h,Xk _ _ _ _ h,Xk _ _ _ _ h,Xk _ _ _ _ h])
set_option maxRecDepth 100000
theorem Zec(z w:World)(B:Nat)(l:List Qb)(base:Nat)(H:World)(hE:Env z w B l base H)(O:Nat)(qb Zb:Str)(x y:Value)(L S:List Str)(h:Qi base H O B qb Zb x y L S)(m a b:Int)(C cls D:Str)(static:Bool)(hc:cls.size<=1048576)(aA:qb.size<=maxLen)(hf:Zz (Za l) qb cls D C static≠0):
 Calls Tryz.prog 147 #[.pointer (some ⟨O,0,none⟩),.agg #[.int .i64 m,.int .i64 a,.int .i64 b,.string C,.string cls,.string D],.bool static] H (qf base H O B qb Zb x y (none)):=by
 have P:SA z w B l base H x y O qb Zb H.heap.size [.int .i64 m,.int .i64 a,.int .i64 b,.string C,.string cls,.string D] (H.alloc (.cells #[.int .i64 m,.int .i64 a,.int .i64 b,.string C,.string cls,.string D] 24)) x y L S:=SA.new hE h _;obtain⟨i0,i1,i2,i3,i4,i5⟩:=P.cells;have HF:Hid (∀wx,_):=fun wx=>qB wx
 have q0:(H.alloc (.cells #[.int .i64 m,.int .i64 a,.int .i64 b,.string C,.string cls,.string D] 24)).cell? ⟨O,0,none⟩=some (.map (some B)):=P.step.blk.cell 0;have q1:(H.alloc (.cells #[.int .i64 m,.int .i64 a,.int .i64 b,.string C,.string cls,.string D] 24)).cell? ⟨O,1,none⟩=some (.string qb):=P.step.blk.cell 1;obtain⟨G,p⟩:∃G,H.alloc (.cells #[.int .i64 m,.int .i64 a,.int .i64 b,.string C,.string cls,.string D] 24)=G:=⟨_,rfl⟩;rw[p]at P i0 i1 i2 i3 i4 i5 q0 q1;have F:=Xh P;have R:Hid (∀wx,Below G.heap.size G wx->Calls Tryz.prog 188 #[.map (some B),.string qb,.string cls,.string D,.string C,.bool static] wx fun e w'=>(∃s U V X Y Z c d f g J M N,e=.returned (.tuple #[.string s,.agg #[.string U,.string V,.bool X,.bool Y,.bool Z,.int .i64 c,.slice d f g,.slice J M N],zE (Zz (Za l) qb cls D C static)]))/\Below wx.heap.size wx w'/\Below G.heap.size G w'/\w'.cell? ⟨O,0,none⟩=some (.map (some B))/\w'.cell? ⟨O,1,none⟩=some (.string qb)/\w'.cell? ⟨H.heap.size,3,none⟩=some (.string C)/\w'.cell? ⟨H.heap.size,4,none⟩=some (.string cls)/\w'.cell? ⟨H.heap.size,5,none⟩=some (.string D)):=fun wx hb =>
  (qbz z wx B l (F.out.over hb).env.map qb cls D C static (Xf hc (by decide)) aA).mono fun e w' ⟨⟨s,v,he,U,V,X,Y,Z,c,d,f,g,J,M,N,hm⟩,hB⟩=>by
   have o:=Qa hb Xl hB;have T2:=F.out.over o;obtain⟨_,_,_,q,r,t⟩:=T2.cells;subst hm;exact⟨⟨s,U,V,X,Y,Z,c,d,f,g,J,M,N,he⟩,hB,o,T2.step.blk.cell 0,T2.step.blk.cell 1,q,r,t⟩
 have E:=P.step.blk.lt;have I:=P.step.low;have A:=P.box.lt;rcases qI (Zz (Za l) qb cls D C static) with⟨_,hz⟩|⟨hv,_⟩
 ·exact absurd hz hf
 rw[hv]at R;clear hv;generalize Zz (Za l) qb cls D C static=n at *;go_enter Tryz.func147,Tryz.ntmps147;go_upto_region 1 with fail;clear P h hE p;go_region_held3 (fun w'=>w'.cell? ⟨O,0,none⟩=some (.map (some B))/\w'.cell? ⟨O,1,none⟩=some (.string qb)/\w'.cell? ⟨H.heap.size,3,none⟩=some (.string C)/\w'.cell? ⟨H.heap.size,4,none⟩=some (.string cls)/\w'.cell? ⟨H.heap.size,5,none⟩=some (.string D)) (first|go_keep|exact⟨(ZG (a:=⟨O,0,none⟩) (Nat.ne_of_lt E)).trans k0,(ZG (a:=⟨O,1,none⟩) (Nat.ne_of_lt E)).trans k1,(ZG (a:=⟨H.heap.size,3,none⟩) (Nat.ne_of_lt A)).trans q,(ZG (a:=⟨H.heap.size,4,none⟩) (Nat.ne_of_lt A)).trans r,(ZG (a:=⟨H.heap.size,5,none⟩) (Nat.ne_of_lt A)).trans t⟩)
  (first
   |(go_fit (R.out _ ?_);(first|exact Xb.drew|exact(Xb.alloc Xl _).drew);rintro e w2⟨⟨s,U,V,X,Y,Z,c,d,f,g,J,M,N,rfl⟩,hB2,i,k0,k1,q,r,t⟩;(first|(have T:Blk w2 G.heap.size 53 [.string ⟨#[]⟩,.string ⟨#[]⟩,.bool false,.bool false,.bool false,.int .i64 0,.slice none 0 0,.slice none 0 0]:=Blk.step (w:=(G.alloc (.cells #[.string ⟨#[]⟩,.string ⟨#[]⟩,.bool false,.bool false,.bool false,.int .i64 0,.slice none 0 0,.slice none 0 0] 53)).drew) (Blk.new G 53 [.string ⟨#[]⟩,.string ⟨#[]⟩,.bool false,.bool false,.bool false,.int .i64 0,.slice none 0 0,.slice none 0 0]) hB2;obtain⟨x0,x1,x2,x3,x4,x5,x6,x7⟩:=T.cells8;(have f0:=T.frozen 0);(have f1:=T.frozen 1);(have f2:=T.frozen 2);(have f3:=T.frozen 3);(have f4:=T.frozen 4);(have f5:=T.frozen 5);(have f6:=T.frozen 6);(have f7:=T.frozen 7))|skip)))
 ·have j:=(F.out.over i).alloc (.cells #[.string U,.string V,.bool X,.bool Y,.bool Z,.int .i64 c,.slice d f g,.slice J M N] 53);generalize (w2.alloc (.cells #[.string U,.string V,.bool X,.bool Y,.bool Z,.int .i64 c,.slice d f g,.slice J M N] 53))=W at *;have k:=Xh j;obtain⟨i0,i1,i2,i3,i4,i5⟩:=j.cells;clear j k0 k1 q r t F R q0 q1;go_wp2_with (first
   |(go_fit (HF.out _);rintro e wq⟨rfl,rfl⟩))
  exact And.intro rfl (k.out.stop Xb rfl)
 ·have j:=(((((((((F.out.over i).aside (b:=G.heap.size) (Nat.le_of_lt A) (Xf I (Nat.le_of_lt E)) (Nat.ne_of_gt A) (F.out.step.fresh Xl) 0 (.string U)).aside (b:=G.heap.size) (Nat.le_of_lt A) (Xf I (Nat.le_of_lt E)) (Nat.ne_of_gt A) (F.out.step.fresh Xl) 1 (.string V)).aside (b:=G.heap.size) (Nat.le_of_lt A) (Xf I (Nat.le_of_lt E)) (Nat.ne_of_gt A) (F.out.step.fresh Xl) 2 (.bool X)).aside (b:=G.heap.size) (Nat.le_of_lt A) (Xf I (Nat.le_of_lt E)) (Nat.ne_of_gt A) (F.out.step.fresh Xl) 3 (.bool Y)).aside (b:=G.heap.size) (Nat.le_of_lt A) (Xf I (Nat.le_of_lt E)) (Nat.ne_of_gt A) (F.out.step.fresh Xl) 4 (.bool Z)).aside (b:=G.heap.size) (Nat.le_of_lt A) (Xf I (Nat.le_of_lt E)) (Nat.ne_of_gt A) (F.out.step.fresh Xl) 5 (.int .i64 c)).aside (b:=G.heap.size) (Nat.le_of_lt A) (Xf I (Nat.le_of_lt E)) (Nat.ne_of_gt A) (F.out.step.fresh Xl) 6 (.slice d f g)).aside (b:=G.heap.size) (Nat.le_of_lt A) (Xf I (Nat.le_of_lt E)) (Nat.ne_of_gt A) (F.out.step.fresh Xl) 7 (.slice J M N));generalize ((((((((w2.setCell ⟨G.heap.size,0,none⟩ (.string U)).setCell ⟨G.heap.size,1,none⟩ (.string V)).setCell ⟨G.heap.size,2,none⟩ (.bool X)).setCell ⟨G.heap.size,3,none⟩ (.bool Y)).setCell ⟨G.heap.size,4,none⟩ (.bool Z)).setCell ⟨G.heap.size,5,none⟩ (.int .i64 c)).setCell ⟨G.heap.size,6,none⟩ (.slice d f g)).setCell ⟨G.heap.size,7,none⟩ (.slice J M N))=W at *;have k:=Xh j;obtain⟨i0,i1,i2,i3,i4,i5⟩:=j.cells;clear j k0 k1 q r t F R q0 q1;go_wp2_with (first
   |(go_fit (HF.out _);rintro e wq⟨rfl,rfl⟩))
  exact And.intro rfl (k.out.stop Xb rfl)
theorem Zeo(w0 w:World)(B:Nat)(l:List Qb)(base:Nat)(c:World)(hE:Env w0 w B l base c)(sb:Nat)(qb Zb:Str)(lv sv:Value)(L S:List Str)(h:Qi base c sb B qb Zb lv sv L S)(j:Qm (Za l) S)(op a b:Int)(C cls F:Str)(hc:cls.size<=1048576)(hfr:qb.size<=maxLen)(hty:C.size<=1048576)(hf:Zz (Za l) qb cls F C true=0):
 Calls Tryz.prog 147 #[.pointer (some ⟨sb,0,none⟩),.agg #[.int .i64 op,.int .i64 a,.int .i64 b,.string C,.string cls,.string F],.bool true] c (qf base c sb B qb Zb lv sv (Qn (match Zm C with|none=>none|some (args,g)=>(zh (Za l) args.reverse S).bind fun i=>(qaZ (Za l) true cls i).bind fun S2=>ZaZ (Za l) L S2 g))):=by
 have T0:SA w0 w B l base c lv sv sb qb Zb c.heap.size [.int .i64 op,.int .i64 a,.int .i64 b,.string C,.string cls,.string F] (c.alloc (.cells #[.int .i64 op,.int .i64 a,.int .i64 b,.string C,.string cls,.string F] 24)) lv sv L S:=SA.new hE h _;obtain⟨i0,i1,i2,i3,i4,i5⟩:=T0.cells;have HT:Hid (∀wx,_):=fun wx=>ZI wx
 have HF:Hid (∀wx,_):=fun wx=>qB wx
 have q0:(c.alloc (.cells #[.int .i64 op,.int .i64 a,.int .i64 b,.string C,.string cls,.string F] 24)).cell? ⟨sb,0,none⟩=some (.map (some B)):=T0.step.blk.cell 0;have q1:(c.alloc (.cells #[.int .i64 op,.int .i64 a,.int .i64 b,.string C,.string cls,.string F] 24)).cell? ⟨sb,1,none⟩=some (.string qb):=T0.step.blk.cell 1;obtain⟨P,hw1⟩:∃P,c.alloc (.cells #[.int .i64 op,.int .i64 a,.int .i64 b,.string C,.string cls,.string F] 24)=P:=⟨_,rfl⟩;rw[hw1]at T0 i0 i1 i2 i3 i4 i5 q0 q1;have I:=Xh T0;have HFO:Hid (∀wx,Below P.heap.size P wx->Calls Tryz.prog 188 #[.map (some B),.string qb,.string cls,.string F,.string C,.bool true] wx fun e w'=>(∃s m1 m2 m3 m4 m5 m6 m7 m8 m9 q t y,e=.returned (.tuple #[.string s,.agg #[.string m1,.string m2,.bool m3,.bool m4,.bool m5,.int .i64 m6,.slice m7 m8 m9,.slice q t y],zE (Zz (Za l) qb cls F C true)]))/\Below wx.heap.size wx w'/\Below P.heap.size P w'/\w'.cell? ⟨sb,0,none⟩=some (.map (some B))/\w'.cell? ⟨sb,1,none⟩=some (.string qb)/\w'.cell? ⟨c.heap.size,3,none⟩=some (.string C)/\w'.cell? ⟨c.heap.size,4,none⟩=some (.string cls)/\w'.cell? ⟨c.heap.size,5,none⟩=some (.string F)):=fun wx Y =>
  (qbz w0 wx B l (I.out.over Y).env.map qb cls F C true (Xf hc (by decide)) hfr).mono fun e w' ⟨⟨s,v,he,m1,m2,m3,m4,m5,m6,m7,m8,m9,q,t,y,hm⟩,m⟩=>by
   have hb':=Qa Y Xl m;have T2:=I.out.over hb';obtain⟨_,_,_,k3,k4,k5⟩:=T2.cells;subst hm;exact⟨⟨s,m1,m2,m3,m4,m5,m6,m7,m8,m9,q,t,y,he⟩,m,hb',T2.step.blk.cell 0,T2.step.blk.cell 1,k3,k4,k5⟩
 have H:=T0.step.blk.lt;have n:=T0.step.low;have A:=T0.box.lt;have HD:Hid (∀wx,_):=fun wx=>zaZ C wx hty
 unfold ZaR at HD;obtain⟨res,hres⟩:∃r,Qn (match Zm C with|none=>none|some (args,g)=>(zh (Za l) args.reverse S).bind fun i=>(qaZ (Za l) true cls i).bind fun S2=>ZaZ (Za l) L S2 g)=r:=⟨_,rfl⟩;have X:=Xh hres;rw[hres];clear hres;rw[hf,show zE 0=.nilIface from rfl]at HFO;clear hf;go_enter Tryz.func147,Tryz.ntmps147;go_upto_region 1 with fail;clear T0 h hE hw1;go_region_held3 (fun w'=>w'.cell? ⟨sb,0,none⟩=some (.map (some B))/\w'.cell? ⟨sb,1,none⟩=some (.string qb)/\w'.cell? ⟨c.heap.size,3,none⟩=some (.string C)/\w'.cell? ⟨c.heap.size,4,none⟩=some (.string cls)/\w'.cell? ⟨c.heap.size,5,none⟩=some (.string F)) (first|go_keep|exact⟨(ZG (a:=⟨sb,0,none⟩) (Nat.ne_of_lt H)).trans k0,(ZG (a:=⟨sb,1,none⟩) (Nat.ne_of_lt H)).trans k1,(ZG (a:=⟨c.heap.size,3,none⟩) (Nat.ne_of_lt A)).trans k3,(ZG (a:=⟨c.heap.size,4,none⟩) (Nat.ne_of_lt A)).trans k4,(ZG (a:=⟨c.heap.size,5,none⟩) (Nat.ne_of_lt A)).trans k5⟩)
  (first
   |(go_fit (HFO.out _ ?_);(first|exact Xb.drew|exact(Xb.alloc Xl _).drew);rintro e w2⟨⟨s,m1,m2,m3,m4,m5,m6,m7,m8,m9,q,t,y,rfl⟩,hB2,hB12,k0,k1,k3,k4,k5⟩;(first|(have KB:Blk w2 P.heap.size 53 [.string ⟨#[]⟩,.string ⟨#[]⟩,.bool false,.bool false,.bool false,.int .i64 0,.slice none 0 0,.slice none 0 0]:=Blk.step (w:=(P.alloc (.cells #[.string ⟨#[]⟩,.string ⟨#[]⟩,.bool false,.bool false,.bool false,.int .i64 0,.slice none 0 0,.slice none 0 0] 53)).drew) (Blk.new P 53 [.string ⟨#[]⟩,.string ⟨#[]⟩,.bool false,.bool false,.bool false,.int .i64 0,.slice none 0 0,.slice none 0 0]) hB2;obtain⟨x0,x1,x2,x3,x4,x5,x6,x7⟩:=KB.cells8;(have f0:=KB.frozen 0);(have f1:=KB.frozen 1);(have f2:=KB.frozen 2);(have f3:=KB.frozen 3);(have f4:=KB.frozen 4);(have f5:=KB.frozen 5);(have f6:=KB.frozen 6);(have f7:=KB.frozen 7))|skip)))
 ·have Tw:=(I.out.over hB12).alloc (.cells #[.string m1,.string m2,.bool m3,.bool m4,.bool m5,.int .i64 m6,.slice m7 m8 m9,.slice q t y] 53);generalize (w2.alloc (.cells #[.string m1,.string m2,.bool m3,.bool m4,.bool m5,.int .i64 m6,.slice m7 m8 m9,.slice q t y] 53))=W at *;have D:=Xh Tw;obtain⟨i0,i1,i2,i3,i4,i5⟩:=Tw.cells;clear Tw k0 k1 k3 k4 k5 I HFO q0 q1;go_upto_region 3 with(first
   |(go_fit (HT.out _);rintro e wq⟨rfl,rfl⟩))
  cases hm:Zm C with
  |none =>
   rw[hm]at X HD;have hre:=X.out;go_wp2_with (first
    |(go_fit (HD.out _);rintro e w3⟨d,rfl⟩)
    |(go_fit (HF.out _);rintro e wq⟨rfl,rfl⟩))
   exact And.intro rfl (D.out.stop (D.out.step.over d) hre.symm)
  |some p =>
   obtain⟨args,g⟩:=p;rw[hm]at X HD;obtain⟨hsa,o⟩:=QQ hm;have hl5:=ZS hm;have hgs:g.size<=maxLen:=Xf o (Xf hty (by decide));have J:∀k∈args.reverse,k.size<=maxLen:=fun k hk=>Xf (hsa k (List.mem_reverse.1 hk)) (Xf hty (by decide))
   have M:args.reverse.length<=4194304:=(by rw[List.length_reverse];omega);have hl6:args.length<=9223372036854775807:=(by omega);dsimp only at X;go_upto_region 5 with(first
    |(go_fit (HD.out _);rintro e w3⟨d,v,rfl,f⟩;obtain⟨vp,vc,rfl⟩:=qe f)
    |(go_fit (HT.out _);rintro e wq⟨rfl,rfl⟩))
   have T3:=D.out.over d;have G:∀b,(Value.slice vp args.length vc).ownBlock=some b->W.heap.size<=b/\b<w3.heap.size:=fun b Y=>f.lt b Y
   go_upto_region 6 with(first
    |(go_fit (qaR f rfl hl6);rintro e w4⟨rfl,hO4,hg4⟩))
   have N:=T3.grown hg4 T3.step.size (fun b Y=>⟨Xf D.out.below.size (G b Y).1,Xf D.out.step.size (G b Y).1,Nat.ne_of_gt (Nat.lt_of_lt_of_le D.out.box.lt (G b Y).1),D.out.step.fresh (G b Y).1⟩);have O:Zau w4 (.slice vp args.length vc) args.reverse sb lv sv:=⟨Ze (l:=args.reverse) (by rw[List.length_reverse];exact hO4),fun b Y=>⟨(hO4.lt b Y).2,D.out.step.fresh (G b Y).1⟩⟩;obtain⟨i0,i1,i2,i3,i4,i5⟩:=N.cells;clear T3 D d f hg4 HD hsa o hl5 hl6 hm;cases hV:(g.toList==[86]) with
   |true =>
    go_wp2_with (first
     |(go_at_call 139;rcases hq0:zh (Za l) args.reverse S with _|i;(with_reducible refine(N.takeAN j args.reverse _ O J M hq0).mono ?_);(rintro e w5 E;obtain⟨m,rfl⟩:=E.no';exact And.intro rfl (N.stop m (X.out.symm.trans (Qd (qu hq0)))));(with_reducible refine(N.takeAY j args.reverse _ O J M hq0).mono ?_);rintro e w5 E;obtain⟨T,rfl,lv5,sv5,U,V⟩:=E.ok';(have Z:=N.next T U V);(have hN5:=Qj hq0 j);obtain⟨i0,i1,i2,i3,i4,i5⟩:=Z.cells))
    go_end0;exact Z.done (X.out.symm.trans (Zl ((Qe hq0).trans ((Qe (x:=i) rfl).trans (ZbW hV)))))
   |false =>
    by_cases R:zd (Za l) g=0
    ·go_wp2_with (first
      |(go_at_call 139;rcases hq0:zh (Za l) args.reverse S with _|i;(with_reducible refine(N.takeAN j args.reverse _ O J M hq0).mono ?_);(rintro e w5 E;obtain⟨m,rfl⟩:=E.no';exact And.intro rfl (N.stop m (X.out.symm.trans (Qd (qu hq0)))));(with_reducible refine(N.takeAY j args.reverse _ O J M hq0).mono ?_);rintro e w5 E;obtain⟨T,rfl,lv5,sv5,U,V⟩:=E.ok';(have Z:=N.next T U V);(have hN5:=Qj hq0 j);obtain⟨i0,i1,i2,i3,i4,i5⟩:=Z.cells)
      |(go_fit (Z.knowsY g hgs R);rintro e w7 E;obtain⟨z,rfl,lv7,sv7,hS7,hk7⟩:=E.ok';(have T7:=Z.next z hS7 hk7))
      |(go_at_call 136;rcases hq2:ZK i g with _|S3;(with_reducible refine(T7.putN g hq2).mono ?_);(rintro e w8 E;obtain⟨m,rfl⟩:=E.no';exact And.intro rfl (T7.stop m (X.out.symm.trans (Qd ((Qe hq0).trans ((Qe (x:=i) rfl).trans (Qa6 hV R hq2)))))));(with_reducible refine(T7.putY g hq2).mono ?_);rintro e w8 E;obtain⟨hB8,rfl,lv8,sv8,hS8,hk8⟩:=E.ok';(have T8:=T7.next hB8 hS8 hk8)))
     go_end0;exact T8.done (X.out.symm.trans (Zl ((Qe hq0).trans ((Qe (x:=i) rfl).trans (za7 hV R hq2)))))
    ·go_wp2_with (first
      |(go_at_call 139;rcases hq0:zh (Za l) args.reverse S with _|i;(with_reducible refine(N.takeAN j args.reverse _ O J M hq0).mono ?_);(rintro e w5 E;obtain⟨m,rfl⟩:=E.no';exact And.intro rfl (N.stop m (X.out.symm.trans (Qd (qu hq0)))));(with_reducible refine(N.takeAY j args.reverse _ O J M hq0).mono ?_);rintro e w5 E;obtain⟨T,rfl,lv5,sv5,U,V⟩:=E.ok';(have Z:=N.next T U V);(have hN5:=Qj hq0 j);obtain⟨i0,i1,i2,i3,i4,i5⟩:=Z.cells)
      |(go_fit (Z.knowsN g hgs R);rintro e w7 E;obtain⟨z,rfl⟩:=E.no'))
     exact And.intro rfl (Z.stop z (X.out.symm.trans (Qd ((Qe hq0).trans ((Qe (x:=i) rfl).trans (Qbo hV R))))))
 ·have Tw:=(((((((((I.out.over hB12).aside (b:=P.heap.size) (Nat.le_of_lt A) (Xf n (Nat.le_of_lt H)) (Nat.ne_of_gt A) (I.out.step.fresh Xl) 0 (.string m1)).aside (b:=P.heap.size) (Nat.le_of_lt A) (Xf n (Nat.le_of_lt H)) (Nat.ne_of_gt A) (I.out.step.fresh Xl) 1 (.string m2)).aside (b:=P.heap.size) (Nat.le_of_lt A) (Xf n (Nat.le_of_lt H)) (Nat.ne_of_gt A) (I.out.step.fresh Xl) 2 (.bool m3)).aside (b:=P.heap.size) (Nat.le_of_lt A) (Xf n (Nat.le_of_lt H)) (Nat.ne_of_gt A) (I.out.step.fresh Xl) 3 (.bool m4)).aside (b:=P.heap.size) (Nat.le_of_lt A) (Xf n (Nat.le_of_lt H)) (Nat.ne_of_gt A) (I.out.step.fresh Xl) 4 (.bool m5)).aside (b:=P.heap.size) (Nat.le_of_lt A) (Xf n (Nat.le_of_lt H)) (Nat.ne_of_gt A) (I.out.step.fresh Xl) 5 (.int .i64 m6)).aside (b:=P.heap.size) (Nat.le_of_lt A) (Xf n (Nat.le_of_lt H)) (Nat.ne_of_gt A) (I.out.step.fresh Xl) 6 (.slice m7 m8 m9)).aside (b:=P.heap.size) (Nat.le_of_lt A) (Xf n (Nat.le_of_lt H)) (Nat.ne_of_gt A) (I.out.step.fresh Xl) 7 (.slice q t y));generalize ((((((((w2.setCell ⟨P.heap.size,0,none⟩ (.string m1)).setCell ⟨P.heap.size,1,none⟩ (.string m2)).setCell ⟨P.heap.size,2,none⟩ (.bool m3)).setCell ⟨P.heap.size,3,none⟩ (.bool m4)).setCell ⟨P.heap.size,4,none⟩ (.bool m5)).setCell ⟨P.heap.size,5,none⟩ (.int .i64 m6)).setCell ⟨P.heap.size,6,none⟩ (.slice m7 m8 m9)).setCell ⟨P.heap.size,7,none⟩ (.slice q t y))=W at *;have D:=Xh Tw;obtain⟨i0,i1,i2,i3,i4,i5⟩:=Tw.cells;clear Tw k0 k1 k3 k4 k5 I HFO q0 q1;go_upto_region 3 with(first
   |(go_fit (HT.out _);rintro e wq⟨rfl,rfl⟩))
  cases hm:Zm C with
  |none =>
   rw[hm]at X HD;have hre:=X.out;go_wp2_with (first
    |(go_fit (HD.out _);rintro e w3⟨d,rfl⟩)
    |(go_fit (HF.out _);rintro e wq⟨rfl,rfl⟩))
   exact And.intro rfl (D.out.stop (D.out.step.over d) hre.symm)
  |some p =>
   obtain⟨args,g⟩:=p;rw[hm]at X HD;obtain⟨hsa,o⟩:=QQ hm;have hl5:=ZS hm;have hgs:g.size<=maxLen:=Xf o (Xf hty (by decide));have J:∀k∈args.reverse,k.size<=maxLen:=fun k hk=>Xf (hsa k (List.mem_reverse.1 hk)) (Xf hty (by decide))
   have M:args.reverse.length<=4194304:=(by rw[List.length_reverse];omega);have hl6:args.length<=9223372036854775807:=(by omega);dsimp only at X;go_upto_region 5 with(first
    |(go_fit (HD.out _);rintro e w3⟨d,v,rfl,f⟩;obtain⟨vp,vc,rfl⟩:=qe f)
    |(go_fit (HT.out _);rintro e wq⟨rfl,rfl⟩))
   have T3:=D.out.over d;have G:∀b,(Value.slice vp args.length vc).ownBlock=some b->W.heap.size<=b/\b<w3.heap.size:=fun b Y=>f.lt b Y
   go_upto_region 6 with(first
    |(go_fit (qaR f rfl hl6);rintro e w4⟨rfl,hO4,hg4⟩))
   have N:=T3.grown hg4 T3.step.size (fun b Y=>⟨Xf D.out.below.size (G b Y).1,Xf D.out.step.size (G b Y).1,Nat.ne_of_gt (Nat.lt_of_lt_of_le D.out.box.lt (G b Y).1),D.out.step.fresh (G b Y).1⟩);have O:Zau w4 (.slice vp args.length vc) args.reverse sb lv sv:=⟨Ze (l:=args.reverse) (by rw[List.length_reverse];exact hO4),fun b Y=>⟨(hO4.lt b Y).2,D.out.step.fresh (G b Y).1⟩⟩;obtain⟨i0,i1,i2,i3,i4,i5⟩:=N.cells;clear T3 D d f hg4 HD hsa o hl5 hl6 hm;cases hV:(g.toList==[86]) with
   |true =>
    go_wp2_with (first
     |(go_at_call 139;rcases hq0:zh (Za l) args.reverse S with _|i;(with_reducible refine(N.takeAN j args.reverse _ O J M hq0).mono ?_);(rintro e w5 E;obtain⟨m,rfl⟩:=E.no';exact And.intro rfl (N.stop m (X.out.symm.trans (Qd (qu hq0)))));(with_reducible refine(N.takeAY j args.reverse _ O J M hq0).mono ?_);rintro e w5 E;obtain⟨T,rfl,lv5,sv5,U,V⟩:=E.ok';(have Z:=N.next T U V);(have hN5:=Qj hq0 j);obtain⟨i0,i1,i2,i3,i4,i5⟩:=Z.cells))
    go_end0;exact Z.done (X.out.symm.trans (Zl ((Qe hq0).trans ((Qe (x:=i) rfl).trans (ZbW hV)))))
   |false =>
    by_cases R:zd (Za l) g=0
    ·go_wp2_with (first
      |(go_at_call 139;rcases hq0:zh (Za l) args.reverse S with _|i;(with_reducible refine(N.takeAN j args.reverse _ O J M hq0).mono ?_);(rintro e w5 E;obtain⟨m,rfl⟩:=E.no';exact And.intro rfl (N.stop m (X.out.symm.trans (Qd (qu hq0)))));(with_reducible refine(N.takeAY j args.reverse _ O J M hq0).mono ?_);rintro e w5 E;obtain⟨T,rfl,lv5,sv5,U,V⟩:=E.ok';(have Z:=N.next T U V);(have hN5:=Qj hq0 j);obtain⟨i0,i1,i2,i3,i4,i5⟩:=Z.cells)
      |(go_fit (Z.knowsY g hgs R);rintro e w7 E;obtain⟨z,rfl,lv7,sv7,hS7,hk7⟩:=E.ok';(have T7:=Z.next z hS7 hk7))
      |(go_at_call 136;rcases hq2:ZK i g with _|S3;(with_reducible refine(T7.putN g hq2).mono ?_);(rintro e w8 E;obtain⟨m,rfl⟩:=E.no';exact And.intro rfl (T7.stop m (X.out.symm.trans (Qd ((Qe hq0).trans ((Qe (x:=i) rfl).trans (Qa6 hV R hq2)))))));(with_reducible refine(T7.putY g hq2).mono ?_);rintro e w8 E;obtain⟨hB8,rfl,lv8,sv8,hS8,hk8⟩:=E.ok';(have T8:=T7.next hB8 hS8 hk8)))
     go_end0;exact T8.done (X.out.symm.trans (Zl ((Qe hq0).trans ((Qe (x:=i) rfl).trans (za7 hV R hq2)))))
    ·go_wp2_with (first
      |(go_at_call 139;rcases hq0:zh (Za l) args.reverse S with _|i;(with_reducible refine(N.takeAN j args.reverse _ O J M hq0).mono ?_);(rintro e w5 E;obtain⟨m,rfl⟩:=E.no';exact And.intro rfl (N.stop m (X.out.symm.trans (Qd (qu hq0)))));(with_reducible refine(N.takeAY j args.reverse _ O J M hq0).mono ?_);rintro e w5 E;obtain⟨T,rfl,lv5,sv5,U,V⟩:=E.ok';(have Z:=N.next T U V);(have hN5:=Qj hq0 j);obtain⟨i0,i1,i2,i3,i4,i5⟩:=Z.cells)
      |(go_fit (Z.knowsN g hgs R);rintro e w7 E;obtain⟨z,rfl⟩:=E.no'))
     exact And.intro rfl (Z.stop z (X.out.symm.trans (Qd ((Qe hq0).trans ((Qe (x:=i) rfl).trans (Qbo hV R))))))
theorem qeo(w0 w:World)(B:Nat)(l:List Qb)(base:Nat)(o:World)(hE:Env w0 w B l base o)(sb:Nat)(qb Zb:Str)(lv sv:Value)(L S:List Str)(h:Qi base o sb B qb Zb lv sv L S)(x:Qm (Za l) S)(op a b:Int)(D cls F:Str)(hc:cls.size<=1048576)(hfr:qb.size<=maxLen)(hty:D.size<=1048576)(hf:Zz (Za l) qb cls F D false=0):
 Calls Tryz.prog 147 #[.pointer (some ⟨sb,0,none⟩),.agg #[.int .i64 op,.int .i64 a,.int .i64 b,.string D,.string cls,.string F],.bool false] o (qf base o sb B qb Zb lv sv (Qn (match Zm D with|none=>none|some (args,g)=>(zh (Za l) args.reverse S).bind fun S1=>(qaZ (Za l) false cls S1).bind fun S2=>ZaZ (Za l) L S2 g))):=by
 have T0:SA w0 w B l base o lv sv sb qb Zb o.heap.size [.int .i64 op,.int .i64 a,.int .i64 b,.string D,.string cls,.string F] (o.alloc (.cells #[.int .i64 op,.int .i64 a,.int .i64 b,.string D,.string cls,.string F] 24)) lv sv L S:=SA.new hE h _;obtain⟨i0,i1,i2,i3,i4,i5⟩:=T0.cells;have HT:Hid (∀wx,_):=fun wx=>ZI wx
 have HF:Hid (∀wx,_):=fun wx=>qB wx
 have q0:(o.alloc (.cells #[.int .i64 op,.int .i64 a,.int .i64 b,.string D,.string cls,.string F] 24)).cell? ⟨sb,0,none⟩=some (.map (some B)):=T0.step.blk.cell 0;have q1:(o.alloc (.cells #[.int .i64 op,.int .i64 a,.int .i64 b,.string D,.string cls,.string F] 24)).cell? ⟨sb,1,none⟩=some (.string qb):=T0.step.blk.cell 1;obtain⟨Y,hw1⟩:∃Y,o.alloc (.cells #[.int .i64 op,.int .i64 a,.int .i64 b,.string D,.string cls,.string F] 24)=Y:=⟨_,rfl⟩;rw[hw1]at T0 i0 i1 i2 i3 i4 i5 q0 q1;have N:=Xh T0;have HFO:Hid (∀wx,Below Y.heap.size Y wx->Calls Tryz.prog 188 #[.map (some B),.string qb,.string cls,.string F,.string D,.bool false] wx fun e w'=>(∃s m1 m2 m3 m4 m5 m6 m7 m8 m9 aA aB aC,e=.returned (.tuple #[.string s,.agg #[.string m1,.string m2,.bool m3,.bool m4,.bool m5,.int .i64 m6,.slice m7 m8 m9,.slice aA aB aC],zE (Zz (Za l) qb cls F D false)]))/\Below wx.heap.size wx w'/\Below Y.heap.size Y w'/\w'.cell? ⟨sb,0,none⟩=some (.map (some B))/\w'.cell? ⟨sb,1,none⟩=some (.string qb)/\w'.cell? ⟨o.heap.size,3,none⟩=some (.string D)/\w'.cell? ⟨o.heap.size,4,none⟩=some (.string cls)/\w'.cell? ⟨o.heap.size,5,none⟩=some (.string F)):=fun wx n =>
  (qbz w0 wx B l (N.out.over n).env.map qb cls F D false (Xf hc (by decide)) hfr).mono fun e w' ⟨⟨s,v,he,m1,m2,m3,m4,m5,m6,m7,m8,m9,aA,aB,aC,hm⟩,M⟩=>by
   have hb':=Qa n Xl M;have T2:=N.out.over hb';obtain⟨_,_,_,k3,k4,k5⟩:=T2.cells;subst hm;exact⟨⟨s,m1,m2,m3,m4,m5,m6,m7,m8,m9,aA,aB,aC,he⟩,M,hb',T2.step.blk.cell 0,T2.step.blk.cell 1,k3,k4,k5⟩
 have J:=T0.step.blk.lt;have y:=T0.step.low;have C:=T0.box.lt;have HD:Hid (∀wx,_):=fun wx=>zaZ D wx hty
 unfold ZaR at HD;have HTh:Hid (∀wx,_):=fun wx=>QX cls wx (Xf hc (by decide))
 have X:(Zd cls).size<=maxLen:=by rw[Zam];exact Xf (Nat.add_le_add_right hc 2) (by decide)
 obtain⟨res,hres⟩:∃r,Qn (match Zm D with|none=>none|some (args,g)=>(zh (Za l) args.reverse S).bind fun S1=>(qaZ (Za l) false cls S1).bind fun S2=>ZaZ (Za l) L S2 g)=r:=⟨_,rfl⟩;have P:=Xh hres;rw[hres];clear hres;rw[hf,show zE 0=.nilIface from rfl]at HFO;clear hf;go_enter Tryz.func147,Tryz.ntmps147;go_upto_region 1 with fail;clear T0 h hE hw1;go_region_held3 (fun w'=>w'.cell? ⟨sb,0,none⟩=some (.map (some B))/\w'.cell? ⟨sb,1,none⟩=some (.string qb)/\w'.cell? ⟨o.heap.size,3,none⟩=some (.string D)/\w'.cell? ⟨o.heap.size,4,none⟩=some (.string cls)/\w'.cell? ⟨o.heap.size,5,none⟩=some (.string F)) (first|go_keep|exact⟨(ZG (a:=⟨sb,0,none⟩) (Nat.ne_of_lt J)).trans k0,(ZG (a:=⟨sb,1,none⟩) (Nat.ne_of_lt J)).trans k1,(ZG (a:=⟨o.heap.size,3,none⟩) (Nat.ne_of_lt C)).trans k3,(ZG (a:=⟨o.heap.size,4,none⟩) (Nat.ne_of_lt C)).trans k4,(ZG (a:=⟨o.heap.size,5,none⟩) (Nat.ne_of_lt C)).trans k5⟩)
  (first
   |(go_fit (HFO.out _ ?_);(first|exact Xb.drew|exact(Xb.alloc Xl _).drew);rintro e w2⟨⟨s,m1,m2,m3,m4,m5,m6,m7,m8,m9,aA,aB,aC,rfl⟩,hB2,hB12,k0,k1,k3,k4,k5⟩;(first|(have KB:Blk w2 Y.heap.size 53 [.string ⟨#[]⟩,.string ⟨#[]⟩,.bool false,.bool false,.bool false,.int .i64 0,.slice none 0 0,.slice none 0 0]:=Blk.step (w:=(Y.alloc (.cells #[.string ⟨#[]⟩,.string ⟨#[]⟩,.bool false,.bool false,.bool false,.int .i64 0,.slice none 0 0,.slice none 0 0] 53)).drew) (Blk.new Y 53 [.string ⟨#[]⟩,.string ⟨#[]⟩,.bool false,.bool false,.bool false,.int .i64 0,.slice none 0 0,.slice none 0 0]) hB2;obtain⟨x0,x1,x2,x3,x4,x5,x6,x7⟩:=KB.cells8;(have f0:=KB.frozen 0);(have f1:=KB.frozen 1);(have f2:=KB.frozen 2);(have f3:=KB.frozen 3);(have f4:=KB.frozen 4);(have f5:=KB.frozen 5);(have f6:=KB.frozen 6);(have f7:=KB.frozen 7))|skip)))
 ·have Tw:=(N.out.over hB12).alloc (.cells #[.string m1,.string m2,.bool m3,.bool m4,.bool m5,.int .i64 m6,.slice m7 m8 m9,.slice aA aB aC] 53);generalize (w2.alloc (.cells #[.string m1,.string m2,.bool m3,.bool m4,.bool m5,.int .i64 m6,.slice m7 m8 m9,.slice aA aB aC] 53))=W at *;have E:=Xh Tw;obtain⟨i0,i1,i2,i3,i4,i5⟩:=Tw.cells;clear Tw k0 k1 k3 k4 k5 N HFO q0 q1;go_upto_region 3 with(first
   |(go_fit (HT.out _);rintro e wq⟨rfl,rfl⟩))
  cases hm:Zm D with
  |none =>
   rw[hm]at P HD;have hre:=P.out;go_wp2_with (first
    |(go_fit (HD.out _);rintro e w3⟨q,rfl⟩)
    |(go_fit (HF.out _);rintro e wq⟨rfl,rfl⟩))
   exact And.intro rfl (E.out.stop (E.out.step.over q) hre.symm)
  |some p =>
   obtain⟨args,g⟩:=p;rw[hm]at P HD;obtain⟨hsa,z⟩:=QQ hm;have hl5:=ZS hm;have hgs:g.size<=maxLen:=Xf z (Xf hty (by decide));have R:∀k∈args.reverse,k.size<=maxLen:=fun k hk=>Xf (hsa k (List.mem_reverse.1 hk)) (Xf hty (by decide))
   have T:args.reverse.length<=4194304:=(by rw[List.length_reverse];omega);have hl6:args.length<=9223372036854775807:=(by omega);dsimp only at P;go_upto_region 5 with(first
    |(go_fit (HD.out _);rintro e w3⟨q,v,rfl,t⟩;obtain⟨vp,vc,rfl⟩:=qe t)
    |(go_fit (HT.out _);rintro e wq⟨rfl,rfl⟩))
   have T3:=E.out.over q;have G:∀b,(Value.slice vp args.length vc).ownBlock=some b->W.heap.size<=b/\b<w3.heap.size:=fun b n=>t.lt b n
   go_upto_region 6 with(first
    |(go_fit (qaR t rfl hl6);rintro e w4⟨rfl,hO4,hg4⟩))
   have U:=T3.grown hg4 T3.step.size (fun b n=>⟨Xf E.out.below.size (G b n).1,Xf E.out.step.size (G b n).1,Nat.ne_of_gt (Nat.lt_of_lt_of_le E.out.box.lt (G b n).1),E.out.step.fresh (G b n).1⟩);have V:Zau w4 (.slice vp args.length vc) args.reverse sb lv sv:=⟨Ze (l:=args.reverse) (by rw[List.length_reverse];exact hO4),fun b n=>⟨(hO4.lt b n).2,E.out.step.fresh (G b n).1⟩⟩;obtain⟨i0,i1,i2,i3,i4,i5⟩:=U.cells;clear T3 E q t hg4 HD hsa z hl5 hl6 hm;cases hV:(g.toList==[86]) with
   |true =>
    go_wp2_with (first
     |(go_at_call 139;rcases hq0:zh (Za l) args.reverse S with _|S1;(with_reducible refine(U.takeAN x args.reverse _ V R T hq0).mono ?_);(rintro e w5 A;obtain⟨M,rfl⟩:=A.no';exact And.intro rfl (U.stop M (P.out.symm.trans (Qd (qu hq0)))));(with_reducible refine(U.takeAY x args.reverse _ V R T hq0).mono ?_);rintro e w5 A;obtain⟨c,rfl,lv5,sv5,d,f⟩:=A.ok';(have O:=U.next c d f);(have H:=Qj hq0 x);obtain⟨i0,i1,i2,i3,i4,i5⟩:=O.cells)
     |(go_fit (HTh.out _);rintro e wq⟨rfl,rfl⟩)
     |(go_at_call 139;(have I:=O.alloc (.cells #[.string (Zd cls)] 9));rcases hq1:zh (Za l) [Zd cls] S1 with _|S2;(with_reducible refine(O.takeON H (Zd cls) X _ (by simp) hq1).mono ?_);(rintro e w6 A;obtain⟨M,rfl⟩:=A.no';exact And.intro rfl (I.stop M (P.out.symm.trans (Qd ((Qe hq0).trans (qu hq1))))));(with_reducible refine(O.takeOY H (Zd cls) X _ (by simp) hq1).mono ?_);rintro e w6 A;obtain⟨i,rfl,lv6,sv6,j,m⟩:=A.ok';(have T6:=I.next i j m)))
    go_end0;exact T6.done (P.out.symm.trans (Zl ((Qe hq0).trans ((Qe hq1).trans (ZbW hV)))))
   |false =>
    by_cases Z:zd (Za l) g=0
    ·go_wp2_with (first
      |(go_at_call 139;rcases hq0:zh (Za l) args.reverse S with _|S1;(with_reducible refine(U.takeAN x args.reverse _ V R T hq0).mono ?_);(rintro e w5 A;obtain⟨M,rfl⟩:=A.no';exact And.intro rfl (U.stop M (P.out.symm.trans (Qd (qu hq0)))));(with_reducible refine(U.takeAY x args.reverse _ V R T hq0).mono ?_);rintro e w5 A;obtain⟨c,rfl,lv5,sv5,d,f⟩:=A.ok';(have O:=U.next c d f);(have H:=Qj hq0 x);obtain⟨i0,i1,i2,i3,i4,i5⟩:=O.cells)
      |(go_fit (HTh.out _);rintro e wq⟨rfl,rfl⟩)
      |(go_at_call 139;(have I:=O.alloc (.cells #[.string (Zd cls)] 9));rcases hq1:zh (Za l) [Zd cls] S1 with _|S2;(with_reducible refine(O.takeON H (Zd cls) X _ (by simp) hq1).mono ?_);(rintro e w6 A;obtain⟨M,rfl⟩:=A.no';exact And.intro rfl (I.stop M (P.out.symm.trans (Qd ((Qe hq0).trans (qu hq1))))));(with_reducible refine(O.takeOY H (Zd cls) X _ (by simp) hq1).mono ?_);rintro e w6 A;obtain⟨i,rfl,lv6,sv6,j,m⟩:=A.ok';(have T6:=I.next i j m))
      |(go_fit (T6.knowsY g hgs Z);rintro e w7 A;obtain⟨hB7,rfl,lv7,sv7,hS7,hk7⟩:=A.ok';(have T7:=T6.next hB7 hS7 hk7))
      |(go_at_call 136;rcases hq2:ZK S2 g with _|S3;(with_reducible refine(T7.putN g hq2).mono ?_);(rintro e w8 A;obtain⟨M,rfl⟩:=A.no';exact And.intro rfl (T7.stop M (P.out.symm.trans (Qd ((Qe hq0).trans ((Qe hq1).trans (Qa6 hV Z hq2)))))));(with_reducible refine(T7.putY g hq2).mono ?_);rintro e w8 A;obtain⟨hB8,rfl,lv8,sv8,hS8,hk8⟩:=A.ok';(have T8:=T7.next hB8 hS8 hk8)))
     go_end0;exact T8.done (P.out.symm.trans (Zl ((Qe hq0).trans ((Qe hq1).trans (za7 hV Z hq2)))))
    ·go_wp2_with (first
      |(go_at_call 139;rcases hq0:zh (Za l) args.reverse S with _|S1;(with_reducible refine(U.takeAN x args.reverse _ V R T hq0).mono ?_);(rintro e w5 A;obtain⟨M,rfl⟩:=A.no';exact And.intro rfl (U.stop M (P.out.symm.trans (Qd (qu hq0)))));(with_reducible refine(U.takeAY x args.reverse _ V R T hq0).mono ?_);rintro e w5 A;obtain⟨c,rfl,lv5,sv5,d,f⟩:=A.ok';(have O:=U.next c d f);(have H:=Qj hq0 x);obtain⟨i0,i1,i2,i3,i4,i5⟩:=O.cells)
      |(go_fit (HTh.out _);rintro e wq⟨rfl,rfl⟩)
      |(go_at_call 139;(have I:=O.alloc (.cells #[.string (Zd cls)] 9));rcases hq1:zh (Za l) [Zd cls] S1 with _|S2;(with_reducible refine(O.takeON H (Zd cls) X _ (by simp) hq1).mono ?_);(rintro e w6 A;obtain⟨M,rfl⟩:=A.no';exact And.intro rfl (I.stop M (P.out.symm.trans (Qd ((Qe hq0).trans (qu hq1))))));(with_reducible refine(O.takeOY H (Zd cls) X _ (by simp) hq1).mono ?_);rintro e w6 A;obtain⟨i,rfl,lv6,sv6,j,m⟩:=A.ok';(have T6:=I.next i j m))
      |(go_fit (T6.knowsN g hgs Z);rintro e w7 A;obtain⟨hB7,rfl⟩:=A.no'))
     exact And.intro rfl (T6.stop hB7 (P.out.symm.trans (Qd ((Qe hq0).trans ((Qe hq1).trans (Qbo hV Z))))))
 ·have Tw:=(((((((((N.out.over hB12).aside (b:=Y.heap.size) (Nat.le_of_lt C) (Xf y (Nat.le_of_lt J)) (Nat.ne_of_gt C) (N.out.step.fresh Xl) 0 (.string m1)).aside (b:=Y.heap.size) (Nat.le_of_lt C) (Xf y (Nat.le_of_lt J)) (Nat.ne_of_gt C) (N.out.step.fresh Xl) 1 (.string m2)).aside (b:=Y.heap.size) (Nat.le_of_lt C) (Xf y (Nat.le_of_lt J)) (Nat.ne_of_gt C) (N.out.step.fresh Xl) 2 (.bool m3)).aside (b:=Y.heap.size) (Nat.le_of_lt C) (Xf y (Nat.le_of_lt J)) (Nat.ne_of_gt C) (N.out.step.fresh Xl) 3 (.bool m4)).aside (b:=Y.heap.size) (Nat.le_of_lt C) (Xf y (Nat.le_of_lt J)) (Nat.ne_of_gt C) (N.out.step.fresh Xl) 4 (.bool m5)).aside (b:=Y.heap.size) (Nat.le_of_lt C) (Xf y (Nat.le_of_lt J)) (Nat.ne_of_gt C) (N.out.step.fresh Xl) 5 (.int .i64 m6)).aside (b:=Y.heap.size) (Nat.le_of_lt C) (Xf y (Nat.le_of_lt J)) (Nat.ne_of_gt C) (N.out.step.fresh Xl) 6 (.slice m7 m8 m9)).aside (b:=Y.heap.size) (Nat.le_of_lt C) (Xf y (Nat.le_of_lt J)) (Nat.ne_of_gt C) (N.out.step.fresh Xl) 7 (.slice aA aB aC));generalize ((((((((w2.setCell ⟨Y.heap.size,0,none⟩ (.string m1)).setCell ⟨Y.heap.size,1,none⟩ (.string m2)).setCell ⟨Y.heap.size,2,none⟩ (.bool m3)).setCell ⟨Y.heap.size,3,none⟩ (.bool m4)).setCell ⟨Y.heap.size,4,none⟩ (.bool m5)).setCell ⟨Y.heap.size,5,none⟩ (.int .i64 m6)).setCell ⟨Y.heap.size,6,none⟩ (.slice m7 m8 m9)).setCell ⟨Y.heap.size,7,none⟩ (.slice aA aB aC))=W at *;have E:=Xh Tw;obtain⟨i0,i1,i2,i3,i4,i5⟩:=Tw.cells;clear Tw k0 k1 k3 k4 k5 N HFO q0 q1;go_upto_region 3 with(first
   |(go_fit (HT.out _);rintro e wq⟨rfl,rfl⟩))
  cases hm:Zm D with
  |none =>
   rw[hm]at P HD;have hre:=P.out;go_wp2_with (first
    |(go_fit (HD.out _);rintro e w3⟨q,rfl⟩)
    |(go_fit (HF.out _);rintro e wq⟨rfl,rfl⟩))
   exact And.intro rfl (E.out.stop (E.out.step.over q) hre.symm)
  |some p =>
   obtain⟨args,g⟩:=p;rw[hm]at P HD;obtain⟨hsa,z⟩:=QQ hm;have hl5:=ZS hm;have hgs:g.size<=maxLen:=Xf z (Xf hty (by decide));have R:∀k∈args.reverse,k.size<=maxLen:=fun k hk=>Xf (hsa k (List.mem_reverse.1 hk)) (Xf hty (by decide))
   have T:args.reverse.length<=4194304:=(by rw[List.length_reverse];omega);have hl6:args.length<=9223372036854775807:=(by omega);dsimp only at P;go_upto_region 5 with(first
    |(go_fit (HD.out _);rintro e w3⟨q,v,rfl,t⟩;obtain⟨vp,vc,rfl⟩:=qe t)
    |(go_fit (HT.out _);rintro e wq⟨rfl,rfl⟩))
   have T3:=E.out.over q;have G:∀b,(Value.slice vp args.length vc).ownBlock=some b->W.heap.size<=b/\b<w3.heap.size:=fun b n=>t.lt b n
   go_upto_region 6 with(first
    |(go_fit (qaR t rfl hl6);rintro e w4⟨rfl,hO4,hg4⟩))
   have U:=T3.grown hg4 T3.step.size (fun b n=>⟨Xf E.out.below.size (G b n).1,Xf E.out.step.size (G b n).1,Nat.ne_of_gt (Nat.lt_of_lt_of_le E.out.box.lt (G b n).1),E.out.step.fresh (G b n).1⟩);have V:Zau w4 (.slice vp args.length vc) args.reverse sb lv sv:=⟨Ze (l:=args.reverse) (by rw[List.length_reverse];exact hO4),fun b n=>⟨(hO4.lt b n).2,E.out.step.fresh (G b n).1⟩⟩;obtain⟨i0,i1,i2,i3,i4,i5⟩:=U.cells;clear T3 E q t hg4 HD hsa z hl5 hl6 hm;cases hV:(g.toList==[86]) with
   |true =>
    go_wp2_with (first
     |(go_at_call 139;rcases hq0:zh (Za l) args.reverse S with _|S1;(with_reducible refine(U.takeAN x args.reverse _ V R T hq0).mono ?_);(rintro e w5 A;obtain⟨M,rfl⟩:=A.no';exact And.intro rfl (U.stop M (P.out.symm.trans (Qd (qu hq0)))));(with_reducible refine(U.takeAY x args.reverse _ V R T hq0).mono ?_);rintro e w5 A;obtain⟨c,rfl,lv5,sv5,d,f⟩:=A.ok';(have O:=U.next c d f);(have H:=Qj hq0 x);obtain⟨i0,i1,i2,i3,i4,i5⟩:=O.cells)
     |(go_fit (HTh.out _);rintro e wq⟨rfl,rfl⟩)
     |(go_at_call 139;(have I:=O.alloc (.cells #[.string (Zd cls)] 9));rcases hq1:zh (Za l) [Zd cls] S1 with _|S2;(with_reducible refine(O.takeON H (Zd cls) X _ (by simp) hq1).mono ?_);(rintro e w6 A;obtain⟨M,rfl⟩:=A.no';exact And.intro rfl (I.stop M (P.out.symm.trans (Qd ((Qe hq0).trans (qu hq1))))));(with_reducible refine(O.takeOY H (Zd cls) X _ (by simp) hq1).mono ?_);rintro e w6 A;obtain⟨i,rfl,lv6,sv6,j,m⟩:=A.ok';(have T6:=I.next i j m)))
    go_end0;exact T6.done (P.out.symm.trans (Zl ((Qe hq0).trans ((Qe hq1).trans (ZbW hV)))))
   |false =>
    by_cases Z:zd (Za l) g=0
    ·go_wp2_with (first
      |(go_at_call 139;rcases hq0:zh (Za l) args.reverse S with _|S1;(with_reducible refine(U.takeAN x args.reverse _ V R T hq0).mono ?_);(rintro e w5 A;obtain⟨M,rfl⟩:=A.no';exact And.intro rfl (U.stop M (P.out.symm.trans (Qd (qu hq0)))));(with_reducible refine(U.takeAY x args.reverse _ V R T hq0).mono ?_);rintro e w5 A;obtain⟨c,rfl,lv5,sv5,d,f⟩:=A.ok';(have O:=U.next c d f);(have H:=Qj hq0 x);obtain⟨i0,i1,i2,i3,i4,i5⟩:=O.cells)
      |(go_fit (HTh.out _);rintro e wq⟨rfl,rfl⟩)
      |(go_at_call 139;(have I:=O.alloc (.cells #[.string (Zd cls)] 9));rcases hq1:zh (Za l) [Zd cls] S1 with _|S2;(with_reducible refine(O.takeON H (Zd cls) X _ (by simp) hq1).mono ?_);(rintro e w6 A;obtain⟨M,rfl⟩:=A.no';exact And.intro rfl (I.stop M (P.out.symm.trans (Qd ((Qe hq0).trans (qu hq1))))));(with_reducible refine(O.takeOY H (Zd cls) X _ (by simp) hq1).mono ?_);rintro e w6 A;obtain⟨i,rfl,lv6,sv6,j,m⟩:=A.ok';(have T6:=I.next i j m))
      |(go_fit (T6.knowsY g hgs Z);rintro e w7 A;obtain⟨hB7,rfl,lv7,sv7,hS7,hk7⟩:=A.ok';(have T7:=T6.next hB7 hS7 hk7))
      |(go_at_call 136;rcases hq2:ZK S2 g with _|S3;(with_reducible refine(T7.putN g hq2).mono ?_);(rintro e w8 A;obtain⟨M,rfl⟩:=A.no';exact And.intro rfl (T7.stop M (P.out.symm.trans (Qd ((Qe hq0).trans ((Qe hq1).trans (Qa6 hV Z hq2)))))));(with_reducible refine(T7.putY g hq2).mono ?_);rintro e w8 A;obtain⟨hB8,rfl,lv8,sv8,hS8,hk8⟩:=A.ok';(have T8:=T7.next hB8 hS8 hk8)))
     go_end0;exact T8.done (P.out.symm.trans (Zl ((Qe hq0).trans ((Qe hq1).trans (za7 hV Z hq2)))))
    ·go_wp2_with (first
      |(go_at_call 139;rcases hq0:zh (Za l) args.reverse S with _|S1;(with_reducible refine(U.takeAN x args.reverse _ V R T hq0).mono ?_);(rintro e w5 A;obtain⟨M,rfl⟩:=A.no';exact And.intro rfl (U.stop M (P.out.symm.trans (Qd (qu hq0)))));(with_reducible refine(U.takeAY x args.reverse _ V R T hq0).mono ?_);rintro e w5 A;obtain⟨c,rfl,lv5,sv5,d,f⟩:=A.ok';(have O:=U.next c d f);(have H:=Qj hq0 x);obtain⟨i0,i1,i2,i3,i4,i5⟩:=O.cells)
      |(go_fit (HTh.out _);rintro e wq⟨rfl,rfl⟩)
      |(go_at_call 139;(have I:=O.alloc (.cells #[.string (Zd cls)] 9));rcases hq1:zh (Za l) [Zd cls] S1 with _|S2;(with_reducible refine(O.takeON H (Zd cls) X _ (by simp) hq1).mono ?_);(rintro e w6 A;obtain⟨M,rfl⟩:=A.no';exact And.intro rfl (I.stop M (P.out.symm.trans (Qd ((Qe hq0).trans (qu hq1))))));(with_reducible refine(O.takeOY H (Zd cls) X _ (by simp) hq1).mono ?_);rintro e w6 A;obtain⟨i,rfl,lv6,sv6,j,m⟩:=A.ok';(have T6:=I.next i j m))
      |(go_fit (T6.knowsN g hgs Z);rintro e w7 A;obtain⟨hB7,rfl⟩:=A.no'))
     exact And.intro rfl (T6.stop hB7 (P.out.symm.trans (Qd ((Qe hq0).trans ((Qe hq1).trans (Qbo hV Z))))))
set_option maxRecDepth 512
end Go.Proofs.YtlmfmioljeppfaaGreatDoor
