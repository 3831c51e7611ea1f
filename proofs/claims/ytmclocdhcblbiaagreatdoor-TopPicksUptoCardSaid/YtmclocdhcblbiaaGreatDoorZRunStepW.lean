/- Lemmas; conditions: as each states. -/
import Derived.Test.YtmclocdhcblbiaaGreatDoorZRunDefer
set_option maxHeartbeats 4000000
namespace Go.Proofs.YtmclocdhcblbiaaGreatDoor
open Go.RowKit Go.Shelf Go.Lib Tryz
def Qd1(w0 wr:World)(X:Nat->Prop)(kb B:Nat)(st:Int)(o:Out)(e:Ending)(w':World):Prop :=
 (o=.full/\(∃older,e=.panicked (Zat 4::older)/\older.dropWhile (!·.goexit)=[])/\Chg X wr w')\/(o≠.full/\QaN w0 wr X kb B st o e w')
def Zfk(bx:Nat):Deferred:={ target:=.fn (Fn.func 80) #[.pointer (some ⟨bx,0,none⟩)],args:=#[] }
theorem qfr{w:World}{v:Value}{l:List Ins}{i:Nat}{x:Ins}(h:Qe w 6 Zv v l)(A:l[i]? = some x):∃b o n c,v=.slice (some ⟨b,o,none⟩) n c/\w.cell? ⟨b,o+i*6,none⟩=some (.int .i64 x.op)/\w.cell? ⟨b,o+i*6+1,none⟩=some (.int .i64 x.a)/\w.cell? ⟨b,o+i*6+2,none⟩=some (.int .i64 x.b)/\w.cell? ⟨b,o+i*6+3,none⟩=some (.string x.type)/\w.cell? ⟨b,o+i*6+4,none⟩=some (.string x.cls)/\w.cell? ⟨b,o+i*6+5,none⟩=some (.string x.name)/\i<n:=by
 have B:=(List.getElem?_eq_some_iff.1 A).1;rcases h with⟨_,e⟩|⟨a,cap,rfl,_,_,M⟩
 ·subst e;cases B
 ·obtain⟨vs,C,_,D,E⟩:=M i x A;unfold Zv at C;subst C;obtain⟨F,G,H,I,J,L,_⟩:=E;exact⟨a.block,a.off,l.length,cap,by rw[<-D],F,G,H,I,J,L,B⟩
theorem zbe{cs:List qa}{h:List Zc}{c:Cal}{r:List Cal}{x:Ins}(A:c.m.code[c.pc]? = some x):zaE cs ⟨h,c::r⟩ =
 if x.op=24\/x.op=25 then zaC cs h c x r
 else if x.op=26 then qbN h v0 r
 else if x.op=27 then qbN h (Qj c.S) r
 else if x.op=28 then (if (Qj c.S).n<=0 then QM cs h (c::r) else zb9 cs h (Qj c.S) (c::r))
 else match zao c.pc x c.L c.S with
  |none=>QM cs h (c::r)
  |some (pc,L,S)=>match qO cs h x S with
   |.fault=>QM cs h (c::r)
   |.full=>.full
   |.ok h S=>.on ⟨h,{ c with pc:=pc,L:=L,S:=S }::r⟩:=by
 unfold zaE;dsimp only;rw[A];all_goals
  dsimp only;cases zao c.pc x c.L c.S with
  |none=>rfl
  |some p =>
   obtain⟨n,L,S⟩:=p;dsimp only;cases qO cs h x S<;>rfl
section
variable {l:List qa} {w00 w0 w w1 w':World} {X:Nat->Prop} {kb B bx:Nat} {st:Int} {o:Out} {tmps:Array Value}
theorem QaN.unbox{E:Nat->Prop}{v:Value}(F:∀A C ps qs G H st I,MW w0 w1 E w' kb B A C ps qs G H st I->MW w0 w X w' kb B A C ps qs G H st I)(h:QaN w0 w1 E kb B st o (.returned v) w'):QaN w0 w X kb B st o (.returned (.tuple #[])) w':=by
 cases o with
 |full=>cases h.1
 |on k=>obtain⟨_,A,C,ps,qs,U,D⟩:=h;exact⟨rfl,A,C,ps,qs,F _ _ _ _ _ _ _ _ U,D⟩
 |ends v t=>obtain⟨_,J,A,C,ps,qs,U,D⟩:=h;exact⟨rfl,J,A,C,ps,qs,F _ _ _ _ _ _ _ _ U,D⟩
theorem qax{A:Nat->Prop}{v:Value}(H:∀w' C D ps qs E F st G,MW w0 w1 A w' kb B C D ps qs E F st G->MW w0 w X w' kb B C D ps qs E F st G)(h:zag l w0 w1 A kb B st o (.returned v) w'):
 Leaves prog Tryz.f54 tmps (Qd1 w0 w X kb B st o) [Zfk bx] .returning w':=by
 rcases h with⟨h,_⟩|⟨h,_⟩|⟨J,L⟩
 ·cases h
 ·cases h
 ·refine leaves_cons (f:=80) (args:=#[.pointer (some ⟨bx,0,none⟩)]) (by simp) (by simp[go_sem]) ?_;refine(qdW _ w').mono ?_;rintro e M I⟨rfl,rfl,rfl⟩;exact⟨.tuple #[],by simp[results,results54],Or.inr ⟨J,L.unbox (H _)⟩⟩
theorem zcH{wr:World}{C D:Value}{ps:List (Zc×Value)}{qs:List Zs}{q:Zs}(T:MW w0 wr X w kb B C D ps (qs++[q]) v0 ⟨#[]⟩ st false)(v:Val)(H:∀p∈qs,p.c.pc<=4194304/\p.c.S.length<=4194304)(A:qs.length<=20):
 Calls prog 85 #[.pointer (some ⟨kb,0,none⟩),.agg #[.int .i64 v.kind,.int .i64 v.n]] w fun e w'=>e=.returned (.tuple #[])/\QaN w0 wr X kb B st (qbN (ps.map (·.1)) v (qs.map (·.c)).reverse) (.returned (.tuple #[])) w':=by
 rcases List.eq_nil_or_concat qs with rfl|⟨r,G,rfl⟩
 ·exact(zd2 w0 w kb B C D ps q v0 ⟨#[]⟩ st false T.at' v).mono fun e w' ⟨E,F⟩=>⟨E,rfl,_,QaC.into T F⟩
 ·rw[List.concat_eq_append]at *;obtain⟨J,L⟩:=H G (by simp);refine(zeD w0 w kb B C D ps r G q v0 ⟨#[]⟩ st false T.at' v J L (by rw[List.length_append]at A;simp at A;omega)).mono fun e w' ⟨E,F⟩=>⟨E,?_⟩
  rw[za0];refine⟨rfl,?_⟩;have I:=QaC.into T F;simpa using I
theorem zch{h:List Zc}{v:Val}{r:List Cal}:qbN h v r≠.full:=by
 cases r with
 |nil=>exact fun h=>by cases h
 |cons c r=>exact fun h=>by cases h
theorem ZbY{A:Nat->Prop}(C:o≠.full)(D:QaN w0 w1 A kb B st o (.returned (.tuple #[])) w'):zag l w0 w1 A kb B st o (.returned (.tuple #[])) w':=Or.inr (Or.inr ⟨C,D⟩)
theorem Qc1{C:Nat->Prop}(h:zag l w0 w1 C kb B st o .outgrown w'):False:=by
 rcases h with⟨h,_⟩|⟨h,_⟩|⟨D,A⟩
 ·cases h
 ·cases h
 ·cases o with
  |full=>exact D rfl
  |on k=>cases A.1
  |ends v t=>cases A.1
theorem ZaI{A:Nat->Prop}{P:List PanicEntry}(Y:qh w00 w0 B l)(Z:∀w' D E ps qs S T st V,MW w0 w1 A w' kb B D E ps qs S T st V->MW w0 w X w' kb B D E ps qs S T st V)(R:∀w',Chg A w1 w'->Chg X w w')(G:∀w' J L M N tv' th' st' ov',MW w0 w1 A w' kb B J L M N tv' th' st' ov'->Blk w' bx 79 [.pointer (some ⟨kb,0,none⟩)])(h:zag l w0 w1 A kb B st o (.panicked P) w'):
 Leaves prog Tryz.f54 tmps (Qd1 w0 w X kb B st o) [Zfk bx] (.panicking P) w':=by
 rcases h with⟨h,D,E,ps,qs,U,O,F,b,c⟩|⟨h,d,rfl⟩|⟨O,F⟩
 ·injection h with h
  subst h;refine leaves_cons (f:=80) (args:=#[.pointer (some ⟨bx,0,none⟩)]) (by simp) (by simp[go_sem]) ?_;refine(ZdC w00 w0 w' kb B D E ps qs st w1 A U l Y F b c bx G).mono ?_;rw[O];rintro e a H⟨rfl,⟨I,rfl,C⟩|⟨I,rfl,C⟩⟩
  ·exact Or.inl ⟨I,⟨[{ Qaf with recovered:=true }],rfl,rfl⟩,R _ C⟩
  ·exact⟨.tuple #[],by simp[results,results54],Or.inr ⟨I,C.unbox (Z _)⟩⟩
 ·injection h with h
  subst h;refine leaves_cons (f:=80) (args:=#[.pointer (some ⟨bx,0,none⟩)]) (by simp) (by simp[go_sem]) ?_;refine(QdW _ w').mono ?_;rintro e a H⟨rfl,rfl,C⟩;exact Or.inl ⟨rfl,⟨[{ Zat 4 with recovered:=true }],rfl,rfl⟩,R _ (d.on C)⟩
 ·cases o with
  |full=>exact absurd rfl O
  |on k=>cases F.1
  |ends v t=>cases F.1
end
theorem zc2{pc:Nat}{x:Ins}{L S:List Val}(h:15<=x.op):zao pc x L S=some (pc+1,L,S):=by
 unfold zao;repeat rw[if_neg (by omega)]
theorem Zd2{cs:List qa}{h:List Zc}{x:Ins}{S:List Val}(A:x.op<=14):qO cs h x S=.ok h S:=by
 unfold qO;repeat rw[if_neg (by omega)]
theorem qd2{pc:Nat}{x:Ins}{L S:List Val}{r:Nat×List Val×List Val}(h:zao pc x L S=some r):r.2.2.length<=S.length+2:=by
 unfold zao at h;dsimp only at h;by_cases G:x.op=2
 ·rw[if_pos G]at h;injection h with h
  subst h;simp<;>omega
 rw[if_neg G]at h;by_cases H:x.op=3
 ·rw[if_pos H]at h;injection h with h
  subst h;simp<;>omega
 rw[if_neg H]at h;by_cases I:x.op=4
 ·rw[if_pos I]at h;injection h with h
  subst h;simp<;>omega
 rw[if_neg I]at h;by_cases J:x.op=5
 ·rw[if_pos J]at h;injection h with h
  subst h;simp<;>omega
 rw[if_neg J]at h;by_cases M:x.op=6
 ·rw[if_pos M]at h;injection h with h
  subst h;simp<;>omega
 rw[if_neg M]at h;by_cases N:x.op=7
 ·rw[if_pos N]at h;injection h with h
  subst h;simp<;>omega
 rw[if_neg N]at h;by_cases O:x.op=8
 ·rw[if_pos O]at h;injection h with h
  subst h;simp<;>omega
 rw[if_neg O]at h;by_cases P:x.op=9
 ·rw[if_pos P]at h;by_cases R:x.a=12
  ·rw[if_pos R]at h;by_cases A:ofB x.a 0=true
   ·rw[if_pos A]at h;injection h with h
    subst h;simp<;>omega
   ·rw[if_neg A]at h;cases h
  ·rw[if_neg R]at h;by_cases A:ofB x.a (Qj S).n=true
   ·rw[if_pos A]at h;injection h with h
    subst h;simp<;>omega
   ·rw[if_neg A]at h;cases h
 rw[if_neg P]at h;by_cases B:x.op=10
 ·rw[if_pos B]at h;injection h with h
  subst h;simp<;>omega
 rw[if_neg B]at h;by_cases C:x.op=11
 ·rw[if_pos C]at h;injection h with h
  subst h;simp<;>omega
 rw[if_neg C]at h;by_cases D:x.op=12
 ·rw[if_pos D]at h;injection h with h
  subst h;simp<;>omega
 rw[if_neg D]at h;by_cases E:x.op=13
 ·rw[if_pos E]at h;injection h with h
  subst h;simp<;>omega
 rw[if_neg E]at h;by_cases F:x.op=14
 ·rw[if_pos F]at h;injection h with h
  subst h;simp<;>omega
 rw[if_neg F]at h;injection h with h
 subst h;simp
set_option maxRecDepth 100000
theorem zex(w00 w0 w:World)(kb B:Nat)(O cv:Value)(ps:List (Zc×Value))(qs:List Zs)(q:Zs)(st:Int)(M:Qk w0 w kb B O cv ps (qs++[q]) v0 ⟨#[]⟩ st false)(l:List qa)(hm:qh w00 w0 B l)(hh:Zy (Za l) (ps.map (·.1))=0)(h20:qs.length+1<=20)(hho:∀p∈qs++[q],∀h∈p.c.m.handlers,QY h)(hwa:∀p∈qs,p.c.pc<=4194304/\p.c.S.length<=4194304)(x:Ins)(F:Zec l (ps.map (·.1)) q.c x)(hts:x.type.size<=1048576):
 Calls prog 54 #[.pointer (some ⟨kb,0,none⟩)] w (Qd1 w0 w (XS kb O cv ps (qs++[q])) kb B st (zaE (Za l) ⟨ps.map (·.1),q.c::(qs.map (·.c)).reverse⟩)):=by
 generalize ho:zaE (Za l) ⟨ps.map (·.1),q.c::(qs.map (·.c)).reverse⟩=o;obtain⟨J,a,b,t,cls,name⟩:=x;obtain⟨g,cap,hcv,-,-,-,hcap,hmax⟩:=M.last;have hmf:∀(fn:Fn) (first cap:Array Value) (w:World),(Instr.makeFunc fn first cap).run prog w=.ok (.func fn first cap) w:=fun _ _ _ _=>rfl
 obtain⟨w1,hw1⟩:∃w1,w.alloc (.cells #[.pointer (some ⟨kb,0,none⟩)] 79)=w1:=⟨_,rfl⟩;obtain⟨X1,U1,P,I,-,-,aB⟩:=M.start.boxes hw1;have HM:=Xh hm;have Z:=Xh F;generalize XS kb O cv ps (qs++[q])=X at *;subst hcv;have A:=Xh F.code;obtain⟨hsl,-⟩:=M.meth q (by simp);obtain⟨g',cap',he,c0,-⟩:=U1.at'.last;obtain⟨rfl,rfl⟩:g=g'/\cap=cap':=by simpa using he
 have b0:w1.cell? ⟨w.heap.size,0,none⟩=some (.pointer (some ⟨kb,0,none⟩)):=(I.out _ _ _ _ _ _ _ _ _ U1).cell 0;have p2:=U1.at'.cells.2.2.1;have i1:(0:Int)<=(qs.length:Int):=by omega
 have i2:(qs.length:Int)<(qs.length:Int)+1:=by omega
 have z2:IntKind.i64.wrap (qs.length:Int)=(qs.length:Int):=IntWalk.i64_in _ (by omega);have HW1:=Xh hw1;have HU1:=Xh U1;have i:=Xh hsl;have Hh:=Xh hh;have H20:=Xh h20;have k:=Xh hho;have HWa:=Xh hwa;clear he hcap hmax M hm F U1 hw1 hsl hh h20 hho hwa;go_enter_defers func54,ntmps54
 go_upto_region 2 with fail;rw[HW1.out];go_quiet (fail);have U2:=HU1.out.step (below_drewN Xb nq);clear c0 p2 i1 i2 z2 b0 HU1;generalize w1.drewN nq=w2 at *;have hslw:=i.out.mono U2.at'.below (by decide) (fun _ _ h=>h);obtain⟨cb0,co,cn,cc,hqv,y0,y1,y2,y3,y4,y5,hpn⟩:=qfr hslw A.out;dsimp only at y0 y1 y2 y3 y4 y5;have b0:w2.cell? ⟨w.heap.size,0,none⟩=some (.pointer (some ⟨kb,0,none⟩)):=(I.out _ _ _ _ _ _ _ _ _ U2).cell 0;have p7:w2.cell? ⟨q.cb,7,none⟩=some (.slice (some ⟨cb0,co,none⟩) cn cc):=by rw[<-hqv];exact U2.at'.top.blk.cell 7
 have p9:w2.cell? ⟨q.cb,9,none⟩=some (.int .i64 q.c.pc):=U2.at'.top.blk.cell 9;have i3:(0:Int)<=(q.c.pc:Int):=by omega
 have i4:(q.c.pc:Int)<(cn:Int):=by omega
 have HU2:=Xh U2;clear hslw hqv hpn U2;go_upto_region 3 with fail;go_region_held3 (fun w'=>w'.cell? ⟨q.cb,7,none⟩=some (.slice (some ⟨cb0,co,none⟩) cn cc)/\w'.cell? ⟨q.cb,9,none⟩=some (.int .i64 q.c.pc)/\w'.cell? ⟨cb0,co+q.c.pc*6,none⟩=some (.int .i64 J)/\w'.cell? ⟨cb0,co+q.c.pc*6+1,none⟩=some (.int .i64 a)/\w'.cell? ⟨cb0,co+q.c.pc*6+2,none⟩=some (.int .i64 b)/\w'.cell? ⟨cb0,co+q.c.pc*6+3,none⟩=some (.string t)/\w'.cell? ⟨cb0,co+q.c.pc*6+4,none⟩=some (.string cls)/\w'.cell? ⟨cb0,co+q.c.pc*6+5,none⟩=some (.string name)) (go_keep) (first|fail)
 have Y:=(HU2.out.alloc (.cells #[.int .i64 J,.int .i64 a,.int .i64 b,.string t,.string cls,.string name] 34)).drew;have T:=(Blk.new w2 34 [.int .i64 J,.int .i64 a,.int .i64 b,.string t,.string cls,.string name]).step Xb.drew;have HD3:Hid (w2.heap.size<(w2.alloc (.cells #[.int .i64 J,.int .i64 a,.int .i64 b,.string t,.string cls,.string name] 34)).drew.heap.size):=T.lt;have HN2:Hid (∀r,qY kb O (.slice (some ⟨g,0,none⟩) (qs.length+1) cap) ps (qs++[q]) r≠some w2.heap.size):=fun r hr=>by have:=(HU2.out.at'.lt r _ hr).2;omega
 clear b0 p7 p9 y0 y1 y2 y3 y4 y5 i3 i4 HU2;generalize (w2.alloc (.cells #[.int .i64 J,.int .i64 a,.int .i64 b,.string t,.string cls,.string name] 34)).drew=R at *;generalize w2.heap.size=ib at *;obtain⟨x0,x1,x2,x3,x4,x5⟩:=T.cells6;have b0:R.cell? ⟨w.heap.size,0,none⟩=some (.pointer (some ⟨kb,0,none⟩)):=(I.out _ _ _ _ _ _ _ _ _ Y).cell 0;have N:=zbe (cs:=Za l) (h:=ps.map (·.1)) (r:=(qs.map (·.c)).reverse) A.out;rw[ho]at N;by_cases h24:J=24
 ·subst h24;clear N;have HInv:Hid (Calls prog 84 #[.pointer (some ⟨kb,0,none⟩),.pointer (some ⟨q.cb,0,none⟩),.agg #[.int .i64 24,.int .i64 a,.int .i64 b,.string t,.string cls,.string name]] R (zag l w0 w1 X1 kb B st o)):=by
   obtain⟨args,ret,T0,given,cf,mf,hF⟩:=Z.out.call (Or.inl rfl);have hd:=Z.out.deep;have h:=Qcf w0 R kb B O _ ps qs q st w1 X1 Y (by omega) w00 l HM.out Hh.out H20.out k.out ⟨24,a,b,t,cls,name⟩ hts (Or.inl rfl) args ret T0 given cf mf hF;rw[<-ho,zbe A.out,if_pos (Or.inl rfl)];exact h
  clear A i Y T;go_wp2_with (go_fit HInv.out;rintro(v|ch|_) w5 hB)
  all_goals first
   |exact qax P.out hB
   |exact ZaI HM.out P.out aB.out I.out hB
   |exact(Qc1 hB).elim
 by_cases h25:J=25
 ·subst h25;clear N h24;have HInv:Hid (Calls prog 84 #[.pointer (some ⟨kb,0,none⟩),.pointer (some ⟨q.cb,0,none⟩),.agg #[.int .i64 25,.int .i64 a,.int .i64 b,.string t,.string cls,.string name]] R (zag l w0 w1 X1 kb B st o)):=by
   obtain⟨args,ret,T0,given,cf,mf,hF⟩:=Z.out.call (Or.inr rfl);have hd:=Z.out.deep;have h:=Qcf w0 R kb B O _ ps qs q st w1 X1 Y (by omega) w00 l HM.out Hh.out H20.out k.out ⟨25,a,b,t,cls,name⟩ hts (Or.inr rfl) args ret T0 given cf mf hF;rw[<-ho,zbe A.out,if_pos (Or.inr rfl)];exact h
  clear A i Y T;go_wp2_with (go_fit HInv.out;rintro(v|ch|_) w5 hB)
  all_goals first
   |exact qax P.out hB
   |exact ZaI HM.out P.out aB.out I.out hB
   |exact(Qc1 hB).elim
 by_cases h26:J=26
 ·subst h26;clear N h24 h25;have hd:=Z.out.deep;have HLv:Hid (Calls prog 85 #[.pointer (some ⟨kb,0,none⟩),.agg #[.int .i64 0,.int .i64 0]] R fun e w'=>e=.returned (.tuple #[])/\zag l w0 w1 X1 kb B st o (.returned (.tuple #[])) w'):=(zcH Y v0 HWa.out (by have:=H20.out;omega)).mono fun e w' ⟨h1,f⟩=>⟨h1,by
   rw[<-ho,zbe A.out,if_neg (show ¬((26:Int)=24\/(26:Int)=25) by decide),if_pos (show(26:Int)=26 from rfl)];exact ZbY zch f⟩
  clear A i Y T hd;go_wp2_with (go_fit HLv.out;rintro e w5⟨rfl,hB⟩)
  exact qax P.out hB
 by_cases h27:J=27
 ·subst h27;clear N h24 h25 h26;have HS:=Xh (zaw (Z.out.one (Or.inl rfl)));have HLv:Hid (∀wx sv,MW w0 w1 X1 wx kb B O (.slice (some ⟨g,0,none⟩) (qs.length+1) cap) ps (qs++[⟨q.cb,q.cv,q.hv,q.lv,sv,{ q.c with S:=q.c.S.dropLast }⟩]) v0 ⟨#[]⟩ st false->Calls prog 85 #[.pointer (some ⟨kb,0,none⟩),.agg #[.int .i64 (Qj q.c.S).kind,.int .i64 (Qj q.c.S).n]] wx fun e w'=>e=.returned (.tuple #[])/\zag l w0 w1 X1 kb B st o (.returned (.tuple #[])) w'/\w'.cell? ⟨w.heap.size,0,none⟩=some (.pointer (some ⟨kb,0,none⟩))):=fun wx sv U=>(zcH U (Qj q.c.S) HWa.out (by have:=H20.out;omega)).mono fun e w' ⟨h1,f⟩=>⟨h1,by
   rw[<-ho,zbe A.out,if_neg (show ¬((27:Int)=24\/(27:Int)=25) by decide),if_neg (show ¬(27:Int)=26 by decide),if_pos (show(27:Int)=27 from rfl)];refine⟨ZbY zch f,?_⟩;obtain⟨_,_,_,_,_,_,_,U'⟩:=f.keeps;exact(I.out _ _ _ _ _ _ _ _ _ U').cell 0⟩
  have HPo:=Xh (Y.drew.pop HS.out);clear A i Y T;go_upto_region 14 with fail;go_region_held3 (fun w'=>w'.cell? ⟨w.heap.size,0,none⟩=some (.pointer (some ⟨kb,0,none⟩))) (go_keep)
   (first
    |(go_fit HPo.out;rintro e w4⟨rfl,-,sv4,U4⟩;(have z0:=(I.out _ _ _ _ _ _ _ _ _ U4).cell 0))
    |(go_fit (HLv.out _ _ U4);rintro e w5⟨rfl,hB,z1⟩))
  all_goals exact qax P.out hB
 by_cases h28:J=28
 ·subst h28;clear N h24 h25 h26 h27;have HS:=Xh (zaw (Z.out.one (Or.inr rfl)));have HPo:=Xh (Y.pop HS.out);have hO:o=if (Qj q.c.S).n<=0 then QM (Za l) (ps.map (·.1)) (q.c::(qs.map (·.c)).reverse) else zb9 (Za l) (ps.map (·.1)) (Qj q.c.S) (q.c::(qs.map (·.c)).reverse):=by
   rw[<-ho,zbe A.out,if_neg (show ¬((28:Int)=24\/(28:Int)=25) by decide),if_neg (show ¬(28:Int)=26 by decide),if_neg (show ¬(28:Int)=27 by decide),if_pos (show(28:Int)=28 from rfl)]
  by_cases hn0:(Qj q.c.S).n<=0
  ·rw[if_pos hn0]at hO;have HO:=Xh hO;have hd0:decide ((0:Int)<(Qj q.c.S).n)=false:=(by simp;omega);have HNd:Hid (∀wx,_):=fun wx=>ZY wx
   clear A i Y T hO hn0;go_upto_region 16 with fail;go_upto_region 17 with(go_fit HPo.out;rintro e w4⟨rfl,-,sv4,U4⟩)
   have U5:=U4.alloc (.cells #[.int .i64 (Qj q.c.S).kind,.int .i64 (Qj q.c.S).n] 43);have z1:(w4.alloc (.cells #[.int .i64 (Qj q.c.S).kind,.int .i64 (Qj q.c.S).n] 43)).cell? ⟨w4.heap.size,1,none⟩=some (.int .i64 (Qj q.c.S).n):=(Blk.new w4 43 [.int .i64 (Qj q.c.S).kind,.int .i64 (Qj q.c.S).n]).cell 1;generalize w4.alloc (.cells #[.int .i64 (Qj q.c.S).kind,.int .i64 (Qj q.c.S).n] 43)=w5 at *;go_wp2_with (go_at_call 87;(first|rw[hd0]|skip);(with_reducible refine(HNd.out _).mono ?_);rintro e wz⟨rfl,rfl⟩)
   refine ZaI HM.out P.out aB.out I.out (Or.inl ⟨rfl,_,_,ps,_,U5,?_,Hh,by simpa using H20.out,fun p d=>?_⟩)
   ·rw[HO.out,za0];exact ZbN _ _ _ _ _
   ·rcases List.mem_append.1 d with d|d
    ·exact k.out p (List.mem_append_left _ d)
    ·rw[List.mem_singleton.1 d];exact k.out q (by simp)
  ·have hn0:0<(Qj q.c.S).n:=(by omega);rw[if_neg (by omega)]at hO;have hd0:decide ((0:Int)<(Qj q.c.S).n)=true:=(by simp;omega);have HNd:Hid (∀wx,_):=fun wx=>Qaa wx
   have HTr:Hid (∀wx sv,MW w0 w1 X1 wx kb B O (.slice (some ⟨g,0,none⟩) (qs.length+1) cap) ps (qs++[⟨q.cb,q.cv,q.hv,q.lv,sv,{ q.c with S:=q.c.S.dropLast }⟩]) v0 ⟨#[]⟩ st false->Calls prog 81 #[.pointer (some ⟨kb,0,none⟩),.agg #[.int .i64 (Qj q.c.S).kind,.int .i64 (Qj q.c.S).n]] wx fun e w'=>e=.returned (.tuple #[])/\zag l w0 w1 X1 kb B st o (.returned (.tuple #[])) w'):=fun wx sv U=>by
    obtain⟨y,k1,k2,k3⟩:=Z.out.thrown rfl hn0;obtain⟨⟨py,pv⟩,hpy,hpe⟩:∃p,ps[(Qj q.c.S).n.toNat-1]? = some p/\p.1=y:=by
     rw[List.getElem?_map]at k1;cases d:ps[(Qj q.c.S).n.toNat-1]? with
     |none=>rw[d]at k1;cases k1
     |some p=>rw[d]at k1;exact⟨p,rfl,Option.some.inj k1⟩
    have hpe:py=y:=hpe;subst hpe;obtain⟨_,_,ty,hty⟩:=qK (Qi Hh.out py k2);have hn:(Qj q.c.S).n=(((Qj q.c.S).n.toNat-1:Nat):Int)+1:=(by omega);have h50:ps.length<=50:=(by have:=(z7 Hh.out).1;rwa [List.length_map]at this);have h:=QcD w00 w0 wx kb B O _ ps _ v0 ⟨#[]⟩ st false U.at' l HM.out (Qj q.c.S).kind ((Qj q.c.S).n.toNat-1) py pv hpy h50 ty hty.text (QaR (Qi Hh.out) py k2) k3 (fun p d=>by
     rcases List.mem_append.1 d with d|d
     ·exact k.out p (List.mem_append_left _ d)
     ·rw[List.mem_singleton.1 d];exact k.out q (by simp)) (by simpa using H20.out)
    rw[<-hn]at h;refine h.mono fun e w' ⟨h1,f⟩=>⟨h1,?_⟩
    have h3:=qcD U f;have hth:qj (ps.map (·.1)) (Qj q.c.S)=py:=Zbu k1;rw[za0,Zcg]at h3;have ho2:qF (Za l) (ps.map (·.1)) (qan py.type) (Qj q.c.S) (q.c::(qs.map (·.c)).reverse)=o:=by
     rw[hO];unfold zb9;rw[hth]
    have h4:qF (Za l) (ps.map (·.1)) (qan py.type) (⟨(Qj q.c.S).kind,(Qj q.c.S).n⟩:Val) (q.c::(qs.map (·.c)).reverse)=o:=ho2;rw[h4]at h3;exact ZbY (by rw[<-ho2];exact ZaR) h3
   clear A i Y T hO hn0;go_upto_region 16 with fail;go_upto_region 17 with(go_fit HPo.out;rintro e w4⟨rfl,-,sv4,U4⟩)
   have U5:=U4.alloc (.cells #[.int .i64 (Qj q.c.S).kind,.int .i64 (Qj q.c.S).n] 43);obtain⟨z0,z1⟩:=(Blk.new w4 43 [.int .i64 (Qj q.c.S).kind,.int .i64 (Qj q.c.S).n]).cells2;change (w4.alloc (.cells #[.int .i64 (Qj q.c.S).kind,.int .i64 (Qj q.c.S).n] 43)).cell? _=_ at z0 z1;generalize w4.alloc (.cells #[.int .i64 (Qj q.c.S).kind,.int .i64 (Qj q.c.S).n] 43)=w5 at *;have b5:w5.cell? ⟨w.heap.size,0,none⟩=some (.pointer (some ⟨kb,0,none⟩)):=(I.out _ _ _ _ _ _ _ _ _ U5).cell 0;go_wp2_with (first
    |(go_at_call 87;(first|rw[hd0]|skip);(with_reducible refine(HNd.out _).mono ?_);rintro e wz⟨rfl,rfl⟩)
    |(go_fit (HTr.out _ _ U5);rintro e w7⟨rfl,hB⟩))
   exact qax P.out hB
 rw[if_neg (by dsimp only;omega),if_neg (by dsimp only;omega),if_neg (by dsimp only;omega),if_neg (by dsimp only;omega)]at N;have n24:(J==24)=false:=by simpa using h24
 have n25:(J==25)=false:=by simpa using h25
 have n26:(J==26)=false:=by simpa using h26
 have n27:(J==27)=false:=by simpa using h27
 have n28:(J==28)=false:=by simpa using h28
 clear h24 h25 h26 h27 h28 ho;cases hP:zao q.c.pc ⟨J,a,b,t,cls,name⟩ q.c.L q.c.S with
 |none =>
  rw[hP]at N;have hO:o=QM (Za l) (ps.map (·.1)) (q.c::(qs.map (·.c)).reverse):=N;clear N;have hd:=Z.out.deep;have hpc:=Z.out.place;have j:¬XS kb O (.slice (some ⟨g,0,none⟩) (qs.length+1) cap) ps (qs++[q]) ib:=fun⟨r,hr⟩=>HN2.out r hr
  have HT3:Hid (∀w' D E G H tv' th' st' ov',MW w0 R (XS kb O (.slice (some ⟨g,0,none⟩) (qs.length+1) cap) ps (qs++[q])) w' kb B D E G H tv' th' st' ov'->MW w0 w1 X1 w' kb B D E G H tv' th' st' ov'):=fun w' D E G H tv' th' st' ov' U=>Y.then U
  have HI3:Hid (∀w' D E G H tv' th' st' ov',MW w0 R (XS kb O (.slice (some ⟨g,0,none⟩) (qs.length+1) cap) ps (qs++[q])) w' kb B D E G H tv' th' st' ov'->Blk w' ib 34 [.int .i64 J,.int .i64 a,.int .i64 b,.string t,.string cls,.string name]):=fun w' D E G H tv' th' st' ov' U=>U.blk T j
  have V:=qbj w0.heap.size R q.cb q.cv q.hv q.lv q.sv q.c Y.at'.top (by omega) (by omega) ⟨J,a,b,t,cls,name⟩ Z.out.plain Z.out.lo;rw[hP]at V;have HPl:Hid (Calls prog 88 #[.pointer (some ⟨q.cb,0,none⟩),.agg #[.int .i64 J,.int .i64 a,.int .i64 b,.string t,.string cls,.string name]] R fun e w'=>e=.panicked [Qaf]/\zag l w0 w1 X1 kb B st o (.panicked [Qaf]) w'):=V.mono fun e w' ⟨h1,S,f⟩=>⟨h1,by
   obtain⟨-,C,U⟩:=Y.cal (c':={ q.c with S:=S }) rfl f;refine Or.inl ⟨rfl,_,_,ps,_,U,?_,Hh,by simpa using H20.out,fun p d=>?_⟩
   ·rw[hO,za0];exact ZbN _ _ _ _ _
   ·rcases List.mem_append.1 d with d|d
    ·exact k.out p (List.mem_append_left _ d)
    ·rw[List.mem_singleton.1 d];exact k.out q (by simp)⟩
  clear A i Y T hd hpc j V hP hO;go_wp2_with (go_fit HPl.out;rintro e w4⟨rfl,hB⟩)
  exact ZaI HM.out P.out aB.out I.out hB
 |some p =>
  obtain⟨n1,s,z⟩:=p;rw[hP]at N;dsimp only at N;have hdeep:=Z.out.deep;have hS1:z.length<=4194304:=by have:=qd2 hP;dsimp only at this;omega
  have aA:zcj (Za l) (ps.map (·.1)) ⟨J,a,b,t,cls,name⟩ z:=by
   by_cases h15:15<=J
   ·have h:=zc2 (pc:=q.c.pc) (x:=⟨J,a,b,t,cls,name⟩) (L:=q.c.L) (S:=q.c.S) h15;rw[hP]at h;injection h with h
    injection h with _ h
    injection h with _ h
    rw[h];exact Z.out.heap
   ·exact⟨fun h=>by dsimp only at h;omega,fun h=>by dsimp only at h;omega,fun h=>by dsimp only at h;omega,fun h=>by dsimp only at h;omega,fun h=>by dsimp only at h;omega,fun h=>by dsimp only at h;omega,fun h=>by dsimp only at h;omega,fun h=>by dsimp only at h;omega,fun h=>by dsimp only at h;omega⟩
  cases hH:qO (Za l) (ps.map (·.1)) ⟨J,a,b,t,cls,name⟩ z with
  |ok f S2 =>
   rw[hH]at N;have hO:o=.on ⟨f,{ q.c with pc:=n1,L:=s,S:=S2 }::(qs.map (·.c)).reverse⟩:=N;clear N hdeep;have hd:=Z.out.deep;have hpc:=Z.out.place;have j:¬XS kb O (.slice (some ⟨g,0,none⟩) (qs.length+1) cap) ps (qs++[q]) ib:=fun⟨r,hr⟩=>HN2.out r hr
   have HT3:Hid (∀w' D E G H tv' th' st' ov',MW w0 R (XS kb O (.slice (some ⟨g,0,none⟩) (qs.length+1) cap) ps (qs++[q])) w' kb B D E G H tv' th' st' ov'->MW w0 w1 X1 w' kb B D E G H tv' th' st' ov'):=fun w' D E G H tv' th' st' ov' U=>Y.then U
   have HI3:Hid (∀w' D E G H tv' th' st' ov',MW w0 R (XS kb O (.slice (some ⟨g,0,none⟩) (qs.length+1) cap) ps (qs++[q])) w' kb B D E G H tv' th' st' ov'->Blk w' ib 34 [.int .i64 J,.int .i64 a,.int .i64 b,.string t,.string cls,.string name]):=fun w' D E G H tv' th' st' ov' U=>U.blk T j
   have V:=qbj w0.heap.size R q.cb q.cv q.hv q.lv q.sv q.c Y.at'.top (by omega) (by omega) ⟨J,a,b,t,cls,name⟩ Z.out.plain Z.out.lo;rw[hP]at V;have HPl:Hid (Calls prog 88 #[.pointer (some ⟨q.cb,0,none⟩),.agg #[.int .i64 J,.int .i64 a,.int .i64 b,.string t,.string cls,.string name]] R fun e w'=>e=.returned (.int .i64 (n1:Int))/\∃C,MW w0 R (XS kb O (.slice (some ⟨g,0,none⟩) (qs.length+1) cap) ps (qs++[q])) w' kb B O (.slice (some ⟨g,0,none⟩) (qs.length+1) cap) ps (qs++[⟨q.cb,q.cv,q.hv,q.lv,C,{ q.c with L:=s,S:=z }⟩]) v0 ⟨#[]⟩ st false):=V.mono fun e w' ⟨h1,f⟩=>⟨h1,by
    obtain⟨-,C,U⟩:=Y.at'.start.cal (c':={ q.c with L:=s,S:=z }) rfl f;exact⟨C,U⟩⟩
   have HHe:Hid (∀wx C,MW w0 R (XS kb O (.slice (some ⟨g,0,none⟩) (qs.length+1) cap) ps (qs++[q])) wx kb B O (.slice (some ⟨g,0,none⟩) (qs.length+1) cap) ps (qs++[⟨q.cb,q.cv,q.hv,q.lv,C,{ q.c with L:=s,S:=z }⟩]) v0 ⟨#[]⟩ st false->Calls prog 89 #[.pointer (some ⟨kb,0,none⟩),.pointer (some ⟨q.cb,0,none⟩),.agg #[.int .i64 J,.int .i64 a,.int .i64 b,.string t,.string cls,.string name]] wx (q8 w0 R (XS kb O (.slice (some ⟨g,0,none⟩) (qs.length+1) cap) ps (qs++[q])) kb B (.slice (some ⟨g,0,none⟩) (qs.length+1) cap) (ps.map (·.1)) qs ⟨q.cb,q.cv,q.hv,q.lv,C,{ q.c with L:=s,S:=z }⟩ v0 ⟨#[]⟩ st false (.ok f S2))):=fun wx C U=>by
    have h:=zbu w0 wx kb B O _ ps qs ⟨q.cb,q.cv,q.hv,q.lv,C,{ q.c with L:=s,S:=z }⟩ v0 ⟨#[]⟩ st false R _ U hS1 w00 l HM.out Hh.out ⟨J,a,b,t,cls,name⟩ aA;have f:qO (Za l) (ps.map (·.1)) ⟨J,a,b,t,cls,name⟩ (Zs.c ⟨q.cb,q.cv,q.hv,q.lv,C,{ q.c with L:=s,S:=z }⟩).S=(.ok f S2):=hH;rw[f]at h;exact h
   have HO:=Xh hO;unfold q8 at HHe;clear A i Y T hd hpc j V hP hH aA hS1 hO;go_upto_region 6 with(go_fit HPl.out;rintro e w4⟨rfl,sv4,U4⟩)
   obtain⟨x0,x1,x2,x3,x4,x5⟩:=(HI3.out _ _ _ _ _ _ _ _ _ U4).cells6;have b4:w4.cell? ⟨w.heap.size,0,none⟩=some (.pointer (some ⟨kb,0,none⟩)):=(I.out _ _ _ _ _ _ _ _ _ (HT3.out _ _ _ _ _ _ _ _ _ U4)).cell 0;go_upto_region 7 with(go_fit (HHe.out _ _ U4);rintro e w5⟨rfl,hv5,ps5,sv5,U5,hps⟩)
   have p9:w5.cell? ⟨q.cb,9,none⟩=some (.int .i64 q.c.pc):=U5.at'.top.blk.cell 9;have f9:w5.frozen? ⟨q.cb,9,none⟩=false:=U5.at'.top.blk.frozen 9;go_wp2_with fail;have C6:=U5.at'.top.moved n1;obtain⟨-,sv6,U6⟩:=U5.cal (c':={ q.c with pc:=n1,L:=s,S:=S2 }) rfl C6;refine qax (l:=l) P.out (ZbY (by rw[HO.out];exact fun h=>by cases h) ?_);rw[HO.out];exact⟨rfl,hv5,_,ps5,_,HT3.out _ _ _ _ _ _ _ _ _ U6,hps,by simp⟩
  |fault =>
   rw[hH]at N;have hO:o=QM (Za l) (ps.map (·.1)) (q.c::(qs.map (·.c)).reverse):=N;have hL1:s=q.c.L:=by
    by_cases h15:15<=J
    ·have h:=zc2 (pc:=q.c.pc) (x:=⟨J,a,b,t,cls,name⟩) (L:=q.c.L) (S:=q.c.S) h15;rw[hP]at h;injection h with h
     injection h with _ h
     injection h
    ·rw[Zd2 (show(⟨J,a,b,t,cls,name⟩:Ins).op<=14 by dsimp only;omega)]at hH;cases hH
   clear N hdeep;have hd:=Z.out.deep;have hpc:=Z.out.place;have j:¬XS kb O (.slice (some ⟨g,0,none⟩) (qs.length+1) cap) ps (qs++[q]) ib:=fun⟨r,hr⟩=>HN2.out r hr
   have HT3:Hid (∀w' D E G H tv' th' st' ov',MW w0 R (XS kb O (.slice (some ⟨g,0,none⟩) (qs.length+1) cap) ps (qs++[q])) w' kb B D E G H tv' th' st' ov'->MW w0 w1 X1 w' kb B D E G H tv' th' st' ov'):=fun w' D E G H tv' th' st' ov' U=>Y.then U
   have HI3:Hid (∀w' D E G H tv' th' st' ov',MW w0 R (XS kb O (.slice (some ⟨g,0,none⟩) (qs.length+1) cap) ps (qs++[q])) w' kb B D E G H tv' th' st' ov'->Blk w' ib 34 [.int .i64 J,.int .i64 a,.int .i64 b,.string t,.string cls,.string name]):=fun w' D E G H tv' th' st' ov' U=>U.blk T j
   have V:=qbj w0.heap.size R q.cb q.cv q.hv q.lv q.sv q.c Y.at'.top (by omega) (by omega) ⟨J,a,b,t,cls,name⟩ Z.out.plain Z.out.lo;rw[hP]at V;have HPl:Hid (Calls prog 88 #[.pointer (some ⟨q.cb,0,none⟩),.agg #[.int .i64 J,.int .i64 a,.int .i64 b,.string t,.string cls,.string name]] R fun e w'=>e=.returned (.int .i64 (n1:Int))/\∃C,MW w0 R (XS kb O (.slice (some ⟨g,0,none⟩) (qs.length+1) cap) ps (qs++[q])) w' kb B O (.slice (some ⟨g,0,none⟩) (qs.length+1) cap) ps (qs++[⟨q.cb,q.cv,q.hv,q.lv,C,{ q.c with L:=s,S:=z }⟩]) v0 ⟨#[]⟩ st false):=V.mono fun e w' ⟨h1,f⟩=>⟨h1,by
    obtain⟨-,C,U⟩:=Y.at'.start.cal (c':={ q.c with L:=s,S:=z }) rfl f;exact⟨C,U⟩⟩
   have HHe:Hid (∀wx C,MW w0 R (XS kb O (.slice (some ⟨g,0,none⟩) (qs.length+1) cap) ps (qs++[q])) wx kb B O (.slice (some ⟨g,0,none⟩) (qs.length+1) cap) ps (qs++[⟨q.cb,q.cv,q.hv,q.lv,C,{ q.c with L:=s,S:=z }⟩]) v0 ⟨#[]⟩ st false->Calls prog 89 #[.pointer (some ⟨kb,0,none⟩),.pointer (some ⟨q.cb,0,none⟩),.agg #[.int .i64 J,.int .i64 a,.int .i64 b,.string t,.string cls,.string name]] wx (q8 w0 R (XS kb O (.slice (some ⟨g,0,none⟩) (qs.length+1) cap) ps (qs++[q])) kb B (.slice (some ⟨g,0,none⟩) (qs.length+1) cap) (ps.map (·.1)) qs ⟨q.cb,q.cv,q.hv,q.lv,C,{ q.c with L:=s,S:=z }⟩ v0 ⟨#[]⟩ st false .fault)):=fun wx C U=>by
    have h:=zbu w0 wx kb B O _ ps qs ⟨q.cb,q.cv,q.hv,q.lv,C,{ q.c with L:=s,S:=z }⟩ v0 ⟨#[]⟩ st false R _ U hS1 w00 l HM.out Hh.out ⟨J,a,b,t,cls,name⟩ aA;have f:qO (Za l) (ps.map (·.1)) ⟨J,a,b,t,cls,name⟩ (Zs.c ⟨q.cb,q.cv,q.hv,q.lv,C,{ q.c with L:=s,S:=z }⟩).S=.fault:=hH;rw[f]at h;exact h
   have HO:=Xh hO;have HL:=Xh hL1;unfold q8 at HHe;clear A i Y T hd hpc j V hP hH aA hS1 hO hL1;go_upto_region 6 with(go_fit HPl.out;rintro e w4⟨rfl,sv4,U4⟩)
   obtain⟨x0,x1,x2,x3,x4,x5⟩:=(HI3.out _ _ _ _ _ _ _ _ _ U4).cells6;have b4:w4.cell? ⟨w.heap.size,0,none⟩=some (.pointer (some ⟨kb,0,none⟩)):=(I.out _ _ _ _ _ _ _ _ _ (HT3.out _ _ _ _ _ _ _ _ _ U4)).cell 0;go_wp2_with (go_fit (HHe.out _ _ U4);rintro e w5⟨rfl,hv5,ps5,sv5,S5,U5,hps⟩)
   refine ZaI HM.out P.out aB.out I.out (Or.inl ⟨rfl,_,_,ps5,_,HT3.out _ _ _ _ _ _ _ _ _ U5,?_,by rw[hps];exact Hh.out,by simpa using H20.out,fun p d=>?_⟩)
   ·rw[HO.out,za0,hps];rw[HL.out];exact ZbN _ _ _ _ _
   ·rcases List.mem_append.1 d with d|d
    ·exact k.out p (List.mem_append_left _ d)
    ·rw[List.mem_singleton.1 d];exact k.out q (by simp)
  |full =>
   rw[hH]at N;have hO:o=.full:=N;clear N hdeep;have hd:=Z.out.deep;have hpc:=Z.out.place;have j:¬XS kb O (.slice (some ⟨g,0,none⟩) (qs.length+1) cap) ps (qs++[q]) ib:=fun⟨r,hr⟩=>HN2.out r hr
   have HT3:Hid (∀w' D E G H tv' th' st' ov',MW w0 R (XS kb O (.slice (some ⟨g,0,none⟩) (qs.length+1) cap) ps (qs++[q])) w' kb B D E G H tv' th' st' ov'->MW w0 w1 X1 w' kb B D E G H tv' th' st' ov'):=fun w' D E G H tv' th' st' ov' U=>Y.then U
   have HI3:Hid (∀w' D E G H tv' th' st' ov',MW w0 R (XS kb O (.slice (some ⟨g,0,none⟩) (qs.length+1) cap) ps (qs++[q])) w' kb B D E G H tv' th' st' ov'->Blk w' ib 34 [.int .i64 J,.int .i64 a,.int .i64 b,.string t,.string cls,.string name]):=fun w' D E G H tv' th' st' ov' U=>U.blk T j
   have V:=qbj w0.heap.size R q.cb q.cv q.hv q.lv q.sv q.c Y.at'.top (by omega) (by omega) ⟨J,a,b,t,cls,name⟩ Z.out.plain Z.out.lo;rw[hP]at V;have HPl:Hid (Calls prog 88 #[.pointer (some ⟨q.cb,0,none⟩),.agg #[.int .i64 J,.int .i64 a,.int .i64 b,.string t,.string cls,.string name]] R fun e w'=>e=.returned (.int .i64 (n1:Int))/\∃C,MW w0 R (XS kb O (.slice (some ⟨g,0,none⟩) (qs.length+1) cap) ps (qs++[q])) w' kb B O (.slice (some ⟨g,0,none⟩) (qs.length+1) cap) ps (qs++[⟨q.cb,q.cv,q.hv,q.lv,C,{ q.c with L:=s,S:=z }⟩]) v0 ⟨#[]⟩ st false):=V.mono fun e w' ⟨h1,f⟩=>⟨h1,by
    obtain⟨-,C,U⟩:=Y.at'.start.cal (c':={ q.c with L:=s,S:=z }) rfl f;exact⟨C,U⟩⟩
   have HHe:Hid (∀wx C,MW w0 R (XS kb O (.slice (some ⟨g,0,none⟩) (qs.length+1) cap) ps (qs++[q])) wx kb B O (.slice (some ⟨g,0,none⟩) (qs.length+1) cap) ps (qs++[⟨q.cb,q.cv,q.hv,q.lv,C,{ q.c with L:=s,S:=z }⟩]) v0 ⟨#[]⟩ st false->Calls prog 89 #[.pointer (some ⟨kb,0,none⟩),.pointer (some ⟨q.cb,0,none⟩),.agg #[.int .i64 J,.int .i64 a,.int .i64 b,.string t,.string cls,.string name]] wx (q8 w0 R (XS kb O (.slice (some ⟨g,0,none⟩) (qs.length+1) cap) ps (qs++[q])) kb B (.slice (some ⟨g,0,none⟩) (qs.length+1) cap) (ps.map (·.1)) qs ⟨q.cb,q.cv,q.hv,q.lv,C,{ q.c with L:=s,S:=z }⟩ v0 ⟨#[]⟩ st false .full)):=fun wx C U=>by
    have h:=zbu w0 wx kb B O _ ps qs ⟨q.cb,q.cv,q.hv,q.lv,C,{ q.c with L:=s,S:=z }⟩ v0 ⟨#[]⟩ st false R _ U hS1 w00 l HM.out Hh.out ⟨J,a,b,t,cls,name⟩ aA;have f:qO (Za l) (ps.map (·.1)) ⟨J,a,b,t,cls,name⟩ (Zs.c ⟨q.cb,q.cv,q.hv,q.lv,C,{ q.c with L:=s,S:=z }⟩).S=.full:=hH;rw[f]at h;exact h
   have HO:=Xh hO;have HC3:Hid (∀w',Chg (XS kb O (.slice (some ⟨g,0,none⟩) (qs.length+1) cap) ps (qs++[q])) R w'->Chg X1 w1 w'):=fun w' hc=>Y.over hc
   unfold q8 at HHe;clear A i Y T hd hpc j V hP hH aA hS1 hO;go_upto_region 6 with(go_fit HPl.out;rintro e w4⟨rfl,sv4,U4⟩)
   obtain⟨x0,x1,x2,x3,x4,x5⟩:=(HI3.out _ _ _ _ _ _ _ _ _ U4).cells6;have b4:w4.cell? ⟨w.heap.size,0,none⟩=some (.pointer (some ⟨kb,0,none⟩)):=(I.out _ _ _ _ _ _ _ _ _ (HT3.out _ _ _ _ _ _ _ _ _ U4)).cell 0;go_wp2_with (go_fit (HHe.out _ _ U4);rintro e w5⟨rfl,hc5⟩)
   exact ZaI HM.out P.out aB.out I.out (Or.inr (Or.inl ⟨rfl,HC3.out _ hc5,HO⟩))
