/- Lemmas; conditions: as each states. -/
import Derived.Test.YtmclocdhcblbiaaGreatDoorZRunStepW
set_option maxHeartbeats 4000000
namespace Go.Proofs.YtmclocdhcblbiaaGreatDoor
open Go.RowKit Go.Shelf Go.Lib Tryz
theorem zcY{l:List qa}(B:∀c∈l,qM c){c:Cal}{g:Str}{A:Asg Frm}(H:zaX l c g A):zay c.m:=by
 obtain⟨c',C,_,D⟩:=QU H.known H.mem;exact(B c' C).methods _ D
theorem QcC{l:List qa}(G:Qg l)(I:∀c∈l,qM c){h:List Zc}{N:Str}:∀{r:List Cal} {M:Str},qaH l h N r M->∀c∈r,(c.pc<=4194304/\c.S.length<=4194304)/\∀y∈c.m.handlers,QY y
 |[],_,_,c,D=>by cases D
 |d::r,M,⟨g,X,Y⟩,c,D=>by
  rcases List.mem_cons.1 D with rfl|D
  ·obtain⟨A,f,x,args,S,H,O,L,_,i,j,P,k,F⟩:=X;obtain⟨R,n,C,T,⟨o,S',B,_⟩,_⟩:=H.at O;rw[L]at C;injection C with C
   subst C;have E:=qbi G T R B;obtain⟨_,U,_,_⟩:=Qt E;rw[F]at B;have J:S.length<=S'.length:=by
    unfold Za7 qdJ at B;split at B
    ·injection B with B
     injection B with p Z
     rw[Z];exact Xl
    ·split at B
     ·obtain⟨_,rfl⟩:=ZT B;simp
     ·cases B
   have a:=(List.getElem?_eq_some_iff.1 L).1;obtain⟨_,_,V,_⟩:=H.good;have b:=(qaw V.code).small;have e:=P.len;dsimp only at U;exact⟨⟨by omega,by omega⟩,(zcY I H).handlers⟩
  ·exact QcC G I Y c D
theorem ZdW{l:List qa}(E:Qg l)(C:∀c∈l,qM c){F:Str}{h:List Zc}{c:Cal}{r:List Cal}(G:qa5 l F ⟨h,c::r⟩):
 Zy (Za l) h=0/\r.length+1<=20/\zay c.m/\∀d∈r,(d.pc<=4194304/\d.S.length<=4194304)/\∀y∈d.m.handlers,QY y:=by
 obtain⟨D,B,c',M,g,e,⟨A,f,H,_⟩,I⟩:=G;dsimp only at D B e;injection e with J L
 subst J L;exact⟨D,by simpa using B,zcY C H,QcC E C I⟩
def Ran.plus(s:Nat):Ran->Ran
 |.done v t n=>.done v t (n+s)
 |r=>r
theorem Ran.plus_later(s:Nat)(r:Ran):r.later.plus s=r.plus (s+1):=by
 cases r with
 |done v t n=>show Ran.done v t (n+1+s)=.done v t (n+(s+1));rw[Nat.add_assoc,Nat.add_comm 1 s]
 |full=>rfl
 |fuel=>rfl
theorem Ran.plus_zero(r:Ran):r.plus 0=r:=by cases r<;>rfl
theorem ZcY(p:Addr)(w:World):
 CallsD prog 53 #[.pointer (some p)] .returning w fun e A w'=>e=.returned (.tuple #[])/\A=.returning/\w'=w:=by
 refine callsD_of_wpS func53 rfl fun B cs C=>?_
 apply wpS_seq;apply wpS_region;simp[wpOpsS,go_sem,recoverD,C,ntmps53,Exit.thenS];apply wpS_seq;apply wpS_region;simp[wpOpsS,go_sem,Exit.thenS];refine wpS_cond (t:=false) (by simp[Act.eval,Array.replicate]) ?_;simp only[Bool.false_eq_true,if_false];refine wpS_of_wp (wp_skip ?_);cases B;simp_all [bodyPostS,results,results53]
set_option maxRecDepth 100000
theorem Qew(A:Nat)(w:World)(F:Value)(C:Blk w A 25 [F])(B:List PanicEntry):
 CallsD prog 53 #[.pointer (some ⟨A,0,none⟩)] (.panicking (Zat 4::B)) w fun e P w'=>e=.returned (.tuple #[])/\P=.panicking ({ Zat 4 with recovered:=true }::B)/\Chg (fun b=>b=A) w w'/\w'.cell? ⟨A,0,none⟩=some (.iface 52 (.int .i64 4)):=by
 have D:=(Below.refl w.heap.size w).alloc Xl (.cells #[.int .i64 4] 108);have I:=C.lt;have G:=Xh (C.step D);have E:=Xh C;have J:=Xh (Blk.new w 108 [.int .i64 4]);have T:=Xh D;have L:¬A=w.heap.size:=by omega
 have M:∀w:World,(Instr.typeAssert (.iface 108 (.agg #[.int .i64 4])) 20 108 true).run prog w=.ok (.tuple #[.agg #[.int .i64 4],.bool true]) w:=fun w=>by kernel_rfl
 clear D C;refine callsD_of_wpS func53 rfl fun R cs S=>?_
 apply wpS_seq;apply wpS_region;simp[wpOpsS,go_sem,recoverD,S,ntmps53,Exit.thenS,Zat];apply wpS_seq;apply wpS_region;simp[wpOpsS,go_sem,Exit.thenS];refine wpS_cond (t:=true) (by simp[Act.eval,Array.replicate]) ?_;simp only[if_true];refine wpS_of_wp ?_;have H:(#[Value.pointer (some ⟨A,0,none⟩)]++((((Array.replicate 17 undef).setIfInBounds 3 (.iface 108 (.agg #[.int .i64 4]))).setIfInBounds 0 (.iface 108 (.agg #[.int .i64 4]))).setIfInBounds 4 (.iface 108 (.agg #[.int .i64 4]))).setIfInBounds 5 (.bool true))=#[.pointer (some ⟨A,0,none⟩),.iface 108 (.agg #[.int .i64 4]),undef,undef,.iface 108 (.agg #[.int .i64 4]),.iface 108 (.agg #[.int .i64 4]),.bool true,undef,undef,undef,undef,undef,undef,undef,undef,undef,undef,undef]:=by kernel_rfl
 rw[H];clear H;have U:(w.alloc (.cells #[.int .i64 4] 108)).cell? ⟨A,0,none⟩=some F:=G.out.cell 0;have V:(w.alloc (.cells #[.int .i64 4] 108)).frozen? ⟨A,0,none⟩=false:=G.out.frozen 0;have X:(w.alloc (.cells #[.int .i64 4] 108)).cell? ⟨w.heap.size,0,none⟩=some (.int .i64 4):=J.out.cell 0;go_wp2_with fail;have N:Chg (fun b=>b=A) w ((w.setCell ⟨A,0,none⟩ (.iface 52 (.int .i64 4))).alloc (.cells #[.int .i64 4] 108)):=(Chg.one w A 0 _).alloc _;have O:((w.setCell ⟨A,0,none⟩ (.iface 52 (.int .i64 4))).alloc (.cells #[.int .i64 4] 108)).cell? ⟨A,0,none⟩=some (.iface 52 (.int .i64 4)):=((E.out.put 0 (.iface 52 (.int .i64 4))).step (Xb.alloc Xl _)).cell 0;cases R;exact⟨rfl,_,rfl,.tuple #[],by simp[results,results53],rfl,rfl,N,O⟩
def Qfu(w0 w:World)(X:Nat->Prop)(kb B:Nat)(r:Ran)(e:Ending)(w':World):Prop:=match r with
 |.done v t n=>e=.returned .nilIface/\∃h,QaC w0 w X kb B h [] v t (n:Int) true w'
 |.full=>e=.returned (.iface 52 (.int .i64 4))/\Chg X w w'
 |.fuel=>e=.returned (.iface 52 (.int .i64 10))/\Chg X w w'
def zfk(l:List qa)(g0:Str)(N:Nat)(r:Ran)(n:Nat)(ps:List (Zc×Value))(qs:List Zs)(tv:Val)(th:Str)(s:Nat)(ov:Bool):Prop :=
 (ov=true/\n=0/\qs=[]/\r=.done tv th s) \/
 (ov=false/\n=N-s+1/\s<=N/\tv=v0/\th=⟨#[]⟩/\qa5 l g0 ⟨ps.map (·.1),(qs.map (·.c)).reverse⟩/\(QaG (Za l) (N-s) ⟨ps.map (·.1),(qs.map (·.c)).reverse⟩).plus s=r)
theorem zeZ(w00 a w:World)(C B:Nat)(j k:Value)(ps:List (Zc×Value))(qs:List Zs)(M:Qk a w C B j k ps qs v0 ⟨#[]⟩ 0 false)(l:List qa)(hm:qh w00 a B l)(hco:∀c∈l,qM c)(hall:QaH l)(g0:Str)(Z:qa5 l g0 ⟨ps.map (·.1),(qs.map (·.c)).reverse⟩)(N:Nat)(hN:N<=2000)(V:Ran)(hres:QaG (Za l) N ⟨ps.map (·.1),(qs.map (·.c)).reverse⟩=V):
 Calls prog 31 #[.pointer (some ⟨C,0,none⟩),.int .i64 (N:Int)] w (Qfu a w (XS C j k ps qs) C B V):=by
 have hmf:∀(fn:Fn) (first cap:Array Value) (w:World),(Instr.makeFunc fn first cap).run prog w=.ok (.func fn first cap) w:=fun _ _ _ _=>rfl
 have U1:=M.boxed (.cells #[.nilIface] 25);have hBw:=(Below.refl w.heap.size w).alloc Xl (.cells #[.nilIface] 25);have HEnd:Hid (∀w' I J D G tv' th' st' ov',MW a (w.alloc (.cells #[.nilIface] 25)) (XS C j k ps qs) w' C B I J D G tv' th' st' ov'->MW a w (XS C j k ps qs) w' C B I J D G tv' th' st' ov'):=fun w' I J D G tv' th' st' ov' U=>M.start.unbox hBw U
 have HBox:Hid (∀w' I J D G tv' th' st' ov',MW a (w.alloc (.cells #[.nilIface] 25)) (XS C j k ps qs) w' C B I J D G tv' th' st' ov'->Blk w' w.heap.size 25 [.nilIface]):=fun w' I J D G tv' th' st' ov' U=>U.blk (Blk.new w _ [.nilIface]) (M.fresh Xl)
 have HChg:Hid (∀w',Chg (XS C j k ps qs) (w.alloc (.cells #[.nilIface] 25)) w'->Chg (XS C j k ps qs) w w'):=fun w' hc=>(Chg.of hBw).trans hc fun i _ hx=>hx
 have HXl:Hid (∀b,XS C j k ps qs b->b<w.heap.size):=fun b ⟨r,P⟩=>(M.lt r b P).2
 have HL0:Hid (a.heap.size<=w.heap.size):=M.size;have HS1:Hid ((w.alloc (.cells #[.nilIface] 25)).heap.size=w.heap.size+1):=by simp[Hid]
 have HM:=Xh hm;have HCo:=Xh hco;have HAll:=Xh hall;have HNN:=Xh hN;generalize XS C j k ps qs=X at *;generalize hw1:w.alloc (.cells #[.nilIface] 25)=w1 at *;have HW1:=Xh hw1;have HU1:=Xh U1;have HB1:=Xh (HBox.out _ _ _ _ _ _ _ _ _ U1);have HAt:Hid (zfk l g0 N V (N+1) ps qs v0 ⟨#[]⟩ 0 false):=Or.inr ⟨rfl,rfl,Nat.zero_le _,rfl,rfl,Z,by rw[Ran.plus_zero];exact hres⟩;clear M hBw hm hco hall hN U1 hw1 Z hres;go_enter_defers func31,ntmps31
 go_upto_region 2 with fail;rw[HW1.out];go_loopg [] (N+1) (fun n wr=>∃(I J:Value) (D:List (Zc×Value)) (G:List Zs) (tv:Val) (th:Str) (s:Nat) (ov:Bool),Hid (MW a w1 X wr C B I J D G tv th (s:Int) ov)/\Hid (zfk l g0 N V n D G tv th s ov))
 case atStart=>exact⟨j,k,ps,qs,v0,⟨#[]⟩,0,false,HU1,HAt⟩
 case round =>
  clear HU1 HAt;obtain⟨I,J,D,G,tv,th,s,ov,hT,hA⟩:=hrel;have q7:wr.cell? ⟨C,7,none⟩=some (.bool ov):=hT.out.at'.blk.cell 7;have q6:wr.cell? ⟨C,6,none⟩=some (.int .i64 (s:Int)):=hT.out.at'.blk.cell 6;have f6:=hT.out.at'.blk.frozen 6;have o:=Xh (HBox.out _ _ _ _ _ _ _ _ _ hT.out);have b0:wr.cell? ⟨w.heap.size,0,none⟩=some .nilIface:=o.out.cell 0;have g0':wr.frozen? ⟨w.heap.size,0,none⟩=false:=o.out.frozen 0;rcases hA.out with⟨rfl,hn,rfl,P⟩|⟨rfl,hn,hs,rfl,rfl,Z,P⟩
  ·have y:=Xh P;clear P hA hn;go_wp2_with fail;have c0:(wr.setCell ⟨w.heap.size,0,none⟩ .nilIface).cell? ⟨w.heap.size,0,none⟩=some .nilIface:=(o.out.put 0 _).cell 0;have m:=(HEnd.out _ _ _ _ _ _ _ _ _ hT.out).alien (Chg.one wr w.heap.size 0 .nilIface) (fun r e=>by
    rcases hT.out.parts r _ e with h|h
    ·have:=HXl.out _ h;omega
    ·have:=HS1.out;omega) Xl HL0.out
   refine leaves_cons (f:=53) (args:=#[.pointer (some ⟨w.heap.size,0,none⟩)]) (by simp) (by simp[go_sem]) ?_;refine(ZcY _ _).mono ?_;rintro e u' w''⟨rfl,rfl,rfl⟩;simp[Leaves,settle,results,results31,go_sem,c0];rw[y.out];exact⟨rfl,_,I,J,D,[],m,rfl,rfl⟩
  ·by_cases hsN:s=N
   ·subst hsN;have y:Hid (V=.fuel):=by
     rw[Nat.sub_self]at P;exact P.symm
    clear P hA hn Z hs;have hcc:=HChg.out _ hT.out.chg;go_wp2_with fail;have c0:(wr.setCell ⟨w.heap.size,0,none⟩ (.iface 52 (.int .i64 10))).cell? ⟨w.heap.size,0,none⟩=some (.iface 52 (.int .i64 10)):=(o.out.put 0 _).cell 0;have hC2:=hcc.set (p:=⟨w.heap.size,0,none⟩) (fun h=>absurd h (Nat.lt_irrefl _)) (.iface 52 (.int .i64 10));refine leaves_cons (f:=53) (args:=#[.pointer (some ⟨w.heap.size,0,none⟩)]) (by simp) (by simp[go_sem]) ?_;refine(ZcY _ _).mono ?_;rintro e u' w''⟨rfl,rfl,rfl⟩;simp[Leaves,settle,results,results31,go_sem,c0];rw[y.out];exact⟨rfl,hC2⟩
   ·obtain⟨r,q,rfl⟩:∃r q,G=r++[q]:=by
     rcases List.eq_nil_or_concat G with rfl|⟨r,q,rfl⟩
     ·obtain⟨_,_,c,r,g,e,_⟩:=Z;cases e
     ·exact⟨r,q,List.concat_eq_append ..⟩
    have hR:=HM.out.right;have T:=za0 (fun x:Zs=>x.c) r q;rw[T]at Z P;obtain⟨f1,f2,f3,f4⟩:=ZdW hR HCo.out Z;obtain⟨x,F⟩:=ZeZ hR HM.out.faults Z;have S:=Qfe hR HM.out.faults HAll.out Z;have z:s<N:=(by omega);have z0:((s:Int)==(N:Int))=false:=(by simp;omega);have z1:IntKind.i64.wrap ((s:Int)+1)=(s:Int)+1:=IntWalk.i64_in _ (by have:=HNN.out;omega);have m:=hT.out.tell (tv':=v0) (th':=⟨#[]⟩) (st':=(s:Int)+1) (ov':=false) (Chg.one wr C 6 (.int .i64 ((s:Int)+1))) (hT.out.at'.blk.put 6 _);have aA:x.type.size<=1048576:=(f3.code x (Xe F.code)).type;have R:=zex w00 a _ C B I J D r q ((s:Int)+1) m.at' l HM.out f1 (by simpa using f2) (fun p hp=>by
     rcases List.mem_append.1 hp with hp|hp
     ·exact(f4 p.c (List.mem_reverse.2 (List.mem_map.2 ⟨p,hp,rfl⟩))).2
     ·rw[List.mem_singleton.1 hp];exact f3.handlers) (fun p hp=>(f4 p.c (List.mem_reverse.2 (List.mem_map.2 ⟨p,hp,rfl⟩))).1) x F aA
    obtain⟨f,hf⟩:∃f,N-s=f+1:=⟨N-s-1,by omega⟩;rw[hf]at P;unfold QaG at P;have hq:Hid (gk=N-s+1):=hn;have hsl':=Xh z;have hff:=Xh hf;have hU2:=Xh m;cases Y:zaE (Za l) ⟨D.map (·.1),q.c::(r.map (·.c)).reverse⟩ with
    |full =>
     rw[Y]at R P;have y:Hid (V=.full):=P.symm;have d:Hid (Calls prog 54 #[.pointer (some ⟨C,0,none⟩)] (wr.setCell ⟨C,6,none⟩ (.int .i64 ((s:Int)+1))) fun e w'=>∃E,e=.panicked (Zat 4::E)/\E.dropWhile (!·.goexit)=[]/\Chg X w1 w'):=R.mono fun e w' h=>by
      rcases h with⟨_,⟨E,h1,h2⟩,h3⟩|⟨h,_⟩
      ·exact⟨E,h1,h2,m.over h3⟩
      ·exact absurd rfl h
     clear hA hn hs Z P T f1 f2 f3 f4 F S z m aA R hf Y hq hff;go_wp2_with (go_fit d.out;rintro e w5⟨E,rfl,hd,hc⟩)
     have hb5:=HB1.out.chg hc (fun h=>by have:=HXl.out _ h;omega);refine leaves_cons (f:=53) (args:=#[.pointer (some ⟨w.heap.size,0,none⟩)]) (by simp) (by simp[go_sem]) ?_;refine(Qew w.heap.size w5 _ hb5 E).mono ?_;rintro e u' w''⟨rfl,rfl,hC,c0⟩;have hCC:=(HChg.out _ hc).trans hC (fun i hi e=>absurd e (Nat.ne_of_lt hi));simp[Leaves,settle,results,results31,go_sem,c0,hd];rw[y.out];exact⟨rfl,hCC⟩
    |on k' =>
     rw[Y]at R P S;dsimp only at P;rw[Ran.plus_later]at P;have S:qa5 l g0 k':=S;have d:Hid (Calls prog 54 #[.pointer (some ⟨C,0,none⟩)] (wr.setCell ⟨C,6,none⟩ (.int .i64 ((s:Int)+1))) fun e w'=>e=.returned (.tuple #[])/\∃L O H A,MW a w1 X w' C B L O H A v0 ⟨#[]⟩ ((s:Int)+1) false/\H.map (·.1)=k'.h/\A.map (·.c)=k'.calls.reverse):=R.mono fun e w' h=>by
      rcases h with⟨h,_⟩|⟨_,h1,L,O,H,A,U5,e1,e2⟩
      ·cases h
      ·exact⟨h1,L,O,H,A,m.then U5,e1,e2⟩
     have HOk:=Xh S;have y:=Xh P;clear hA hn hs Z P T f1 f2 f3 f4 F S z m aA R hf Y;go_wp2_with (go_fit d.out;rintro e w5⟨rfl,L,O,H,A,U5,e1,e2⟩)
     go_roundg (f+1)
     case measure =>
      have hf:=hff.out;have hq:=hq.out;omega
     case rel =>
      have hf:=hff.out;have hs:=hsl'.out;have e3:(A.map (·.c)).reverse=k'.calls:=(by rw[e2,List.reverse_reverse]);refine⟨L,O,H,A,v0,⟨#[]⟩,s+1,false,U5,Or.inr ⟨rfl,by omega,by omega,rfl,rfl,by rw[e1,e3];exact HOk.out,?_⟩⟩;rw[e1,e3,show N-(s+1)=f by omega];exact y.out
    |ends v t =>
     rw[Y]at R P;dsimp only at P;have d:Hid (Calls prog 54 #[.pointer (some ⟨C,0,none⟩)] (wr.setCell ⟨C,6,none⟩ (.int .i64 ((s:Int)+1))) fun e w'=>e=.returned (.tuple #[])/\∃L O H A,MW a w1 X w' C B L O H A v t ((s:Int)+1) true/\A.map (·.c)=[]):=R.mono fun e w' h=>by
      rcases h with⟨h,_⟩|⟨_,h1,hh,L,O,H,A,U5,e1,e2⟩
      ·cases h
      ·exact⟨h1,L,O,H,A,m.then U5,e2⟩
     have y:=Xh P;clear hA hn hs Z P T f1 f2 f3 f4 F S z m aA R hf Y;go_wp2_with (go_fit d.out;rintro e w5⟨rfl,L,O,H,A,U5,e2⟩)
     go_roundg 0
     case measure =>
      have hq:=hq.out;omega
     case rel =>
      refine⟨L,O,H,A,v,t,s+1,true,U5,Or.inl ⟨rfl,rfl,List.map_eq_nil_iff.1 e2,?_⟩⟩;rw[<-y.out];show Ran.done v t (1+s)=.done v t (s+1)
      rw[Nat.add_comm]
theorem qcY:∀(l:List UInt8) (j:Nat),Qv l<j->Qv (l.take j)=Qv l
 |[],_,_=>by simp
 |c::r,0,h=>by omega
 |c::r,j+1,h=>by
  rw[List.take_succ_cons];unfold Qv at h ⊢;split
  ·rename_i A;rw[if_pos A]at h;rw[qcY r j (by omega)]
  ·rfl
theorem qeb:∀l:List UInt8,Qv l<=l.length
 |[]=>Xl
 |c::r=>by
  unfold Qv;split
  ·have:=qeb r;simp;omega
  ·exact Nat.zero_le _
theorem QcY:∀q:List UInt8,qr q<q.length->qr (q.take (qr q+1))=qr q
 |[],h=>by simp at h
 |c::r,h=>by
  by_cases A:c=59
  ·have e:qr (c::r)=0:=(by unfold qr;rw[if_pos A]);rw[e];show qr [c]=0
   unfold qr;rw[if_pos A]
  ·have e:∀r,qr (c::r)=qr r+1:=fun r=>by
    conv=>lhs;unfold qr
    rw[if_neg A]
   rw[e]at h ⊢;rw[List.take_succ_cons,e,QcY r (by simpa using h)]
theorem Zex:∀q:List UInt8,0<zJ q->zJ (q.take (zJ q))=zJ q
 |[],h=>by simp[zJ]at h
 |c::r,h=>by
  unfold zJ at h ⊢;dsimp only at h ⊢;by_cases A:c=73\/c=74
  ·rw[if_pos A];simp[A]
  ·rw[if_neg A]at h ⊢;by_cases C:c=76
   ·rw[if_pos C]at h ⊢;by_cases B:qr r<r.length/\zD (r.take (qr r))=true
    ·rw[if_pos B,List.take_succ_cons];dsimp only;rw[if_neg A,if_pos C];have D:=QcY r B.1;rw[if_pos,D];rw[D];refine⟨by rw[List.length_take];omega,?_⟩;rw[List.take_take,Nat.min_eq_left (by omega)];exact B.2
    ·rw[if_neg B]at h;omega
   ·rw[if_neg C]at h;omega
theorem zff(q:List UInt8):zJ q<=q.length:=by
 cases q with
 |nil=>exact Xl
 |cons c r =>
  unfold zJ;dsimp only;split
  ·simp
  ·split
   ·split
    ·rename_i h;simp;omega
    ·exact Nat.zero_le _
   ·exact Nat.zero_le _
theorem qex{l:List UInt8}(h:0<zr l):zp (l.take (zr l))=true:=by
 unfold zr at h;split at h
 ·rename_i B;have I:=qeb l;have E:=zff (l.drop (Qv l));rw[List.length_drop]at E;have e:zr l=Qv l+zJ (l.drop (Qv l)):=by unfold zr;rw[if_pos B]
  have A:(l.take (zr l)).length=zr l:=by rw[List.length_take,e];omega
  unfold zp;rw[A];have C:Qv (l.take (zr l))=Qv l:=qcY l _ (by rw[e];omega);have D:(l.take (zr l)).drop (Qv l)=(l.drop (Qv l)).take (zJ (l.drop (Qv l))):=by rw[e,List.drop_take,Nat.add_sub_cancel_left]
  have F:zr (l.take (zr l))=zr l:=by
   generalize l.take (zr l)=t at C D;rw[e];unfold zr;rw[C,D,Zex _ B.2,if_pos B]
  have G:(l.take (zr l)).isEmpty=false:=by
   cases H:l.take (zr l) with
   |nil=>rw[H]at A;simp at A;omega
   |cons a b=>rfl
  rw[F,G];simp
 ·omega
theorem qbW:∀(n:Nat) (r:ByteArray) (B:List ByteArray),(∀t∈B,zp (lst t)=true)->∀t∈(qay n r B).2.1,zp (lst t)=true
 |0,_,_,h,t,A=>h t A
 |n+1,r,B,h,t,A=>by
  unfold qay at A;split at A
  ·exact h t A
  ·split at A
   ·exact h t A
   ·rename_i C;refine qbW n _ _ (fun t A=>?_) t A;rcases List.mem_append.1 A with A|A
    ·exact h t A
    ·rw[List.mem_singleton.1 A];have e:lst (r.extract 0 (zr r.data.toList))=r.data.toList.take (zr r.data.toList):=(by simp[lst,ByteArray.data_extract,Array.toList_extract]);rw[e];exact qex (by omega)
theorem QbW{s:Str}{args:List Str}{g:Str}(h:Zl s=some (args,g)):∀t∈args,zp (lst t)=true:=by
 unfold Zl qQ at h;split at h
 ·injection h with h
  rw[Prod.mk.injEq]at h;rw[<-h.1];intro t A;unfold qC at A;split at A
  ·exact qbW _ _ [] (fun t h=>by cases h) t A
  ·cases A
 ·cases h
def ZaW(l:List qa)(kind:Str)(args:List Val):Bool:=match Zl kind with
 |none=>false
 |some (ts,_)=>decide (args.length=ts.length)&&(args.zip ts).all fun p=>Zn (Za l) [] p.1 (Qz p.2)
def ZdA(n t:Str)(ms:List qc):Int:=Qbl (fun m=>decide (m.name=n)&&decide (m.type=t)) ms
def qam(l:List qa)(cls name kind:Str)(args:List Val):Option qc:=match (Qd (Za l) cls).methods.find? (fun m=>decide (m.name=name)&&decide (m.type=kind)) with
 |none=>none
 |some m=>if (m.static&&ZaW l kind args)=true then some m else none
def qaW(cls:Str)(m:qc)(args:List Val):Cal:=⟨cls,m,0,args++List.replicate (m.locals.toNat-args.length) v0,[]⟩
theorem qdA{cs:List qa}{h:List Zc}:∀{args:List Val} {ts:List Str},args.length=ts.length->(∀p∈args.zip ts,Qy cs h p.1 p.2)->zl cs h args ts
 |[],[],_,_=>trivial
 |v::vs,t::ts,A,B=>⟨B (v,t) (by simp),qdA (by simpa using A) fun p h=>B p (by simp[h])⟩
 |[],_::_,A,_=>by simp at A
 |_::_,[],A,_=>by simp at A
theorem qeZ{l:List qa}(U:Qg l)(O:∀c∈l,Qf c=0)(F:QaH l){cls name B:Str}{args:List Val}{m:qc}(h:qam l cls name B args=some m):
 m.name=name/\m.type=B/\m.static=true/\(Qb (Za l) cls).isSome=true/\m∈(Qd (Za l) cls).methods/\∃ts g,Zl B=some (ts,g)/\(∃N,zbX args m N)/\qa5 l g ⟨[],[qaW cls m args]⟩:=by
 unfold qam at h;cases L:(Qd (Za l) cls).methods.find? (fun m=>decide (m.name=name)&&decide (m.type=B)) with
 |none=>rw[L]at h;cases h
 |some R =>
  rw[L]at h;dsimp only at h;split at h
  ·rename_i C;injection h with h
   subst h;rw[Bool.and_eq_true]at C;have A:=List.mem_of_find?_eq_some L;have E:=List.find?_some L;rw[Bool.and_eq_true]at E;have V:=Xm E.1;have S:=Xm E.2;have I:(Qb (Za l) cls).isSome=true:=by
    cases Z:Qb (Za l) cls with
    |some c=>rfl
    |none =>
     have:Qd (Za l) cls=qg:=(by unfold Qd;rw[Z];rfl);rw[this]at A;cases A
   have G:=ZaX O I A (Or.inl C.1);unfold ZaW at C;cases M:Zl B with
   |none =>
    rw[M]at C;have X:false=true:=C.2;cases X
   |some p =>
    obtain⟨ts,g⟩:=p;rw[M]at C;have J:=C.2;dsimp only at J;rw[Bool.and_eq_true]at J;have D:=Xm J.1;have H:Zl R.type=some (ts,g):=(by rw[S];exact M);refine⟨V,S,C.1,I,A,ts,g,rfl,zbj O I A G H (by rw[C.1];exact D),rfl,by show 1<=20;decide,_,[],g,rfl,?_,rfl⟩;have P:zl (Za l) [] args (zaK cls R.static++ts):=by
     have:zaK cls R.static=[]:=(by unfold zaK;rw[C.1];rfl);rw[this];refine qdA D fun p T=>?_
     have Y:=QbW M p.2 (List.of_mem_zip T).2;exact ZbX Y (List.all_eq_true.1 J.2 p T)
    exact QdA U O F rfl I A G H P
  ·cases h
theorem zcD{l:List qa}{c:Str}{m:qc}(E:zai l c m)(J:zdm l c m):False:=by
 obtain⟨M,args,g,C,H,N⟩:=J;rcases E with E|⟨G,R,B,A,D,I⟩
 ·rw[M]at E;cases E
 ·have F:=H.type;rw[D.type]at F;injection F with F
  injection F with O P
  subst O P;have L:C=B:=by
   have:=H.locals;rw[D.locals]at this;omega
  subst L;exact N I.1 A I.2.1
theorem Qex{l:List qa}{n H:Nat}(h:Qar l n)(I:Qar l H):n=H:=by
 rcases h with⟨A,C⟩|⟨A,C,E⟩|⟨A,C,c,J,m,L,E⟩<;>rcases I with⟨B,D⟩|⟨B,D,F⟩|⟨B,D,d,M,N,G,F⟩
 ·rw[C,D]
 ·exact absurd B A
 ·exact absurd B A
 ·exact absurd A B
 ·rw[C,D]
 ·exact(zcD (E d M N G) F).elim
 ·exact absurd A B
 ·exact(zcD (F c J m L) E).elim
 ·rw[C,D]
theorem zey(x:qc)(N O:Value)(C D:ByteArray)(H I:Nat)(w:World)(E:Blk w H 9 [.string C])(J:Blk w I 9 [.string D]):
 Calls prog 27 #[ZR x N O,.pointer (some ⟨H,0,none⟩),.pointer (some ⟨I,0,none⟩)] w fun e w'=>e=.returned (.bool (decide (x.name=C)&&decide (x.type=D)))/\Below w.heap.size w w':=by
 have R:=fun(o:Obj)=>(Below.refl w.heap.size w).alloc Xl o
 obtain⟨name,B,F,P,L,G,M,A⟩:=x;unfold ZR;dsimp only;have S:=E.lt;have T:=J.lt;have U:w.cell? ⟨H,0,none⟩=some (.string C):=E.cell 0;have V:w.cell? ⟨I,0,none⟩=some (.string D):=J.cell 0;clear E J;rw[<-Zay,<-Zay];cases X:name.toList==C.toList<;>cases E:B.toList==D.toList
 all_goals
  go_enter func27,ntmps27;go_wp2
  go_ret;exact⟨rfl,Xb.alloc Xl _⟩
def zdB(v:Val)(t:Str)(n:Int)(err:Value):Ending:=.returned (.tuple #[.agg #[.int .i64 v.kind,.int .i64 v.n,.string t,.int .i64 n],err])
def qfq(k:Nat):Ending:=zdB v0 ⟨#[]⟩ 0 (.iface 52 (.int .i64 k))
def Qfq:Ran->Ending
 |.done v t n=>zdB v t n .nilIface
 |.full=>qfq 4
 |.fuel=>qfq 10
def ZdB(w:World)(l:List qa)(cls name kind:Str)(args:List Val)(fuel:Int)(e:Ending)(w':World):Prop :=
 Below w.heap.size w w'/\∃n,Qar l n /\
  (
   (∃k,k≠0/\(k=n\/k<=8)/\(n≠0\/qam l cls name kind args=none\/fuel<0\/2000<fuel)/\e=qfq k) \/
   (n=0/\0<=fuel/\fuel<=2000/\∃m,qam l cls name kind args=some m/\e=Qfq (QaG (Za l) fuel.toNat ⟨[],[qaW cls m args]⟩)))
theorem ZF(w:World)(A:Nat)(h:Blk w A 45 [.int .i64 0,.int .i64 0,.string ⟨#[]⟩,.int .i64 0]):(w.cell? ⟨A,0,none⟩=some (.int .i64 0)/\w.cell? ⟨A,1,none⟩=some (.int .i64 0)/\w.cell? ⟨A,2,none⟩=some (.string ⟨#[]⟩)/\w.cell? ⟨A,3,none⟩=some (.int .i64 0))/\w.frozen? ⟨A,0,none⟩=false/\w.frozen? ⟨A,1,none⟩=false/\w.frozen? ⟨A,2,none⟩=false/\w.frozen? ⟨A,3,none⟩=false :=
 ⟨⟨h.cell 0,h.cell 1,h.cell 2,h.cell 3⟩,h.frozen 0,h.frozen 1,h.frozen 2,h.frozen 3⟩
theorem zab{w wx:World}{A:Nat}(B:Below w.heap.size w wx)(h:w.heap.size<=A)(a b c d:Value):Below w.heap.size w ((((wx.setCell ⟨A,0,none⟩ a).setCell ⟨A,1,none⟩ b).setCell ⟨A,2,none⟩ c).setCell ⟨A,3,none⟩ d) :=
 (((B.setCell (p:=⟨A,0,none⟩) h a).setCell (p:=⟨A,1,none⟩) h b).setCell (p:=⟨A,2,none⟩) h c).setCell (p:=⟨A,3,none⟩) h d
theorem qdB(a b c d e f:Value)(w:World):(Instr.field 31 (.agg #[a,b,c,d,e,f]) 5).run prog w=.ok f w:=by kernel_rfl
theorem QdB{l:List qa}{cls name A:Str}{args:List Val}(h:((Qb (Za l) cls).getD qg).methods.find? (fun m=>decide (m.name=name)&&decide (m.type=A))=none):qam l cls name A args=none:=by
 unfold qam;have h:(Qd (Za l) cls).methods.find? (fun m=>decide (m.name=name)&&decide (m.type=A))=none:=h;rw[h]
theorem zcZ{l:List qa}{cls name A:Str}{args:List Val}{m:qc}(h:((Qb (Za l) cls).getD qg).methods.find? (fun m=>decide (m.name=name)&&decide (m.type=A))=some m):qam l cls name A args=if (m.static&&ZaW l A args)=true then some m else none:=by
 unfold qam;have h:(Qd (Za l) cls).methods.find? (fun m=>decide (m.name=name)&&decide (m.type=A))=some m:=h;rw[h]
theorem zdC{l:List qa}{A:Str}{args:List Val}{ts:List Str}{g:Str}(h:Zl A=some (ts,g)):ZaW l A args=(decide (args.length=ts.length)&&(args.zip ts).all fun p=>Zn (Za l) [] p.1 (Qz p.2)):=by
 unfold ZaW;rw[h]
theorem zbt{l:List qa}{cls name A:Str}{args:List Val}{m:qc}(h:((Qb (Za l) cls).getD qg).methods.find? (fun m=>decide (m.name=name)&&decide (m.type=A))=some m)(B:m.static=true){ts:List Str}{g:Str}(C:Zl A=some (ts,g)){b:Bool}(D:(decide (args.length=ts.length)&&(args.zip ts).all fun p=>Zn (Za l) [] p.1 (Qz p.2))=b):qam l cls name A args=if b=true then some m else none:=by
 rw[zcZ h,B,zdC C,D];rfl
theorem Qk.new{C w:World}(D:Below C.heap.size C w)(B:Nat):Qk C (w.alloc (.cells #[.map (some B),.slice none 0 0,.slice none 0 0,.int .i64 0,.int .i64 0,.string ⟨#[]⟩,.int .i64 0,.bool false] 82)) w.heap.size B (.slice none 0 0) (.slice none 0 0) [] [] v0 ⟨#[]⟩ 0 false:=by
 refine⟨D.alloc D.size _,Blk.new w _ [.map (some B),.slice none 0 0,.slice none 0 0,.int .i64 0,.int .i64 0,.string ⟨#[]⟩,.int .i64 0,.bool false],D.size,⟨rfl,Or.inl ⟨rfl,rfl⟩⟩,fun p H=>(by cases H),⟨rfl,Or.inl ⟨rfl,rfl⟩⟩,fun q E=>(by cases E),fun q E=>(by cases E),fun r s b I F=>?_⟩;have A:∀r b,qY w.heap.size (.slice none 0 0) (.slice none 0 0) [] [] r=some b->r=.m:=fun r b h=>by
  cases r with
  |m=>rfl
  |hs=>cases h
  |cs=>cases h
  |has i=>simp[qY]at h
  |call i=>simp[qY]at h
  |loc i=>simp[qY]at h
  |stk i=>simp[qY]at h
 rw[A r b I,A s b F]
theorem QeZ{n t:Str}{A:List qc}(h:ZdA n t A<0):A.find? (fun m=>decide (m.name=n)&&decide (m.type=t))=none:=by
 unfold ZdA Qbl at h;cases B:A.findIdx? (fun m=>decide (m.name=n)&&decide (m.type=t)) with
 |some i =>
  rw[B]at h;have h:(i:Int)<0:=h;omega
 |none =>
  rw[List.findIdx?_eq_none_iff]at B;rw[List.find?_eq_none];intro x C;rw[B x C];decide
theorem ze0{n t:Str}{A:List qc}(h:¬ZdA n t A<0):∃(i:Nat) (m:qc),ZdA n t A=(i:Int)/\A[i]? = some m/\A.find? (fun m=>decide (m.name=n)&&decide (m.type=t))=some m:=by
 unfold ZdA Qbl at h ⊢;cases C:A.findIdx? (fun m=>decide (m.name=n)&&decide (m.type=t)) with
 |none =>
  rw[C]at h;exact absurd (show(-1:Int)<0 by decide) h
 |some i =>
  have D:=C;rw[List.findIdx?_eq_some_iff_getElem]at C;obtain⟨B,G,H⟩:=C;refine⟨i,A[i],rfl,Xn B,?_⟩;rw[List.find?_eq_some_iff_getElem];exact⟨G,i,B,rfl,fun j I=>by
   have E:=H j I;cases F:(decide (A[j].name=n)&&decide (A[j].type=t)) with
   |true=>exact absurd F E
   |false=>rfl⟩
theorem qcf(l:List qa)(lv:Value)(w:World)(hl:Qax w)(hco:∀c∈l,qM c)(hlv:zx w lv l)(cls name A:Str)(hcl:cls.size<=maxLen)(hki:A.size<=1048576)(args:List Val)(av:Value)(hav:Qe w 2 qy av args)(fuel:Int):
 Calls prog 13 #[lv,.string cls,.string name,.string A,av,.int .i64 fuel] w (ZdB w l cls name A args fuel):=by
 have A1:∀(wz:World) (o:Obj),Below wz.heap.size wz (wz.alloc o):=fun wz o=>Xb.alloc Xl o
 have hmf:∀(fn:Fn) (first cap:Array Value) (w:World),(Instr.makeFunc fn first cap).run prog w=.ok (.func fn first cap) w:=fun _ _ _ _=>rfl
 obtain⟨w1,hw1⟩:∃w1,w1=((w.alloc (.cells #[.string name] 9)).alloc (.cells #[.string A] 9)).alloc (.cells #[.int .i64 0,.int .i64 0,.string ⟨#[]⟩,.int .i64 0] 45):=⟨_,rfl⟩;have aA:Hid (Below w.heap.size w w1):=by rw[hw1];exact Qa (Qa (A1 _ _) Xl (A1 _ _)) Xl (A1 _ _)
 have HK1:Hid (Blk w1 w.heap.size 9 [.string name]):=by
  rw[hw1];exact(((Blk.new w 9 [.string name]).step (A1 _ _)).step (A1 _ _))
 have HK2:Hid (Blk w1 (w.heap.size+1) 9 [.string A]):=by
  rw[hw1];have:=(Blk.new (w.alloc (.cells #[.string name] 9)) 9 [.string A]).step (A1 _ (.cells #[.int .i64 0,.int .i64 0,.string ⟨#[]⟩,.int .i64 0] 45));unfold Hid;simpa using this
 have HK3:Hid (Blk w1 (w.heap.size+1+1) 45 [.int .i64 0,.int .i64 0,.string ⟨#[]⟩,.int .i64 0]):=by
  rw[hw1];have:=Blk.new ((w.alloc (.cells #[.string name] 9)).alloc (.cells #[.string A] 9)) 45 [.int .i64 0,.int .i64 0,.string ⟨#[]⟩,.int .i64 0];unfold Hid;simpa using this
 have HRd:=Xh (QbC l lv w1 (hl.mono aA.out hl.1) hco (hlv.mono aA.out));have HW:=Xh hw1.symm;obtain⟨pv,kv,rfl,hv1,hv2,hvc⟩:=(hav.mono aA.out (by decide) (fun _ _ h=>h)).open;have hal:args.length<=9223372036854775807:=Xf hv1 hv2;have HVc:=Xh hvc;have HAl:=Xh hal;have HAv:=Xh (hav.mono aA.out (by decide) (fun _ _ h=>h));have HCo:=Xh hco;clear A1 hw1 hl hlv hav hco hv1 hv2 hvc hal;unfold qbC at HRd;go_enter func13,ntmps13;go_upto_region 1 with fail;rw[HW.out];go_upto_region 2 with(go_fit HRd.out;rintro e w2⟨U,n,hC,⟨hn,ws,B,rfl,hm⟩|⟨hn,rfl⟩⟩)
 ·subst hn;have hfd:=qdB;have hR:=hm.right;have hf:=hm.faults;have C:QaH l:=by
   rcases hC with⟨h1,h2⟩|⟨_,_,h3⟩|⟨_,h2,_⟩
   ·exact absurd h2.symm h1
   ·exact h3
   ·cases h2
  have HC:=Xh hC;have HAll:=Xh C;have HM:=Xh hm;obtain⟨fv,dv,mv,-,-,hms,Z⟩:=hm.map.look hR.nodup cls hcl;have hlk:=Z false;clear Z;unfold Zu at hlk;simp only[Bool.false_eq_true,if_false]at hlk;have hms2:=hms.mono hm.map.below (by decide) (fun _ _ h=>h);have HB2:=Xh (Qa aA Xl U);have hk1:=HK1.out.step U;have aB:=HK2.out.step U;have HK3:=Xh (HK3.out.step U);have hix:Calls prog 26 #[mv,.func (.func 27) #[] #[.pointer (some ⟨w.heap.size,0,none⟩),.pointer (some ⟨w.heap.size+1,0,none⟩)]] w2 fun e w'=>e=.returned (.int .i64 (ZdA name A ((Qb (Za l) cls).getD qg).methods))/\Below w2.heap.size w2 w':=by
   refine Zbo (zo ws) (fun x=>decide (x.name=name)&&decide (x.type=A)) 27 _ (enters_of func27 (by kernel_rfl) rfl) _ mv w2 hms2 ?_;rintro W x a0 a1 a2 a3 a4 a5 a6 a7 hx⟨c,h,hh,_,_⟩hW;simp only[List.cons.injEq]at hh;obtain⟨rfl,rfl,rfl,rfl,rfl,rfl,rfl,rfl,_⟩:=hh;show Calls prog 27 #[ZR x a6 a7,.pointer (some ⟨w.heap.size,0,none⟩),.pointer (some ⟨w.heap.size+1,0,none⟩)] W _
   exact zey x a6 a7 _ _ _ _ W (hk1.step hW) (aB.step hW)
  have HIx:=Xh hix;have HKi:=Xh aB;have HB12:=Xh U;clear hC hm hms hms2 U hk1 aB hR hf C hix;go_upto_region 5 with(go_fit HIx.out;rintro e z⟨rfl,j⟩)
  have M:=Xh (HK3.out.step j);have I:=Xh (Qa HB2 Xl j);by_cases hi:ZdA name A ((Qb (Za l) cls).getD qg).methods<0
  ·have hno:qam l cls name A args=none:=QdB (QeZ hi);have f:=Xh hno;have hid:decide (ZdA name A ((Qb (Za l) cls).getD qg).methods<0)=true:=Xj hi;clear hno hi j hlk;obtain⟨⟨t0,t1,t2,t3⟩,f0,f1,f2,f3⟩:=ZF _ _ M.out;go_wp2_with fail;obtain⟨⟨P,R,S,T⟩,-⟩:=ZF _ _ ((((M.out.put 0 (.int .i64 0)).put 1 (.int .i64 0)).put 2 (.string ⟨#[]⟩)).put 3 (.int .i64 0));have D:=Xh (zab I.out (Xf (Nat.le_succ _) (Nat.le_succ _)) (.int .i64 0) (.int .i64 0) (.string ⟨#[]⟩) (.int .i64 0));simp[bodyPost,results,results13,go_sem,P,R,S,T];exact⟨D,0,HC,Or.inl ⟨3,by decide,Or.inr (by decide),Or.inr (Or.inl f.out),rfl⟩⟩
  ·obtain⟨i,m,hie,hmi,hfi⟩:=ze0 hi;obtain⟨fv3,dv3,mv3,-,-,hms3,Z⟩:=(HM.out.step j).map.look HM.out.right.nodup cls hcl;have hlk3:=Z false;clear Z hlk;unfold Zu at hlk3;simp only[Bool.false_eq_true,if_false]at hlk3;obtain⟨pm,km,rfl,hm1,hm2,hcc⟩:=hms3.open;obtain⟨b,o,vs,rfl,⟨cv,hv,rfl,k1,k2⟩,_,Zd⟩:=hcc i m hmi;obtain⟨pc,kc,rfl,-⟩:=k1.open;obtain⟨ph,kh,rfl,-⟩:=k2.open;obtain⟨y0,y1,y2,y3,y4,y5,y6,y7,_⟩:=Zd.mono (HM.out.step j).map.below Zd.lt;have y2:z.cell? ⟨b,o+i*8+2,none⟩=some (.bool m.static):=y2;have y3:z.cell? ⟨b,o+i*8+3,none⟩=some (.bool m.abs):=y3;have y4:z.cell? ⟨b,o+i*8+4,none⟩=some (.bool m.priv):=y4;have y5:z.cell? ⟨b,o+i*8+5,none⟩=some (.int .i64 m.locals):=y5;have y6:z.cell? ⟨b,o+i*8+6,none⟩=some (.slice pc m.code.length kc):=y6;have y7:z.cell? ⟨b,o+i*8+7,none⟩=some (.slice ph m.handlers.length kh):=y7;have hil:=(List.getElem?_eq_some_iff.1 hmi).1;have hid:decide ((i:Int)<0)=false:=Xi (by omega);have i1:(0:Int)<=(i:Int):=(by omega);have i2:(i:Int)<(((Qb (Za l) cls).getD qg).methods.length:Int):=(by omega);rw[hie];have HFi:=Xh hfi;have HMi:=Xh hmi;have HK1m:=Xh (And.intro (k1.mono HM.out.map.below (by decide) (fun _ _ h=>h)) (k2.mono HM.out.map.below (by decide) (fun _ _ h=>h)));have HB3:=Xh j;clear hie hmi hfi hi hms3 hcc Zd hm1 hm2 k1 k2 hil j;go_upto_region 8 with fail;have hb4:=(Below.refl z.heap.size z).alloc Xl (.cells #[.string m.name,.string m.type,.bool m.static,.bool m.abs,.bool m.priv,.int .i64 m.locals,.slice pc m.code.length kc,.slice ph m.handlers.length kh] 39);have HMB:=Xh (Blk.new z 39 [.string m.name,.string m.type,.bool m.static,.bool m.abs,.bool m.priv,.int .i64 m.locals,.slice pc m.code.length kc,.slice ph m.handlers.length kh]);have HB24:=Xh (Qa HB3 Xl hb4);have HK0:=M;have HBX0:=I;clear M I;have M:=Xh (HK0.out.step hb4);have I:=Xh (Qa HBX0 Xl hb4);clear HK0 HBX0 hb4 y0 y1 y2 y3 y4 y5 y6 y7 i1 i2 hid hlk3;have x2:(z.alloc (.cells #[.string m.name,.string m.type,.bool m.static,.bool m.abs,.bool m.priv,.int .i64 m.locals,.slice pc m.code.length kc,.slice ph m.handlers.length kh] 39)).cell? ⟨z.heap.size,2,none⟩=some (.bool m.static):=HMB.out.cell 2;change Code.wp _ _ _ _ (z.alloc (.cells #[.string m.name,.string m.type,.bool m.static,.bool m.abs,.bool m.priv,.int .i64 m.locals,.slice pc m.code.length kc,.slice ph m.handlers.length kh] 39));generalize hw4:z.alloc (.cells #[.string m.name,.string m.type,.bool m.static,.bool m.abs,.bool m.priv,.int .i64 m.locals,.slice pc m.code.length kc,.slice ph m.handlers.length kh] 39)=w4 at *;generalize z.heap.size=mb at *;clear hw4;cases hs:m.static with
   |false =>
    rw[hs]at x2;have f:=Xh (show qam l cls name A args=none by rw[zcZ HFi.out,hs];rfl);clear hs;obtain⟨⟨t0,t1,t2,t3⟩,f0,f1,f2,f3⟩:=ZF _ _ M.out;go_wp2_with fail;obtain⟨⟨P,R,S,T⟩,-⟩:=ZF _ _ ((((M.out.put 0 (.int .i64 0)).put 1 (.int .i64 0)).put 2 (.string ⟨#[]⟩)).put 3 (.int .i64 0));have D:=Xh (zab I.out (Xf (Nat.le_succ _) (Nat.le_succ _)) (.int .i64 0) (.int .i64 0) (.string ⟨#[]⟩) (.int .i64 0));simp[bodyPost,results,results13,go_sem,P,R,S,T];exact⟨D,0,HC,Or.inl ⟨7,by decide,Or.inr (by decide),Or.inr (Or.inl f.out),rfl⟩⟩
   |true =>
    rw[hs]at x2;have HSt:=Xh hs;clear hs;by_cases hfu:fuel<0\/2000<fuel
    ·have J:=Xh hfu;by_cases hf0:fuel<0
     ·have d0:decide (fuel<0)=true:=Xj hf0;clear hf0 hfu;obtain⟨⟨t0,t1,t2,t3⟩,f0,f1,f2,f3⟩:=ZF _ _ M.out;go_wp2_with fail;obtain⟨⟨P,R,S,T⟩,-⟩:=ZF _ _ ((((M.out.put 0 (.int .i64 0)).put 1 (.int .i64 0)).put 2 (.string ⟨#[]⟩)).put 3 (.int .i64 0));have D:=Xh (zab I.out (Xf (Nat.le_succ _) (Nat.le_succ _)) (.int .i64 0) (.int .i64 0) (.string ⟨#[]⟩) (.int .i64 0));simp[bodyPost,results,results13,go_sem,P,R,S,T];exact⟨D,0,HC,Or.inl ⟨2,by decide,Or.inr (by decide),Or.inr (Or.inr J.out),rfl⟩⟩
     ·have d0:decide (fuel<0)=false:=Xi hf0;have d1:decide (2000<fuel)=true:=Xj (by omega);clear hf0 hfu;obtain⟨⟨t0,t1,t2,t3⟩,f0,f1,f2,f3⟩:=ZF _ _ M.out;go_wp2_with fail;obtain⟨⟨P,R,S,T⟩,-⟩:=ZF _ _ ((((M.out.put 0 (.int .i64 0)).put 1 (.int .i64 0)).put 2 (.string ⟨#[]⟩)).put 3 (.int .i64 0));have D:=Xh (zab I.out (Xf (Nat.le_succ _) (Nat.le_succ _)) (.int .i64 0) (.int .i64 0) (.string ⟨#[]⟩) (.int .i64 0));simp[bodyPost,results,results13,go_sem,P,R,S,T];exact⟨D,0,HC,Or.inl ⟨2,by decide,Or.inr (by decide),Or.inr (Or.inr J.out),rfl⟩⟩
    ·have J:Hid (0<=fuel/\fuel<=2000):=⟨by omega,by omega⟩;have d0:decide (fuel<0)=false:=Xi (by omega);have d1:decide (2000<fuel)=false:=Xi (by omega);clear hfu;have hmr:∃ts g,Zl A=some (ts,g):=by
      have hk:(Qb (Za l) cls).isSome=true:=by
       cases hc:Qb (Za l) cls with
       |some c=>rfl
       |none =>
        have hm:=HMi.out;rw[hc]at hm;cases hm
      obtain⟨c,hc,_,hmc⟩:=QU hk (show m∈(Qd (Za l) cls).methods from Xe HMi.out);have ht:=List.find?_some HFi.out;rw[Bool.and_eq_true]at ht;rw[<-Xm ht.2];exact(qbL (HM.out.faults c hc) hmc).2.2.1
     obtain⟨ts,g,hmr⟩:=hmr;have HMr:=Xh hmr;have HDe:Hid (∀wx,_):=fun wx=>zaB hki hmr wx
     unfold Zby at HDe;have q1:w4.cell? ⟨w.heap.size+1,0,none⟩=some (.string A):=(HKi.out.step HB24.out).cell 0;clear hmr;go_upto_region 15 with(go_fit (HDe.out _);rintro e w5⟨pa,ka,rfl,hts5,hB5⟩)
     have HTs:=Xh hts5;have HMB5:=Xh (HMB.out.step hB5);have HK5:=M.out.step hB5;have HBX5:=Qa I Xl hB5;have HB25:=Xh (Qa HB24 Xl hB5);clear M I;have M:=Xh HK5;have I:=Xh HBX5;clear HK5 HBX5 hts5 hB5 d0 d1 q1 x2 HMB HB24 HDe;by_cases hln:args.length=ts.length
     ·have z1:((args.length:Int)==(ts.length:Int))=true:=(by simp;omega);have z2:((args.length:Int) != (ts.length:Int))=false:=(by simp;omega);have HLn:=Xh hln;clear hln;go_upto_region 18 with fail;go_loopw [82] (fun x wr=>∃k:Nat,k<=args.length/\Below w5.heap.size w5 wr/\Hid (((args.zip ts).drop k).all (fun p=>Zn (Za l) [] p.1 (Qz p.2))=(args.zip ts).all fun p=>Zn (Za l) [] p.1 (Qz p.2))/\x=.int .i64 k) (fun x _=>args.length-(intOf x).toNat)
      case atStart=>exact⟨0,by omega,Xb,rfl,rfl⟩
      case round =>
       obtain⟨k,hk,hB,hff,rfl⟩:=hrel;by_cases hkl:k<args.length
       ·obtain⟨v,hv⟩:∃a,args[k]? = some a:=⟨args[k],by simp[hkl]⟩;obtain⟨t,ht⟩:∃a,ts[k]? = some a:=⟨_,Xn (by have:=HLn.out;omega)⟩;obtain⟨bv,ov,vs,rfl,hvs,_,L⟩:=HVc.out k v hv;unfold qy at hvs;subst hvs;have hb5r:=Qa HB25 Xl hB;obtain⟨x0,x1,_⟩:=L.mono (Qa HB12 Xl hb5r) L.lt;obtain⟨pa',ka',hpe,-,-,htc⟩:=HTs.out.open;obtain⟨bt,ot,us,hpa,hus,_,F⟩:=htc k t ht;obtain⟨rfl,-,rfl⟩:pa=pa'/\True/\ka=ka':=(by simpa using hpe);subst hpa;unfold qt at hus;subst hus;obtain⟨s0,_⟩:=F.mono hB F.lt;have s0:wr.cell? ⟨bt,ot+k,none⟩=some (.string t):=(by rw[Nat.mul_one]at s0;exact s0);have hTy:=QbW HMr.out t (Xe ht);obtain⟨y,hy⟩:=Q8 hTy;have HDo:Hid (∀wx,Below w2.heap.size w2 wx->Calls prog 29 #[.map (some B),.agg #[.slice none 0 0],.agg #[.int .i64 v.kind,.int .i64 v.n],.string t] wx fun e w'=>e=.returned (.bool (Zn (Za l) [] v (Qz t)))/\Below wx.heap.size wx w'):=fun wx hb=>by
         have h:=ZbT ws wx B l (HM.out.step hb) [] (.slice none 0 0) (Or.inl ⟨rfl,rfl⟩) (fun x hx=>by cases hx) (fun x hx=>by cases hx) v t y hy.text hy.size;rw[hy.of];exact h
        have C:=ZeN (fun p:Val×Str=>Zn (Za l) [] p.1 (Qz p.2)) (args.zip ts) k (v,t) (qeN hv ht);rw[hff.out]at C;have C:((args.zip ts).all fun p=>Zn (Za l) [] p.1 (Qz p.2))=(Zn (Za l) [] v (Qz t)&&((args.zip ts).drop (k+1)).all fun p=>Zn (Za l) [] p.1 (Qz p.2)):=C;have d2:decide ((k:Int)<(args.length:Int))=true:=Xj (by omega);have i1:(0:Int)<=(k:Int):=(by omega);have i2:(k:Int)<(args.length:Int):=(by omega);have i3:(k:Int)<(ts.length:Int):=(by have:=HLn.out;omega);have zk:IntKind.i64.wrap ((k:Int)+1)=(k:Int)+1:=IntWalk.i64_in _ (by have:=HAl.out;omega);have hq2:Blk (wr.alloc (.cells #[.int .i64 v.kind,.int .i64 v.n] 43)) wr.heap.size 43 [.int .i64 v.kind,.int .i64 v.n]:=Blk.new wr _ _;have hA:=(Below.refl wr.heap.size wr).alloc Xl (.cells #[.int .i64 v.kind,.int .i64 v.n] 43);have s1:(wr.alloc (.cells #[.int .i64 v.kind,.int .i64 v.n] 43)).cell? ⟨bt,ot+k,none⟩=some (.string t):=by
         obtain⟨s1,_⟩:=F.mono (Qa hB Xl hA) (Nat.lt_of_lt_of_le F.lt Xl);rw[Nat.mul_one]at s1;exact s1
        have HB2a:=Xh (Qa hb5r Xl hA).drew;have HB5a:=Xh (Qa hB Xl hA).drew;have hkn:=Xh hkl;clear hb5r L htc F hpe hTy hy hff hA hv ht hk hB;cases hbb:Zn (Za l) [] v (Qz t) with
        |false =>
         rw[hbb]at HDo C;have f:Hid (qam l cls name A args=none):=zbt HFi.out HSt.out HMr.out (b:=false) (by rw[C,Bool.false_and,Bool.and_false]);clear C hbb hkl;go_upto_region 20 with fail;clear s0 x0 x1;obtain⟨g0',g1'⟩:=hq2.cells2;go_region_held3 (fun w'=>w'.cell? ⟨wr.heap.size,0,none⟩=some (.int .i64 v.kind)/\w'.cell? ⟨wr.heap.size,1,none⟩=some (.int .i64 v.n)/\w'.cell? ⟨bt,ot+k,none⟩=some (.string t)) (go_keep)
          (first|(go_fit (HDo.out _ HB2a.out);rintro e w7⟨rfl,V⟩;(have hBk:=Qa HB5a Xl V);obtain⟨r0,r1⟩:=(hq2.step (Qa Xb.drew Xl V)).cells2;(have r2:=(V.cell (p:=⟨bt,ot+k,none⟩) (QV s1)).trans s1)))
         all_goals
          have HK7:=Xh (M.out.step hBk);have X:=Xh (Qa I Xl hBk);clear hBk V r0 r1 r2 hq2 s1 g0' g1';obtain⟨⟨t0,t1,t2,t3⟩,f0,f1,f2,f3⟩:=ZF _ _ HK7.out;go_wp2_with fail;obtain⟨⟨P,R,S,T⟩,-⟩:=ZF _ _ ((((HK7.out.put 0 (.int .i64 0)).put 1 (.int .i64 0)).put 2 (.string ⟨#[]⟩)).put 3 (.int .i64 0));have D:=Xh (zab X.out (Xf (Nat.le_succ _) (Nat.le_succ _)) (.int .i64 0) (.int .i64 0) (.string ⟨#[]⟩) (.int .i64 0));simp[bodyPost,results,results13,go_sem,P,R,S,T];exact⟨D,0,HC,Or.inl ⟨7,by decide,Or.inr (by decide),Or.inr (Or.inl f.out),rfl⟩⟩
        |true =>
         rw[hbb]at HDo C;rw[Bool.true_and]at C;have HAll2:=Xh C;clear C hbb hkl;go_upto_region 20 with fail;clear s0 x0 x1;obtain⟨g0',g1'⟩:=hq2.cells2;go_region_held3 (fun w'=>w'.cell? ⟨wr.heap.size,0,none⟩=some (.int .i64 v.kind)/\w'.cell? ⟨wr.heap.size,1,none⟩=some (.int .i64 v.n)/\w'.cell? ⟨bt,ot+k,none⟩=some (.string t)) (go_keep)
          (first|(go_fit (HDo.out _ HB2a.out);rintro e w7⟨rfl,V⟩;(have hBk:=Qa HB5a Xl V);obtain⟨r0,r1⟩:=(hq2.step (Qa Xb.drew Xl V)).cells2;(have r2:=(V.cell (p:=⟨bt,ot+k,none⟩) (QV s1)).trans s1)))
         all_goals
          have HBk:=Xh hBk;clear hBk V r0 r1 r2 hq2 s1 g0' g1';go_wp2_with fail;go_roundw;case rel=>exact⟨k+1,by have:=hkn.out;omega,HBk,HAll2.out.symm,by simp⟩
          case measure=>have:=hkn.out;simp[intOf];omega
       ·obtain rfl:k=args.length:=(by omega);have C:((args.zip ts).all fun p=>Zn (Za l) [] p.1 (Qz p.2))=true:=by
         rw[<-hff.out,Xg (by rw[List.length_zip];omega)];rfl
        have hst:qam l cls name A args=some m:=zbt HFi.out HSt.out HMr.out (b:=true) (by rw[C,Xj HLn.out];rfl);have d2:decide ((args.length:Int)<(args.length:Int))=false:=Xi (by omega);have HS:=Xh hst;have HB:=Xh hB;clear hst C hff hB hk hkl;go_upto_region 24 with fail;have hA6:=(Below.refl wr.heap.size wr).alloc Xl (.cells #[.map (some B),.slice none 0 0,.slice none 0 0,.int .i64 0,.int .i64 0,.string ⟨#[]⟩,.int .i64 0,.bool false] 82);have hB2r:=Qa HB25 Xl HB.out;have M6:=Qk.new hB2r B;have hMB6:=(HMB5.out.step HB.out).step hA6;have HV6:=HAv.out.mono (Qa HB12 Xl (Qa hB2r Xl hA6)) (by decide) (fun _ _ h=>h);have HBX6:=Xh (Qa (Qa I Xl HB) Xl hA6);have HK6:=Xh ((M.out.step HB.out).step hA6);have hkbw:w.heap.size+1+1<wr.heap.size:=(M.out.step HB.out).lt;have aB:w.heap.size+1+1<w2.heap.size:=HK3.out.lt;have HKb:=Xh hkbw;have HK2:=Xh aB;clear d2 hA6 hB2r hkbw aB;generalize (wr.alloc (.cells #[.map (some B),.slice none 0 0,.slice none 0 0,.int .i64 0,.int .i64 0,.string ⟨#[]⟩,.int .i64 0,.bool false] 82))=w6 at *;generalize wr.heap.size=s at *;obtain⟨hn1,hn2,hn3,hn4,hn5,ts',g',hmr',⟨N,E⟩,hok⟩:=qeZ HM.out.right HM.out.faults HAll.out HS.out;have hEn:=Zbj w2 w6 s B _ _ [] [] v0 ⟨#[]⟩ 0 false M6 cls m.name m.type m.static m.abs m.priv N m.code m.handlers pc ph kc kh HK1m.out.1 HK1m.out.2 E.small args _ HV6 E.room;have hmm:(⟨m.name,m.type,m.static,m.abs,m.priv,(N:Int),m.code,m.handlers⟩:qc)=m:=(by rw[<-E.locals]);rw[hmm,<-E.locals]at hEn;have HEn:Hid (Calls prog 30 #[.pointer (some ⟨s,0,none⟩),.string cls,.agg #[.string m.name,.string m.type,.bool m.static,.bool m.abs,.bool m.priv,.int .i64 m.locals,.slice pc m.code.length kc,.slice ph m.handlers.length kh],.slice pv args.length kv] w6 fun e w'=>e=.returned (.tuple #[])/\Chg (fun b=>b=s) w6 w'/\∃cv' q,Qk w2 w' s B (.slice none 0 0) cv' [] [q] v0 ⟨#[]⟩ 0 false/\q.c=qaW cls m args):=hEn.mono fun e w' h=>by
         rcases h with⟨h,_⟩|⟨_,h1,h2,cv',q,h3,h4,_⟩
         ·exact absurd h (by decide)
         ·refine⟨h1,h2.mono (fun i _ hi=>?_),cv',q,h3,?_⟩
          ·rcases hi with hi|hi
           ·exact hi
           ·cases hi
          ·rw[h4];unfold qaW;rw[E.locals];rfl
        obtain⟨y0,y1,y2,y3,y4,y5,y6,y7⟩:=hMB6.cells8;clear hEn hmm M6 hMB6 HV6;have HOk:=Xh hok;clear hok E hn1 hn2 hn3 hn4 hn5 hmr';go_upto_region 25 with(go_fit HEn.out;rintro e w7⟨rfl,hC7,cv7,q7,M7,hq7⟩)
        have HK7:Hid (Blk w7 (w.heap.size+1+1) 45 [.int .i64 0,.int .i64 0,.string ⟨#[]⟩,.int .i64 0]):=HK6.out.chg hC7 (fun e=>by have:=HKb.out;omega);have X:Hid (Below w.heap.size w w7):=HBX6.out.trans (hC7.below HBX6.out.size (fun i hi=>by rw[hi];have:=HKb.out;omega));have hno:¬XS s (.slice none 0 0) cv7 [] [q7] (w.heap.size+1+1):=fun⟨r,hr⟩=>by
         have h1:=(M7.lt r _ hr).1;have h2:=HK2.out;omega
        have hXw:∀i,XS s (.slice none 0 0) cv7 [] [q7] i->w.heap.size<=i:=fun i ⟨r,hr⟩=>by
         have h1:=(M7.lt r _ hr).1;have h2:=HK2.out;omega
        have HF8:Hid (∀w8,Chg (XS s (.slice none 0 0) cv7 [] [q7]) w7 w8->Blk w8 (w.heap.size+1+1) 45 [.int .i64 0,.int .i64 0,.string ⟨#[]⟩,.int .i64 0]/\Below w.heap.size w w8):=fun w8 hc=>⟨HK7.out.chg hc hno,X.out.trans (hc.below X.out.size hXw)⟩
        have G:=zeZ ws w2 w7 s B (.slice none 0 0) cv7 [] [q7] M7 l HM.out HCo.out HAll.out g' (by show qa5 l g' ⟨[],[q7.c]⟩;rw[hq7];exact HOk.out) fuel.toNat (by have:=J.out.2;omega) (QaG (Za l) fuel.toNat ⟨[],[qaW cls m args]⟩) (by show QaG (Za l) fuel.toNat ⟨[],[q7.c]⟩=_;rw[hq7]);rw[Int.toNat_of_nonneg J.out.1]at G;have HRt:=J.out;clear HK7 X hno hXw hC7 M7 hq7 y0 y1 y2 y3 y4 y5 y6 y7;cases H:QaG (Za l) fuel.toNat ⟨[],[qaW cls m args]⟩ with
        |done v t n =>
         have HRs:=Xh H;rw[H]at G;have Y:Hid (Calls prog 31 #[.pointer (some ⟨s,0,none⟩),.int .i64 fuel] w7 fun e w'=>e=.returned .nilIface/\(Blk w' (w.heap.size+1+1) 45 [.int .i64 0,.int .i64 0,.string ⟨#[]⟩,.int .i64 0]/\Below w.heap.size w w')/\w'.cell? ⟨s,3,none⟩=some (.int .i64 v.kind)/\w'.cell? ⟨s,4,none⟩=some (.int .i64 v.n)/\w'.cell? ⟨s,5,none⟩=some (.string t)/\w'.cell? ⟨s,6,none⟩=some (.int .i64 (n:Int))):=G.mono fun e w' ⟨h1,h,hv8,cv8,ps8,qs8,U8,_⟩=>⟨h1,HF8.out w' U8.chg,U8.at'.blk.cell 3,U8.at'.blk.cell 4,U8.at'.blk.cell 5,U8.at'.blk.cell 6⟩
         clear H G HRt;go_upto_region 26 with(go_fit Y.out;rintro e w8⟨rfl,⟨O,d⟩,z3,z4,z5,z6⟩)
         obtain⟨⟨t0,t1,t2,t3⟩,f0,f1,f2,f3⟩:=ZF _ _ O;go_wp2_with fail;have hK9:Blk ((((w8.setCell ⟨w.heap.size+1+1,0,none⟩ (.int .i64 v.kind)).setCell ⟨w.heap.size+1+1,1,none⟩ (.int .i64 v.n)).setCell ⟨w.heap.size+1+1,2,none⟩ (.string t)).setCell ⟨w.heap.size+1+1,3,none⟩ (.int .i64 (n:Int))) (w.heap.size+1+1) 45 [.int .i64 v.kind,.int .i64 v.n,.string t,.int .i64 (n:Int)]:=(((O.put 0 (.int .i64 v.kind)).put 1 (.int .i64 v.n)).put 2 (.string t)).put 3 (.int .i64 (n:Int));have P:=hK9.cell 0;have R:=hK9.cell 1;have S:=hK9.cell 2;have T:=hK9.cell 3;have D:=Xh (zab d (Xf (Nat.le_succ _) (Nat.le_succ _)) (.int .i64 v.kind) (.int .i64 v.n) (.string t) (.int .i64 (n:Int)));clear hK9 d;simp[bodyPost,results,results13,go_sem,P,R,S,T];exact⟨D,0,HC,Or.inr ⟨rfl,J.out.1,J.out.2,m,HS,by rw[HRs.out];rfl⟩⟩
        |full =>
         have HRs:=Xh H;rw[H]at G;have Y:Hid (Calls prog 31 #[.pointer (some ⟨s,0,none⟩),.int .i64 fuel] w7 fun e w'=>e=.returned (.iface 52 (.int .i64 4))/\(Blk w' (w.heap.size+1+1) 45 [.int .i64 0,.int .i64 0,.string ⟨#[]⟩,.int .i64 0]/\Below w.heap.size w w')):=G.mono fun e w' ⟨h1,h⟩=>⟨h1,HF8.out w' h⟩
         clear H G HRt;go_upto_region 26 with(go_fit Y.out;rintro e w8⟨rfl,O,d⟩)
         obtain⟨⟨t0,t1,t2,t3⟩,f0,f1,f2,f3⟩:=ZF _ _ O;go_wp2_with fail;obtain⟨⟨P,R,S,T⟩,-⟩:=ZF _ _ ((((O.put 0 (.int .i64 0)).put 1 (.int .i64 0)).put 2 (.string ⟨#[]⟩)).put 3 (.int .i64 0));have D:=Xh (zab d (Xf (Nat.le_succ _) (Nat.le_succ _)) (.int .i64 0) (.int .i64 0) (.string ⟨#[]⟩) (.int .i64 0));clear O d;simp[bodyPost,results,results13,go_sem,P,R,S,T];exact⟨D,0,HC,Or.inr ⟨rfl,J.out.1,J.out.2,m,HS,by rw[HRs.out];rfl⟩⟩
        |fuel =>
         have HRs:=Xh H;rw[H]at G;have Y:Hid (Calls prog 31 #[.pointer (some ⟨s,0,none⟩),.int .i64 fuel] w7 fun e w'=>e=.returned (.iface 52 (.int .i64 10))/\(Blk w' (w.heap.size+1+1) 45 [.int .i64 0,.int .i64 0,.string ⟨#[]⟩,.int .i64 0]/\Below w.heap.size w w')):=G.mono fun e w' ⟨h1,h⟩=>⟨h1,HF8.out w' h⟩
         clear H G HRt;go_upto_region 26 with(go_fit Y.out;rintro e w8⟨rfl,O,d⟩)
         obtain⟨⟨t0,t1,t2,t3⟩,f0,f1,f2,f3⟩:=ZF _ _ O;go_wp2_with fail;obtain⟨⟨P,R,S,T⟩,-⟩:=ZF _ _ ((((O.put 0 (.int .i64 0)).put 1 (.int .i64 0)).put 2 (.string ⟨#[]⟩)).put 3 (.int .i64 0));have D:=Xh (zab d (Xf (Nat.le_succ _) (Nat.le_succ _)) (.int .i64 0) (.int .i64 0) (.string ⟨#[]⟩) (.int .i64 0));clear O d;simp[bodyPost,results,results13,go_sem,P,R,S,T];exact⟨D,0,HC,Or.inr ⟨rfl,J.out.1,J.out.2,m,HS,by rw[HRs.out];rfl⟩⟩
     ·have z1:((args.length:Int)==(ts.length:Int))=false:=(by simp;omega);have z2:((args.length:Int) != (ts.length:Int))=true:=(by simp;omega);have f:Hid (qam l cls name A args=none):=by
       exact zbt HFi.out HSt.out HMr.out (b:=false) (by rw[Xi hln];rfl)
      clear hln;obtain⟨⟨t0,t1,t2,t3⟩,f0,f1,f2,f3⟩:=ZF _ _ M.out;go_wp2_with fail;obtain⟨⟨P,R,S,T⟩,-⟩:=ZF _ _ ((((M.out.put 0 (.int .i64 0)).put 1 (.int .i64 0)).put 2 (.string ⟨#[]⟩)).put 3 (.int .i64 0));have D:=Xh (zab I.out (Xf (Nat.le_succ _) (Nat.le_succ _)) (.int .i64 0) (.int .i64 0) (.string ⟨#[]⟩) (.int .i64 0));simp[bodyPost,results,results13,go_sem,P,R,S,T];exact⟨D,0,HC,Or.inl ⟨8,by decide,Or.inr (by decide),Or.inr (Or.inl f.out),rfl⟩⟩
 ·have hK3:=HK3.out.step U;obtain⟨⟨t0,t1,t2,t3⟩,f0,f1,f2,f3⟩:=ZF _ _ hK3;have M:=Xh hK3;have HC:=Xh hC;have HN:=Xh hn;have HB2:=Xh (Qa aA Xl U);clear hK3 hC hn U;go_wp2_with fail;obtain⟨⟨P,R,S,T⟩,-⟩:=ZF _ _ ((((M.out.put 0 (.int .i64 0)).put 1 (.int .i64 0)).put 2 (.string ⟨#[]⟩)).put 3 (.int .i64 0));have D:=Xh (zab HB2.out (Xf (Nat.le_succ _) (Nat.le_succ _)) (.int .i64 0) (.int .i64 0) (.string ⟨#[]⟩) (.int .i64 0));simp[bodyPost,results,results13,go_sem,P,R,S,T];exact⟨D,n,HC,Or.inl ⟨n,HN,Or.inl rfl,Or.inl HN.out,rfl⟩⟩
