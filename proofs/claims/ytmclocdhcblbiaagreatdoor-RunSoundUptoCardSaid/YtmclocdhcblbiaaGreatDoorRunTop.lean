/- Lemmas; conditions: as each states. -/
import Derived.Test.YtmclocdhcblbiaaGreatDoorRunStepW
set_option maxHeartbeats 4000000
namespace Go.Proofs.YtmclocdhcblbiaaGreatDoor
open Go.RowKit Go.Shelf Go.Lib
theorem QcZ{l:List qa}(B:∀c∈l,Z4 c){c:Cal}{g:Str}{A:Asg Frm}(H:qaT l c g A):Zav c.m:=by
 obtain⟨c',C,_,D⟩:=Q2 H.known H.mem;exact(B c' C).methods _ D
theorem QcE{l:List qa}(G:zh l)(I:∀c∈l,Z4 c){h:List Zc}{N:Str}:∀{r:List Cal} {M:Str},zaE l h N r M->∀c∈r,(c.pc<=4194304/\c.S.length<=4194304)/\∀y∈c.m.handlers,ZW y
 |[],_,_,c,D=>by cases D
 |d::r,M,⟨g,Y,Z⟩,c,D=>by
  rcases List.mem_cons.1 D with rfl|D
  ·obtain⟨A,f,x,args,S,H,O,L,_,j,k,P,n,F⟩:=Y;obtain⟨R,o,C,T,⟨p,U,B,_⟩,_⟩:=H.at O;rw[L]at C;injection C with C
   subst C;have E:=qbf G T R B;obtain⟨_,V,_,_⟩:=Qt E;rw[F]at B;have J:S.length<=U.length:=by
    unfold Qa2 ZdG at B;split at B
    ·injection B with B
     injection B with q a
     rw[a];exact Xl
    ·split at B
     ·obtain⟨_,rfl⟩:=QQ B;simp
     ·cases B
   have b:=(List.getElem?_eq_some_iff.1 L).1;obtain⟨_,_,X,_⟩:=H.good;have e:=(zau X.code).small;have i:=P.len;dsimp only at V;exact⟨⟨by omega,by omega⟩,(QcZ I H).handlers⟩
  ·exact QcE G I Z c D
theorem Qd0{l:List qa}(E:zh l)(C:∀c∈l,Z4 c){F:Str}{h:List Zc}{c:Cal}{r:List Cal}(G:zaT l F ⟨h,c::r⟩):
 Qx (Za l) h=0/\r.length+1<=20/\Zav c.m/\∀d∈r,(d.pc<=4194304/\d.S.length<=4194304)/\∀y∈d.m.handlers,ZW y:=by
 obtain⟨D,B,c',M,g,e,⟨A,f,H,_⟩,I⟩:=G;dsimp only at D B e;injection e with J L
 subst J L;exact⟨D,by simpa using B,QcZ C H,QcE E C I⟩
def Ran.plus(s:Nat):Ran->Ran
 |.done v t n=>.done v t (n+s)
 |r=>r
theorem Ran.plus_later(s:Nat)(r:Ran):r.later.plus s=r.plus (s+1):=by
 cases r with
 |done v t n=>show Ran.done v t (n+1+s)=.done v t (n+(s+1));rw[Nat.add_assoc,Nat.add_comm 1 s]
 |full=>rfl
 |fuel=>rfl
theorem Ran.plus_zero(r:Ran):r.plus 0=r:=by cases r<;>rfl
theorem zc0(p:Addr)(w:World):
 CallsD Tryz.prog 53 #[.pointer (some p)] .returning w fun e A w'=>e=.returned (.tuple #[])/\A=.returning/\w'=w:=by
 refine callsD_of_wpS Tryz.func53 rfl fun B cs C=>?_
 apply wpS_seq;apply wpS_region;simp[wpOpsS,go_sem,recoverD,C,Tryz.ntmps53,Exit.thenS];apply wpS_seq;apply wpS_region;simp[wpOpsS,go_sem,Exit.thenS];refine wpS_cond (t:=false) (by simp[Act.eval,Array.replicate]) ?_;simp only[Bool.false_eq_true,if_false];refine wpS_of_wp (wp_skip ?_);cases B;simp_all [bodyPostS,results,Tryz.results53]
set_option maxRecDepth 100000
theorem zeB(A:Nat)(w:World)(F:Value)(C:Blk w A 25 [F])(B:List PanicEntry):
 CallsD Tryz.prog 53 #[.pointer (some ⟨A,0,none⟩)] (.panicking (zar 4::B)) w fun e P w'=>e=.returned (.tuple #[])/\P=.panicking ({ zar 4 with recovered:=true }::B)/\Chg (fun b=>b=A) w w'/\w'.cell? ⟨A,0,none⟩=some (.iface 52 (.int .i64 4)):=by
 have D:=(Below.refl w.heap.size w).alloc Xl (.cells #[.int .i64 4] 108);have I:=C.lt;have G:=Xh (C.step D);have E:=Xh C;have J:=Xh (Blk.new w 108 [.int .i64 4]);have T:=Xh D;have L:¬A=w.heap.size:=by omega
 have M:∀w:World,(Instr.typeAssert (.iface 108 (.agg #[.int .i64 4])) 20 108 true).run Tryz.prog w=.ok (.tuple #[.agg #[.int .i64 4],.bool true]) w:=fun w=>by kernel_rfl
 clear D C;refine callsD_of_wpS Tryz.func53 rfl fun R cs S=>?_
 apply wpS_seq;apply wpS_region;simp[wpOpsS,go_sem,recoverD,S,Tryz.ntmps53,Exit.thenS,zar];apply wpS_seq;apply wpS_region;simp[wpOpsS,go_sem,Exit.thenS];refine wpS_cond (t:=true) (by simp[Act.eval,Array.replicate]) ?_;simp only[if_true];refine wpS_of_wp ?_;have H:(#[Value.pointer (some ⟨A,0,none⟩)]++((((Array.replicate 17 undef).setIfInBounds 3 (.iface 108 (.agg #[.int .i64 4]))).setIfInBounds 0 (.iface 108 (.agg #[.int .i64 4]))).setIfInBounds 4 (.iface 108 (.agg #[.int .i64 4]))).setIfInBounds 5 (.bool true))=#[.pointer (some ⟨A,0,none⟩),.iface 108 (.agg #[.int .i64 4]),undef,undef,.iface 108 (.agg #[.int .i64 4]),.iface 108 (.agg #[.int .i64 4]),.bool true,undef,undef,undef,undef,undef,undef,undef,undef,undef,undef,undef]:=by kernel_rfl
 rw[H];clear H;have U:(w.alloc (.cells #[.int .i64 4] 108)).cell? ⟨A,0,none⟩=some F:=G.out.cell 0;have V:(w.alloc (.cells #[.int .i64 4] 108)).frozen? ⟨A,0,none⟩=false:=G.out.frozen 0;have X:(w.alloc (.cells #[.int .i64 4] 108)).cell? ⟨w.heap.size,0,none⟩=some (.int .i64 4):=J.out.cell 0;go_wp2_with fail;have N:Chg (fun b=>b=A) w ((w.setCell ⟨A,0,none⟩ (.iface 52 (.int .i64 4))).alloc (.cells #[.int .i64 4] 108)):=(Chg.one w A 0 _).alloc _;have O:((w.setCell ⟨A,0,none⟩ (.iface 52 (.int .i64 4))).alloc (.cells #[.int .i64 4] 108)).cell? ⟨A,0,none⟩=some (.iface 52 (.int .i64 4)):=((E.out.put 0 (.iface 52 (.int .i64 4))).step (Xb.alloc Xl _)).cell 0;cases R;exact⟨rfl,_,rfl,.tuple #[],by simp[results,Tryz.results53],rfl,rfl,N,O⟩
set_option maxRecDepth 512
def Zfp(w0 w:World)(X:Nat->Prop)(kb B:Nat)(r:Ran)(e:Ending)(w':World):Prop:=match r with
 |.done v t n=>e=.returned .nilIface/\∃h,Zaz w0 w X kb B h [] v t (n:Int) true w'
 |.full=>e=.returned (.iface 52 (.int .i64 4))/\Chg X w w'
 |.fuel=>e=.returned (.iface 52 (.int .i64 10))/\Chg X w w'
def zff(l:List qa)(g0:Str)(N:Nat)(r:Ran)(n:Nat)(ps:List (Zc×Value))(qs:List Zs)(tv:Val)(th:Str)(s:Nat)(ov:Bool):Prop :=
 (ov=true/\n=0/\qs=[]/\r=.done tv th s) \/
 (ov=false/\n=N-s+1/\s<=N/\tv=v0/\th=⟨#[]⟩/\zaT l g0 ⟨ps.map (·.1),(qs.map (·.c)).reverse⟩/\(QaI (Za l) (N-s) ⟨ps.map (·.1),(qs.map (·.c)).reverse⟩).plus s=r)
set_option maxRecDepth 100000
theorem zeV(w00 a w:World)(C B:Nat)(j k:Value)(ps:List (Zc×Value))(qs:List Zs)(M:Zk a w C B j k ps qs v0 ⟨#[]⟩ 0 false)(l:List qa)(hm:Zi w00 a B l)(hco:∀c∈l,Z4 c)(hall:Zao l)(g0:Str)(Z:zaT l g0 ⟨ps.map (·.1),(qs.map (·.c)).reverse⟩)(N:Nat)(hN:N<=2000)(V:Ran)(hres:QaI (Za l) N ⟨ps.map (·.1),(qs.map (·.c)).reverse⟩=V):
 Calls Tryz.prog 31 #[.pointer (some ⟨C,0,none⟩),.int .i64 (N:Int)] w (Zfp a w (XS C j k ps qs) C B V):=by
 have hmf:∀(fn:Fn) (first cap:Array Value) (w:World),(Instr.makeFunc fn first cap).run Tryz.prog w=.ok (.func fn first cap) w:=fun _ _ _ _=>rfl
 have U1:=M.boxed (.cells #[.nilIface] 25);have hBw:=(Below.refl w.heap.size w).alloc Xl (.cells #[.nilIface] 25);have HEnd:Hid (∀w' I J D G tv' th' st' ov',MW a (w.alloc (.cells #[.nilIface] 25)) (XS C j k ps qs) w' C B I J D G tv' th' st' ov'->MW a w (XS C j k ps qs) w' C B I J D G tv' th' st' ov'):=fun w' I J D G tv' th' st' ov' U=>M.start.unbox hBw U
 have HBox:Hid (∀w' I J D G tv' th' st' ov',MW a (w.alloc (.cells #[.nilIface] 25)) (XS C j k ps qs) w' C B I J D G tv' th' st' ov'->Blk w' w.heap.size 25 [.nilIface]):=fun w' I J D G tv' th' st' ov' U=>U.blk (Blk.new w _ [.nilIface]) (M.fresh Xl)
 have HChg:Hid (∀w',Chg (XS C j k ps qs) (w.alloc (.cells #[.nilIface] 25)) w'->Chg (XS C j k ps qs) w w'):=fun w' hc=>(Chg.of hBw).trans hc fun i _ hx=>hx
 have HXl:Hid (∀b,XS C j k ps qs b->b<w.heap.size):=fun b ⟨r,P⟩=>(M.lt r b P).2
 have HL0:Hid (a.heap.size<=w.heap.size):=M.size;have HS1:Hid ((w.alloc (.cells #[.nilIface] 25)).heap.size=w.heap.size+1):=by simp[Hid]
 have HM:=Xh hm;have HCo:=Xh hco;have HAll:=Xh hall;have HNN:=Xh hN;generalize XS C j k ps qs=X at *;generalize hw1:w.alloc (.cells #[.nilIface] 25)=w1 at *;have HW1:=Xh hw1;have HU1:=Xh U1;have HB1:=Xh (HBox.out _ _ _ _ _ _ _ _ _ U1);have HAt:Hid (zff l g0 N V (N+1) ps qs v0 ⟨#[]⟩ 0 false):=Or.inr ⟨rfl,rfl,Nat.zero_le _,rfl,rfl,Z,by rw[Ran.plus_zero];exact hres⟩;clear M hBw hm hco hall hN U1 hw1 Z hres;go_enter_defers Tryz.func31,Tryz.ntmps31
 go_upto_region 2 with fail;rw[HW1.out];go_loopg [] (N+1) (fun n wr=>∃(I J:Value) (D:List (Zc×Value)) (G:List Zs) (tv:Val) (th:Str) (s:Nat) (ov:Bool),Hid (MW a w1 X wr C B I J D G tv th (s:Int) ov)/\Hid (zff l g0 N V n D G tv th s ov))
 case atStart=>exact⟨j,k,ps,qs,v0,⟨#[]⟩,0,false,HU1,HAt⟩
 case round =>
  clear HU1 HAt;obtain⟨I,J,D,G,tv,th,s,ov,hT,hA⟩:=hrel;have q7:wr.cell? ⟨C,7,none⟩=some (.bool ov):=hT.out.at'.blk.cell 7;have q6:wr.cell? ⟨C,6,none⟩=some (.int .i64 (s:Int)):=hT.out.at'.blk.cell 6;have f6:=hT.out.at'.blk.frozen 6;have o:=Xh (HBox.out _ _ _ _ _ _ _ _ _ hT.out);have b0:wr.cell? ⟨w.heap.size,0,none⟩=some .nilIface:=o.out.cell 0;have g0':wr.frozen? ⟨w.heap.size,0,none⟩=false:=o.out.frozen 0;rcases hA.out with⟨rfl,hn,rfl,P⟩|⟨rfl,hn,hs,rfl,rfl,Z,P⟩
  ·have y:=Xh P;clear P hA hn;go_wp2_with fail;have c0:(wr.setCell ⟨w.heap.size,0,none⟩ .nilIface).cell? ⟨w.heap.size,0,none⟩=some .nilIface:=(o.out.put 0 _).cell 0;have m:=(HEnd.out _ _ _ _ _ _ _ _ _ hT.out).alien (Chg.one wr w.heap.size 0 .nilIface) (fun r e=>by
    rcases hT.out.parts r _ e with h|h
    ·have:=HXl.out _ h;omega
    ·have:=HS1.out;omega) Xl HL0.out
   refine leaves_cons (f:=53) (args:=#[.pointer (some ⟨w.heap.size,0,none⟩)]) (by simp) (by simp[go_sem]) ?_;refine(zc0 _ _).mono ?_;rintro e u' w''⟨rfl,rfl,rfl⟩;simp[Leaves,settle,results,Tryz.results31,go_sem,c0];rw[y.out];exact⟨rfl,_,I,J,D,[],m,rfl,rfl⟩
  ·by_cases hsN:s=N
   ·subst hsN;have y:Hid (V=.fuel):=by
     rw[Nat.sub_self]at P;exact P.symm
    clear P hA hn Z hs;have hcc:=HChg.out _ hT.out.chg;go_wp2_with fail;have c0:(wr.setCell ⟨w.heap.size,0,none⟩ (.iface 52 (.int .i64 10))).cell? ⟨w.heap.size,0,none⟩=some (.iface 52 (.int .i64 10)):=(o.out.put 0 _).cell 0;have hC2:=hcc.set (p:=⟨w.heap.size,0,none⟩) (fun h=>absurd h (Nat.lt_irrefl _)) (.iface 52 (.int .i64 10));refine leaves_cons (f:=53) (args:=#[.pointer (some ⟨w.heap.size,0,none⟩)]) (by simp) (by simp[go_sem]) ?_;refine(zc0 _ _).mono ?_;rintro e u' w''⟨rfl,rfl,rfl⟩;simp[Leaves,settle,results,Tryz.results31,go_sem,c0];rw[y.out];exact⟨rfl,hC2⟩
   ·obtain⟨r,q,rfl⟩:∃r q,G=r++[q]:=by
     rcases List.eq_nil_or_concat G with rfl|⟨r,q,rfl⟩
     ·obtain⟨_,_,c,r,g,e,_⟩:=Z;cases e
     ·exact⟨r,q,List.concat_eq_append ..⟩
    have hR:=HM.out.right;have T:=QaV (fun x:Zs=>x.c) r q;rw[T]at Z P;obtain⟨f1,f2,f3,f4⟩:=Qd0 hR HCo.out Z;obtain⟨x,F⟩:=QeV hR HM.out.faults Z;have S:=Qeb hR HM.out.faults HAll.out Z;have z:s<N:=(by omega);have z0:((s:Int)==(N:Int))=false:=(by simp;omega);have z1:IntKind.i64.wrap ((s:Int)+1)=(s:Int)+1:=IntWalk.i64_in _ (by have:=HNN.out;omega);have m:=hT.out.tell (tv':=v0) (th':=⟨#[]⟩) (st':=(s:Int)+1) (ov':=false) (Chg.one wr C 6 (.int .i64 ((s:Int)+1))) (hT.out.at'.blk.put 6 _);have aA:x.type.size<=1048576:=(f3.code x (Xe F.code)).type;have R:=QeA w00 a _ C B I J D r q ((s:Int)+1) m.at' l HM.out f1 (by simpa using f2) (fun p hp=>by
     rcases List.mem_append.1 hp with hp|hp
     ·exact(f4 p.c (List.mem_reverse.2 (List.mem_map.2 ⟨p,hp,rfl⟩))).2
     ·rw[List.mem_singleton.1 hp];exact f3.handlers) (fun p hp=>(f4 p.c (List.mem_reverse.2 (List.mem_map.2 ⟨p,hp,rfl⟩))).1) x F aA
    obtain⟨f,hf⟩:∃f,N-s=f+1:=⟨N-s-1,by omega⟩;rw[hf]at P;unfold QaI at P;have hq:Hid (gk=N-s+1):=hn;have hsl':=Xh z;have hff:=Xh hf;have hU2:=Xh m;cases Y:QbD (Za l) ⟨D.map (·.1),q.c::(r.map (·.c)).reverse⟩ with
    |full =>
     rw[Y]at R P;have y:Hid (V=.full):=P.symm;have d:Hid (Calls Tryz.prog 54 #[.pointer (some ⟨C,0,none⟩)] (wr.setCell ⟨C,6,none⟩ (.int .i64 ((s:Int)+1))) fun e w'=>∃E,e=.panicked (zar 4::E)/\E.dropWhile (!·.goexit)=[]/\Chg X w1 w'):=R.mono fun e w' h=>by
      rcases h with⟨_,⟨E,h1,h2⟩,h3⟩|⟨h,_⟩
      ·exact⟨E,h1,h2,m.over h3⟩
      ·exact absurd rfl h
     clear hA hn hs Z P T f1 f2 f3 f4 F S z m aA R hf Y hq hff;go_wp2_with (go_fit d.out;rintro e w5⟨E,rfl,hd,hc⟩)
     have hb5:=HB1.out.chg hc (fun h=>by have:=HXl.out _ h;omega);refine leaves_cons (f:=53) (args:=#[.pointer (some ⟨w.heap.size,0,none⟩)]) (by simp) (by simp[go_sem]) ?_;refine(zeB w.heap.size w5 _ hb5 E).mono ?_;rintro e u' w''⟨rfl,rfl,hC,c0⟩;have hCC:=(HChg.out _ hc).trans hC (fun i hi e=>absurd e (Nat.ne_of_lt hi));simp[Leaves,settle,results,Tryz.results31,go_sem,c0,hd];rw[y.out];exact⟨rfl,hCC⟩
    |on k' =>
     rw[Y]at R P S;dsimp only at P;rw[Ran.plus_later]at P;have S:zaT l g0 k':=S;have d:Hid (Calls Tryz.prog 54 #[.pointer (some ⟨C,0,none⟩)] (wr.setCell ⟨C,6,none⟩ (.int .i64 ((s:Int)+1))) fun e w'=>e=.returned (.tuple #[])/\∃L O H A,MW a w1 X w' C B L O H A v0 ⟨#[]⟩ ((s:Int)+1) false/\H.map (·.1)=k'.h/\A.map (·.c)=k'.calls.reverse):=R.mono fun e w' h=>by
      rcases h with⟨h,_⟩|⟨_,h1,L,O,H,A,U5,e1,e2⟩
      ·cases h
      ·exact⟨h1,L,O,H,A,m.then U5,e1,e2⟩
     have HOk:=Xh S;have y:=Xh P;clear hA hn hs Z P T f1 f2 f3 f4 F S z m aA R hf Y;go_wp2_with (go_fit d.out;rintro e w5⟨rfl,L,O,H,A,U5,e1,e2⟩)
     go_roundg (f+1)
     case measure =>
      have hf:=hff.out;have hq:=hq.out;omega
     case rel =>
      have hf:=hff.out;have hs:=hsl'.out;have e3:(A.map (·.c)).reverse=k'.calls:=(by rw[e2,List.reverse_reverse]);refine⟨L,O,H,A,v0,⟨#[]⟩,s+1,false,U5,Or.inr ⟨rfl,by omega,by omega,rfl,rfl,by rw[e1,e3];exact HOk.out,?_⟩⟩;rw[e1,e3,show N-(s+1)=f by omega];exact y.out
    |ends v t =>
     rw[Y]at R P;dsimp only at P;have d:Hid (Calls Tryz.prog 54 #[.pointer (some ⟨C,0,none⟩)] (wr.setCell ⟨C,6,none⟩ (.int .i64 ((s:Int)+1))) fun e w'=>e=.returned (.tuple #[])/\∃L O H A,MW a w1 X w' C B L O H A v t ((s:Int)+1) true/\A.map (·.c)=[]):=R.mono fun e w' h=>by
      rcases h with⟨h,_⟩|⟨_,h1,hh,L,O,H,A,U5,e1,e2⟩
      ·cases h
      ·exact⟨h1,L,O,H,A,m.then U5,e2⟩
     have y:=Xh P;clear hA hn hs Z P T f1 f2 f3 f4 F S z m aA R hf Y;go_wp2_with (go_fit d.out;rintro e w5⟨rfl,L,O,H,A,U5,e2⟩)
     go_roundg 0
     case measure =>
      have hq:=hq.out;omega
     case rel =>
      refine⟨L,O,H,A,v,t,s+1,true,U5,Or.inl ⟨rfl,rfl,List.map_eq_nil_iff.1 e2,?_⟩⟩;rw[<-y.out];show Ran.done v t (1+s)=.done v t (s+1)
      rw[Nat.add_comm]
set_option maxRecDepth 512
theorem Zc0:∀(l:List UInt8) (j:Nat),zq l<j->zq (l.take j)=zq l
 |[],_,_=>by simp
 |c::r,0,h=>by omega
 |c::r,j+1,h=>by
  rw[List.take_succ_cons];unfold zq at h ⊢;split
  ·rename_i A;rw[if_pos A]at h;rw[Zc0 r j (by omega)]
  ·rfl
theorem zed:∀l:List UInt8,zq l<=l.length
 |[]=>Xl
 |c::r=>by
  unfold zq;split
  ·have:=zed r;simp;omega
  ·exact Nat.zero_le _
theorem qc0:∀q:List UInt8,Zn q<q.length->Zn (q.take (Zn q+1))=Zn q
 |[],h=>by simp at h
 |c::r,h=>by
  by_cases A:c=59
  ·have e:Zn (c::r)=0:=(by unfold Zn;rw[if_pos A]);rw[e];show Zn [c]=0
   unfold Zn;rw[if_pos A]
  ·have e:∀r,Zn (c::r)=Zn r+1:=fun r=>by
    conv=>lhs;unfold Zn
    rw[if_neg A]
   rw[e]at h ⊢;rw[List.take_succ_cons,e,qc0 r (by simpa using h)]
theorem ZeB:∀q:List UInt8,0<QA q->QA (q.take (QA q))=QA q
 |[],h=>by simp[QA]at h
 |c::r,h=>by
  unfold QA at h ⊢;dsimp only at h ⊢;by_cases A:c=73\/c=74
  ·rw[if_pos A];simp[A]
  ·rw[if_neg A]at h ⊢;by_cases C:c=76
   ·rw[if_pos C]at h ⊢;by_cases B:Zn r<r.length/\Zx (r.take (Zn r))=true
    ·rw[if_pos B,List.take_succ_cons];dsimp only;rw[if_neg A,if_pos C];have D:=qc0 r B.1;rw[if_pos,D];rw[D];refine⟨by rw[List.length_take];omega,?_⟩;rw[List.take_take,Nat.min_eq_left (by omega)];exact B.2
    ·rw[if_neg B]at h;omega
   ·rw[if_neg C]at h;omega
theorem qfa(q:List UInt8):QA q<=q.length:=by
 cases q with
 |nil=>exact Xl
 |cons c r =>
  unfold QA;dsimp only;split
  ·simp
  ·split
   ·split
    ·rename_i h;simp;omega
    ·exact Nat.zero_le _
   ·exact Nat.zero_le _
theorem qeB{l:List UInt8}(h:0<Qn l):qo (l.take (Qn l))=true:=by
 unfold Qn at h;split at h
 ·rename_i B;have I:=zed l;have E:=qfa (l.drop (zq l));rw[List.length_drop]at E;have e:Qn l=zq l+QA (l.drop (zq l)):=by unfold Qn;rw[if_pos B]
  have A:(l.take (Qn l)).length=Qn l:=by rw[List.length_take,e];omega
  unfold qo;rw[A];have C:zq (l.take (Qn l))=zq l:=Zc0 l _ (by rw[e];omega);have D:(l.take (Qn l)).drop (zq l)=(l.drop (zq l)).take (QA (l.drop (zq l))):=by rw[e,List.drop_take,Nat.add_sub_cancel_left]
  have F:Qn (l.take (Qn l))=Qn l:=by
   generalize l.take (Qn l)=t at C D;rw[e];unfold Qn;rw[C,D,ZeB _ B.2,if_pos B]
  have G:(l.take (Qn l)).isEmpty=false:=by
   cases H:l.take (Qn l) with
   |nil=>rw[H]at A;simp at A;omega
   |cons a b=>rfl
  rw[F,G];simp
 ·omega
theorem ZbX:∀(n:Nat) (r:ByteArray) (acc:List ByteArray),(∀t∈acc,qo (lst t)=true)->∀t∈(zav n r acc).2.1,qo (lst t)=true
 |0,_,_,h,t,A=>h t A
 |n+1,r,acc,h,t,A=>by
  unfold zav at A;split at A
  ·exact h t A
  ·split at A
   ·exact h t A
   ·rename_i B;refine ZbX n _ _ (fun t A=>?_) t A;rcases List.mem_append.1 A with A|A
    ·exact h t A
    ·rw[List.mem_singleton.1 A];have e:lst (r.extract 0 (Qn r.data.toList))=r.data.toList.take (Qn r.data.toList):=(by simp[lst,ByteArray.data_extract,Array.toList_extract]);rw[e];exact qeB (by omega)
theorem QbU{s:Str}{args:List Str}{g:Str}(h:qi s=some (args,g)):∀t∈args,qo (lst t)=true:=by
 unfold qi Zw at h;split at h
 ·injection h with h
  rw[Prod.mk.injEq]at h;rw[<-h.1];intro t A;unfold qv at A;split at A
  ·exact ZbX _ _ [] (fun t h=>by cases h) t A
  ·cases A
 ·cases h
def Zbq(l:List qa)(kind:Str)(args:List Val):Bool:=match qi kind with
 |none=>false
 |some (ts,_)=>decide (args.length=ts.length)&&(args.zip ts).all fun p=>zm (Za l) [] p.1 (Qy p.2)
def Qdx(n t:Str)(ms:List zg):Int:=zbj (fun m=>decide (m.name=n)&&decide (m.type=t)) ms
def Qal(l:List qa)(cls name kind:Str)(args:List Val):Option zg:=match (Ze (Za l) cls).methods.find? (fun m=>decide (m.name=name)&&decide (m.type=kind)) with
 |none=>none
 |some m=>if (m.static&&Zbq l kind args)=true then some m else none
def zaJ(cls:Str)(m:zg)(args:List Val):Cal:=⟨cls,m,0,args++List.replicate (m.locals.toNat-args.length) v0,[]⟩
theorem zdE{cs:List qa}{h:List Zc}:∀{args:List Val} {ts:List Str},args.length=ts.length->(∀p∈args.zip ts,zy cs h p.1 p.2)->Qk cs h args ts
 |[],[],_,_=>trivial
 |v::vs,t::ts,A,B=>⟨B (v,t) (by simp),zdE (by simpa using A) fun p h=>B p (by simp[h])⟩
 |[],_::_,A,_=>by simp at A
 |_::_,[],A,_=>by simp at A
theorem zdy{l:List qa}(V:zh l)(P:∀c∈l,qf c=0)(G:Zao l){cls C B:Str}{args:List Val}{m:zg}(h:Qal l cls C B args=some m):
 m.name=C/\m.type=B/\m.static=true/\(Qb (Za l) cls).isSome=true/\m∈(Ze (Za l) cls).methods/\∃ts g,qi B=some (ts,g)/\(∃N,zbV args m N)/\zaT l g ⟨[],[zaJ cls m args]⟩:=by
 unfold Qal at h;cases M:(Ze (Za l) cls).methods.find? (fun m=>decide (m.name=C)&&decide (m.type=B)) with
 |none=>rw[M]at h;cases h
 |some S =>
  rw[M]at h;dsimp only at h;split at h
  ·rename_i D;injection h with h
   subst h;rw[Bool.and_eq_true]at D;have A:=List.mem_of_find?_eq_some M;have F:=List.find?_some M;rw[Bool.and_eq_true]at F;have X:=Xm F.1;have T:=Xm F.2;have J:(Qb (Za l) cls).isSome=true:=by
    cases a:Qb (Za l) cls with
    |some c=>rfl
    |none =>
     have:Ze (Za l) cls=qg:=(by unfold Ze;rw[a];rfl);rw[this]at A;cases A
   have H:=ZaT P J A (Or.inl D.1);unfold Zbq at D;cases O:qi B with
   |none =>
    rw[O]at D;have Y:false=true:=D.2;cases Y
   |some p =>
    obtain⟨ts,g⟩:=p;rw[O]at D;have L:=D.2;dsimp only at L;rw[Bool.and_eq_true]at L;have E:=Xm L.1;have I:qi S.type=some (ts,g):=(by rw[T];exact O);refine⟨X,T,D.1,J,A,ts,g,rfl,Zbg P J A H I (by rw[D.1];exact E),rfl,by show 1<=20;decide,_,[],g,rfl,?_,rfl⟩;have R:Qk (Za l) [] args (qaG cls S.static++ts):=by
     have:qaG cls S.static=[]:=(by unfold qaG;rw[D.1];rfl);rw[this];refine zdE E fun p U=>?_
     have Z:=QbU O p.2 (List.of_mem_zip U).2;exact QbW Z (List.all_eq_true.1 L.2 p U)
    exact qdC V P G rfl J A H I R
  ·cases h
theorem zcF{l:List qa}{c:Str}{m:zg}(E:qag l c m)(J:qdj l c m):False:=by
 obtain⟨M,args,g,C,H,N⟩:=J;rcases E with E|⟨G,R,B,A,D,I⟩
 ·rw[M]at E;cases E
 ·have F:=H.type;rw[D.type]at F;injection F with F
  injection F with O P
  subst O P;have L:C=B:=by
   have:=H.locals;rw[D.locals]at this;omega
  subst L;exact N I.1 A I.2.1
theorem zby{l:List qa}{n H:Nat}(h:Qaj l n)(I:Qaj l H):n=H:=by
 rcases h with⟨A,C⟩|⟨A,C,E⟩|⟨A,C,c,J,m,L,E⟩<;>rcases I with⟨B,D⟩|⟨B,D,F⟩|⟨B,D,d,M,N,G,F⟩
 ·rw[C,D]
 ·exact absurd B A
 ·exact absurd B A
 ·exact absurd A B
 ·rw[C,D]
 ·exact(zcF (E d M N G) F).elim
 ·exact absurd A B
 ·exact(zcF (F c J m L) E).elim
 ·rw[C,D]
end Go.Proofs.YtmclocdhcblbiaaGreatDoor
