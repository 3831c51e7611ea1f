/- Lemmas; conditions: as each states. -/
import Derived.Test.YtmclocdhcblbiaaGreatDoorZRunCallR
set_option maxHeartbeats 4000000
namespace Go.Proofs.YtmclocdhcblbiaaGreatDoor
open Go.RowKit Go.Shelf Go.Lib Tryz
def adI(op a:Int)(t:Str):Ins:=⟨op,a,0,t,⟨#[]⟩,⟨#[]⟩⟩
def adK:Str:=⟨#[73]⟩
def QaW:Str:=⟨#[65]⟩
def adM:qc:=⟨⟨#[97,100,100]⟩,⟨#[40,73,73,41,73]⟩,true,false,false,2,[adI 4 0 ⟨#[]⟩,adI 4 1 ⟨#[]⟩,adI 9 1 adK,adI 27 0 ⟨#[]⟩],[]⟩
def adC:qa:=⟨QaW,⟨#[79,98,106,101,99,116]⟩,[],false,[],[adM]⟩
def adF:Nat->Frm
 |0=>⟨[adK,adK],[]⟩
 |1=>⟨[adK,adK],[adK]⟩
 |2=>⟨[adK,adK],[adK,adK]⟩
 |_=>⟨[adK,adK],[adK]⟩
def adA:Asg Frm:=fun i=>if i<4 then some (adF i) else none
theorem qdd:zj [adC]=0:=by kernel_rfl
theorem Zfd:Zl adM.type=some ([adK,adK],adK):=by kernel_rfl
theorem qea:ZC adM.code=0:=by kernel_rfl
theorem qdy:zaa QaW adM.static [adK,adK] 2=[adK,adK]:=by kernel_rfl
theorem QeW:qa2 (Za [adC]) [adK,adK] adK=true:=by kernel_rfl
theorem Qdy:∀i,i<3->qaF (Za [adC]) QaW adK adM i (adF i)=some [(i+1,adF (i+1))]
 |0,_=>by kernel_rfl
 |1,_=>by kernel_rfl
 |2,_=>by kernel_rfl
theorem qfd:qaF (Za [adC]) QaW adK adM 3 (adF 3)=some []:=by kernel_rfl
theorem zbz:∀i,i<4->qG (Za [adC]) (adF i)=0
 |0,_=>by kernel_rfl
 |1,_=>by kernel_rfl
 |2,_=>by kernel_rfl
 |3,_=>by kernel_rfl
theorem Qfd:(zW (Za [adC]) QaW adK adM ⟨[adK,adK],[]⟩).Good:=qbH (QaK qdd) (fun c A=>by rw[List.mem_singleton.1 A];kernel_rfl) qea (by kernel_rfl) (zbz 0 (by decide))
theorem Qdd{i:Nat}{f:Frm}(h:adA i=some f):i<4/\f=adF i:=by
 unfold adA at h;split at h
 ·rename_i A;exact⟨A,(Option.some.inj h).symm⟩
 ·cases h
theorem zeX:(zW (Za [adC]) QaW adK adM ⟨[adK,adK],[]⟩).Least adA:=by
 have H:=Qfd;have A:∀f,Zbl (Za [adC]) f f:=fun f=>⟨LeL.refl _ _,LeL.refl _ _⟩
 refine⟨⟨fun i f h=>?_,fun i f h=>?_,_,rfl,A _⟩,fun G I=>?_⟩
 ·obtain⟨C,rfl⟩:=Qdd h;exact⟨C,zbz i C⟩
 ·obtain⟨C,rfl⟩:=Qdd h;by_cases S:i<3
  ·refine⟨_,Qdy i S,fun p F=>?_⟩;rw[List.mem_singleton.1 F];exact⟨adF (i+1),if_pos (by omega),A _⟩
  ·obtain rfl:i=3:=(by omega);exact⟨_,qfd,fun p F=>by cases F⟩
 ·have B:∀i,i<4->∃g,G i=some g/\Zbl (Za [adC]) (adF i) g:=fun i=>by
   induction i with
   |zero=>exact fun _=>I.2.2
   |succ i Z =>
    intro Y;obtain⟨g,e,L⟩:=Z (by omega);obtain⟨D,E⟩:=I.1 i g e;obtain⟨N,O,T⟩:=I.2.1 i g e;obtain⟨a,P,F⟩:=H.mono i (adF i) g N D (zbz i (by omega)) E L O;rw[show(zW (Za [adC]) QaW adK adM ⟨[adK,adK],[]⟩).edges i (adF i)=some [(i+1,adF (i+1))] from Qdy i (by omega)]at P;obtain rfl:=Option.some.inj P;obtain⟨q,R,U,V⟩:=F _ (List.mem_singleton.2 rfl);obtain⟨h,M,X⟩:=T q R;have J:=H.out i g N D E O q R;refine⟨h,by rw[<-U]at M;exact M,H.trans _ q.2 h (zbz (i+1) Y) J.2 (I.1 _ h M).2 V X⟩
  intro i f h;obtain⟨C,rfl⟩:=Qdd h;exact B i C
theorem zcX{w:World}{b:Nat}:∀{vs:List Value} {o:Nat},(∀(j:Nat) (u:Value),vs[j]? = some u->w.cell? ⟨b,o+j,none⟩=some u)->qw w b o vs
 |[],_,_=>trivial
 |_::r,o,h=>⟨h 0 _ rfl,zcX (vs:=r) (o:=o+1) fun j u A=>by
  rw[show o+1+j=o+(j+1) by omega];exact h (j+1) u (by simpa using A)⟩
theorem zbL{α:Type}{w:World}{k b:Nat}{t:TypeId}{R:α->List Value->Prop}{x:α}{vs:List Value}(B:Blk w b t vs)(C:R x vs)(D:vs.length=k):Qe w k R (.slice (some ⟨b,0,none⟩) 1 1) [x]:=by
 refine Or.inr ⟨⟨b,0,none⟩,1,rfl,Xl,by decide,fun i y A=>?_⟩;cases i with
 |zero =>
  have A:x=y:=by simpa using A
  subst A;exact⟨vs,C,D,rfl,zcX fun j u E=>(B.cell _).trans (by simpa using E)⟩
 |succ i=>simp at A
def ZbL:List Value:=[.int .i64 4,.int .i64 0,.int .i64 0,.string ⟨#[]⟩,.string ⟨#[]⟩,.string ⟨#[]⟩,.int .i64 4,.int .i64 1,.int .i64 0,.string ⟨#[]⟩,.string ⟨#[]⟩,.string ⟨#[]⟩,.int .i64 9,.int .i64 1,.int .i64 0,.string ⟨#[73]⟩,.string ⟨#[]⟩,.string ⟨#[]⟩,.int .i64 27,.int .i64 0,.int .i64 0,.string ⟨#[]⟩,.string ⟨#[]⟩,.string ⟨#[]⟩]
theorem ZeX{w:World}{b:Nat}{t:TypeId}(C:Blk w b t ZbL):Qe w 6 Zv (.slice (some ⟨b,0,none⟩) 4 4) adM.code:=by
 refine Or.inr ⟨⟨b,0,none⟩,4,rfl,Xl,by decide,fun i y B=>?_⟩;have A:∀j u,ZbL[j]? = some u->w.cell? ⟨b,j,none⟩=some u:=fun j u h=>(C.cell j).trans h
 match i,B with
 |0,B =>
  obtain rfl:adI 4 0 ⟨#[]⟩=y:=Option.some.inj B;exact⟨_,rfl,rfl,rfl,A 0 _ rfl,A 1 _ rfl,A 2 _ rfl,A 3 _ rfl,A 4 _ rfl,A 5 _ rfl,trivial⟩
 |1,B =>
  obtain rfl:adI 4 1 ⟨#[]⟩=y:=Option.some.inj B;exact⟨_,rfl,rfl,rfl,A 6 _ rfl,A 7 _ rfl,A 8 _ rfl,A 9 _ rfl,A 10 _ rfl,A 11 _ rfl,trivial⟩
 |2,B =>
  obtain rfl:adI 9 1 adK=y:=Option.some.inj B;exact⟨_,rfl,rfl,rfl,A 12 _ rfl,A 13 _ rfl,A 14 _ rfl,A 15 _ rfl,A 16 _ rfl,A 17 _ rfl,trivial⟩
 |3,B =>
  obtain rfl:adI 27 0 ⟨#[]⟩=y:=Option.some.inj B;exact⟨_,rfl,rfl,rfl,A 18 _ rfl,A 19 _ rfl,A 20 _ rfl,A 21 _ rfl,A 22 _ rfl,A 23 _ rfl,trivial⟩
 |i+4,B=>cases B
set_option maxRecDepth 100000
theorem Zeu(w:World):Calls prog 22 #[] w fun e w'=>∃a,e=.returned (.slice (some a) 1 1)/\zx w' (.slice (some a) 1 1) [adC]/\Below w.heap.size w w':=by
 have C:Hid (∀(wx:World) (o:Obj),Below wx.heap.size wx (wx.alloc o)):=fun wx o=>Xb.alloc Xl o
 have F:=Blk.new w 34 ZbL;have G:=F.step (C.out _ (.cells #[.string ⟨#[97,100,100]⟩,.string ⟨#[40,73,73,41,73]⟩,.bool true,.bool false,.bool false,.int .i64 2,.slice (some ⟨w.heap.size,0,none⟩) 4 4,.slice none 0 0] 39));have H:=G.step (C.out _ (.cells #[.string ⟨#[97,100,100]⟩,.string ⟨#[40,73,73,41,73]⟩,.bool true,.bool false,.bool false,.int .i64 2,.slice (some ⟨w.heap.size,0,none⟩) 4 4,.slice none 0 0] 39));have I:=H.step (C.out _ (.cells #[.string ⟨#[65]⟩,.string ⟨#[79,98,106,101,99,116]⟩,.slice none 0 0,.bool false,.slice none 0 0,.slice (some ⟨w.heap.size+1+1,0,none⟩) 1 1] 31));have J:=Blk.new ((w.alloc (.cells ZbL.toArray 34)).alloc (.cells #[.string ⟨#[97,100,100]⟩,.string ⟨#[40,73,73,41,73]⟩,.bool true,.bool false,.bool false,.int .i64 2,.slice (some ⟨w.heap.size,0,none⟩) 4 4,.slice none 0 0] 39)) 39 [.string ⟨#[97,100,100]⟩,.string ⟨#[40,73,73,41,73]⟩,.bool true,.bool false,.bool false,.int .i64 2,.slice (some ⟨w.heap.size,0,none⟩) 4 4,.slice none 0 0];have D:=J.step (C.out _ (.cells #[.string ⟨#[65]⟩,.string ⟨#[79,98,106,101,99,116]⟩,.slice none 0 0,.bool false,.slice none 0 0,.slice (some ⟨w.heap.size+1+1,0,none⟩) 1 1] 31));have E:=Blk.new (((w.alloc (.cells ZbL.toArray 34)).alloc (.cells #[.string ⟨#[97,100,100]⟩,.string ⟨#[40,73,73,41,73]⟩,.bool true,.bool false,.bool false,.int .i64 2,.slice (some ⟨w.heap.size,0,none⟩) 4 4,.slice none 0 0] 39)).alloc (.cells #[.string ⟨#[97,100,100]⟩,.string ⟨#[40,73,73,41,73]⟩,.bool true,.bool false,.bool false,.int .i64 2,.slice (some ⟨w.heap.size,0,none⟩) 4 4,.slice none 0 0] 39)) 31 [.string ⟨#[65]⟩,.string ⟨#[79,98,106,101,99,116]⟩,.slice none 0 0,.bool false,.slice none 0 0,.slice (some ⟨w.heap.size+1+1,0,none⟩) 1 1];have L:Below w.heap.size w ((((w.alloc (.cells ZbL.toArray 34)).alloc (.cells #[.string ⟨#[97,100,100]⟩,.string ⟨#[40,73,73,41,73]⟩,.bool true,.bool false,.bool false,.int .i64 2,.slice (some ⟨w.heap.size,0,none⟩) 4 4,.slice none 0 0] 39)).alloc (.cells #[.string ⟨#[97,100,100]⟩,.string ⟨#[40,73,73,41,73]⟩,.bool true,.bool false,.bool false,.int .i64 2,.slice (some ⟨w.heap.size,0,none⟩) 4 4,.slice none 0 0] 39)).alloc (.cells #[.string ⟨#[65]⟩,.string ⟨#[79,98,106,101,99,116]⟩,.slice none 0 0,.bool false,.slice none 0 0,.slice (some ⟨w.heap.size+1+1,0,none⟩) 1 1] 31)) :=
  (((Xb.alloc Xl _).alloc (by simp) _).alloc (by simp;omega) _).alloc (by simp;omega) _
 simp only[World.size_alloc]at D E;have A:=Xh (zbL (R:=ZQ _) (x:=adC) E ⟨_,_,_,rfl,Or.inl ⟨rfl,rfl⟩,Or.inl ⟨rfl,rfl⟩,zbL (R:=zo _) (x:=adM) D ⟨_,_,rfl,ZeX I,Or.inl ⟨rfl,rfl⟩⟩ rfl⟩ rfl);have B:=Xh L;clear F G H I J D E L;unfold ZbL at A B;go_enter func22,ntmps22;go_wp2_with fail;go_ret;exact⟨_,rfl,A,B⟩
theorem zft:∀c∈[adC],qM c:=fun c D=>by
 rw[List.mem_singleton.1 D];refine⟨by decide,by decide,(fun x A=>by cases A),(fun x A=>by cases A),fun x A=>?_⟩;rw[List.mem_singleton.1 A];refine⟨by decide,by decide,by unfold ZbA;decide,fun y B=>?_,(fun y B=>by cases B)⟩;have C:y=adI 4 0 ⟨#[]⟩\/y=adI 4 1 ⟨#[]⟩\/y=adI 9 1 adK\/y=adI 27 0 ⟨#[]⟩:=by simpa[adM] using B
 rcases C with rfl|rfl|rfl|rfl<;>exact⟨by unfold ZbA adI;decide,by unfold ZbA adI;decide,by unfold ZbA adI;decide,by decide,by decide,by decide⟩
theorem Qfp:qE (Za [adC]) QaW adK adM (zaa QaW adM.static [adK,adK] 2) (some adA):=by
 rw[qdy];exact⟨QeW,zeX⟩
theorem zfq{args:List Str}{g:Str}{A:Nat}(h:QaJ adM args g A):args=[adK,adK]/\g=adK/\A=2:=by
 have B:=h.type;rw[Zfd]at B;injection B with B
 injection B with B C
 have D:(2:Int)=(A:Int):=h.locals;exact⟨B.symm,C.symm,by omega⟩
theorem ZcN{G:Option (Asg Frm)}(h:qE (Za [adC]) QaW adK adM (zaa QaW adM.static [adK,adK] 2) G):G=some adA :=
 qb4 (QaK qdd) (fun c A=>by rw[List.mem_singleton.1 A];kernel_rfl) qea (by kernel_rfl) (by rw[qdy];decide) h Qfp
theorem qeX{n:Nat}(h:Qar [adC] n):n=0:=by
 rcases h with⟨h,_⟩|⟨_,h,_⟩|⟨_,_,c,B,m,C,_,args,g,A,D,E⟩
 ·exact absurd qdd h
 ·exact h
 ·obtain rfl:=List.mem_singleton.1 B;obtain rfl:m=adM:=List.mem_singleton.1 C;obtain⟨rfl,rfl,rfl⟩:=zfq D;cases ZcN E
theorem Zft:prog.underlying 43=some (.struct (prog.fieldsOf 43)):=by kernel_rfl
theorem qft:prog.stoodInHeld 43=false:=by kernel_rfl
theorem Qft:(prog.fieldsOf 43).toList.map (fun f=>(f.name,f.type,f.offset))=[("Kind",3,0),("N",3,1)]:=by kernel_rfl
theorem zfu:prog.underlying 45=some (.struct (prog.fieldsOf 45)):=by kernel_rfl
theorem Zfu:prog.stoodInHeld 45=false:=by kernel_rfl
theorem qfu:(prog.fieldsOf 45).toList.map (fun f=>(f.name,f.type,f.offset))=[("Value",43,0),("Thrown",9,2),("Steps",3,3)]:=by kernel_rfl
theorem QeX(a b:Int)(w:World):(Op.equalIn 9999 43 (.agg #[.int .i64 a,.int .i64 b]) (.agg #[.int .i64 a,.int .i64 b])).run prog w=.ok true w:=by
 rw[run_equalIn_agg _ 9998 _ _ _ Zft qft];obtain⟨L,M,D,⟨E,F,G⟩,H,I,J⟩:=ZdN Qft;rw[D];have A:∀(x y:Int) (w:World),(part 3 #[.int .i64 x,.int .i64 y] 0).run prog w=.ok (.int .i64 x) w:=fun x y w=>by kernel_rfl
 have B:∀(x y:Int) (w:World),(part 3 #[.int .i64 x,.int .i64 y] 1).run prog w=.ok (.int .i64 y) w:=fun x y w=>by kernel_rfl
 have C:=fun(x y:Int) (w:World)=>run_equalIn_int (P:=prog) w 9997 3 .i64 .i64 x y underlying3
 simp only[Op.eqFields,E,F,G,H,I,J,ne_eq,show("Kind"="_")=False from by simp,show("N"="_")=False from by simp,not_false_eq_true,if_true,Sem.run_bind,A,B,C,Result.andThen_ok,Sem.run_ite];simp[Sem.run_pure]
theorem qeu(a b:Int)(s:Str)(n:Int)(w:World):(binOp .eql 45 (.agg #[.int .i64 a,.int .i64 b,.string s,.int .i64 n]) (.agg #[.int .i64 a,.int .i64 b,.string s,.int .i64 n])).run prog w=.ok (.bool true) w:=by
 rw[run_eql_struct,run_equalIn_agg _ 9999 _ _ _ zfu Zfu];obtain⟨S,T,U,F,⟨G,H,I⟩,⟨J,L,M⟩,N,O,R⟩:=zeM qfu;rw[F];have A:∀(x y:Int) (t:Str) (z:Int) (w:World),(part 43 #[.int .i64 x,.int .i64 y,.string t,.int .i64 z] 0).run prog w=.ok (.agg #[.int .i64 x,.int .i64 y]) w:=fun x y t z w=>by kernel_rfl
 have B:∀(x y:Int) (t:Str) (z:Int) (w:World),(part 9 #[.int .i64 x,.int .i64 y,.string t,.int .i64 z] 2).run prog w=.ok (.string t) w:=fun x y t z w=>by kernel_rfl
 have C:∀(x y:Int) (t:Str) (z:Int) (w:World),(part 3 #[.int .i64 x,.int .i64 y,.string t,.int .i64 z] 3).run prog w=.ok (.int .i64 z) w:=fun x y t z w=>by kernel_rfl
 have D:=fun(x y:Int) (w:World)=>run_equalIn_int (P:=prog) w 9998 3 .i64 .i64 x y underlying3
 have E:=fun(x y:Str) (w:World)=>run_equalIn_string (P:=prog) w 9998 9 x y underlying9
 simp only[Op.eqFields,G,H,I,J,L,M,N,O,R,ne_eq,show("Value"="_")=False from by simp,show("Thrown"="_")=False from by simp,show("Steps"="_")=False from by simp,not_false_eq_true,if_true,Sem.run_bind,A,B,C,D,E,QeX,Result.andThen_ok,Sem.run_ite];simp[Sem.run_pure]
theorem zeY(w:World)(a b:Val):Qe (w.alloc (.cells #[.int .i64 a.kind,.int .i64 a.n,.int .i64 b.kind,.int .i64 b.n] 43)) 2 qy (.slice (some ⟨w.heap.size,0,none⟩) 2 2) [a,b]:=by
 have B:=Blk.new w 43 [.int .i64 a.kind,.int .i64 a.n,.int .i64 b.kind,.int .i64 b.n];refine Or.inr ⟨⟨w.heap.size,0,none⟩,2,rfl,Xl,by decide,fun i x A=>?_⟩;match i,A with
 |0,A =>
  obtain rfl:=Option.some.inj A;exact⟨_,rfl,rfl,rfl,B.cell 0,B.cell 1,trivial⟩
 |1,A =>
  obtain rfl:=Option.some.inj A;exact⟨_,rfl,rfl,rfl,B.cell 2,B.cell 3,trivial⟩
 |i+2,A=>simp at A
theorem Qea:qam [adC] ⟨#[65]⟩ ⟨#[97,100,100]⟩ ⟨#[40,73,73,41,73]⟩ [⟨1,2⟩,⟨1,3⟩]=some adM:=by kernel_rfl
theorem Zfq:QaG (Za [adC]) 10 ⟨[],[qaW ⟨#[65]⟩ adM [⟨1,2⟩,⟨1,3⟩]]⟩=.done ⟨1,5⟩ ⟨#[]⟩ 4:=by kernel_rfl
theorem zfe(w:World)(P:Qax w):Calls prog 7 #[] w fun e w'=>e=.returned (.bool true)/\Below w.heap.size w w':=by
 have E:Hid (∀wx,_):=fun wx=>Zeu wx
 have F:Hid (∀(wx:World) (a:Addr) (O:Value),Below w.heap.size w wx->zx wx (.slice (some a) 1 1) [adC]->Qe wx 2 qy O [⟨1,2⟩,⟨1,3⟩]->Calls prog 13 #[.slice (some a) 1 1,.string { data:=#[65] },.string { data:=#[97,100,100] },.string { data:=#[40,73,73,41,73] },O,.int .i64 10] wx fun e w'=>e=.returned (.tuple #[.agg #[.int .i64 1,.int .i64 5,.string ⟨#[]⟩,.int .i64 4],.nilIface])/\Below wx.heap.size wx w'):=fun wx a O Y Z S =>
  (qcf [adC] _ wx (P.mono Y P.1) zft Z ⟨#[65]⟩ ⟨#[97,100,100]⟩ ⟨#[40,73,73,41,73]⟩ (by decide) (by decide) _ O S 10).mono fun e w' ⟨b,n,c,d⟩=>by
   obtain rfl:=qeX c;rcases d with⟨k,_,_,B|B|B|B,_⟩|⟨_,_,_,m,B,T⟩
   ·exact absurd rfl B
   ·rw[Qea]at B;cases B
   ·exact absurd B (by decide)
   ·exact absurd B (by decide)
   ·rw[Qea]at B;obtain rfl:=Option.some.inj B;have U:QaG (Za [adC]) (10:Int).toNat ⟨[],[qaW ⟨#[65]⟩ adM [⟨1,2⟩,⟨1,3⟩]]⟩=.done ⟨1,5⟩ ⟨#[]⟩ 4:=Zfq;rw[U]at T;exact⟨T,b⟩
 clear P;go_enter func7,ntmps7;have V:=qeu;go_upto_region 2 with(first
  |(go_fit (E.out _);rintro e R⟨a,rfl,L,M⟩;(have C:=(Below.refl R.heap.size R).alloc Xl (.cells #[.int .i64 1,.int .i64 2,.int .i64 1,.int .i64 3] 43));(have D:=Qa M Xl C);(have G:=L.mono C);(have H:=zeY R ⟨1,2⟩ ⟨1,3⟩))
  |(go_at_call 13;(refine(F.out _ a _ D G H).mono ?_);rintro e A⟨rfl,N⟩))
 have I:=(Below.refl A.heap.size A).alloc Xl (.cells #[.int .i64 1,.int .i64 5,.string ⟨#[]⟩,.int .i64 4] 45);have J:=Blk.new A 45 [.int .i64 1,.int .i64 5,.string ⟨#[]⟩,.int .i64 4];have f:(A.alloc (.cells #[.int .i64 1,.int .i64 5,.string ⟨#[]⟩,.int .i64 4] 45)).cell? ⟨A.heap.size,0,none⟩=some (.int .i64 1):=J.cell 0;have g:(A.alloc (.cells #[.int .i64 1,.int .i64 5,.string ⟨#[]⟩,.int .i64 4] 45)).cell? ⟨A.heap.size,1,none⟩=some (.int .i64 5):=J.cell 1;have h:(A.alloc (.cells #[.int .i64 1,.int .i64 5,.string ⟨#[]⟩,.int .i64 4] 45)).cell? ⟨A.heap.size,2,none⟩=some (.string ⟨#[]⟩):=J.cell 2;have i:(A.alloc (.cells #[.int .i64 1,.int .i64 5,.string ⟨#[]⟩,.int .i64 4] 45)).cell? ⟨A.heap.size,3,none⟩=some (.int .i64 4):=J.cell 3;have X:=Xh (Qa (Qa D Xl N) Xl I);clear I J D N C L G H M F E;go_wp2_with fail;go_ret;exact⟨rfl,X⟩
