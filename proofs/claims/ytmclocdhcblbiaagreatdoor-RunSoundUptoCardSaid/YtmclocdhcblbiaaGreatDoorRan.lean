/- Lemmas; conditions: as each states. -/
import Derived.Test.YtmclocdhcblbiaaGreatDoorRunCallR
set_option maxHeartbeats 4000000
namespace Go.Proofs.YtmclocdhcblbiaaGreatDoor
open Go.RowKit Go.Shelf Go.Lib
def adI(op a:Int)(t:Str):Ins:=⟨op,a,0,t,⟨#[]⟩,⟨#[]⟩⟩
def adK:Str:=⟨#[73]⟩
def QaS:Str:=⟨#[65]⟩
def adM:zg:=⟨⟨#[97,100,100]⟩,⟨#[40,73,73,41,73]⟩,true,false,false,2,[adI 4 0 ⟨#[]⟩,adI 4 1 ⟨#[]⟩,adI 9 1 adK,adI 27 0 ⟨#[]⟩],[]⟩
def adC:qa:=⟨QaS,⟨#[79,98,106,101,99,116]⟩,[],false,[],[adM]⟩
def adF:Nat->Frm
 |0=>⟨[adK,adK],[]⟩
 |1=>⟨[adK,adK],[adK]⟩
 |2=>⟨[adK,adK],[adK,adK]⟩
 |_=>⟨[adK,adK],[adK]⟩
def adA:Asg Frm:=fun i=>if i<4 then some (adF i) else none
theorem qdb:Zp [adC]=0:=by kernel_rfl
theorem Ze7:qi adM.type=some ([adK,adK],adK):=by kernel_rfl
theorem zd9:zC adM.code=0:=by kernel_rfl
theorem Qdu:Q7 QaS adM.static [adK,adK] 2=[adK,adK]:=by kernel_rfl
theorem zeS:QaY (Za [adC]) [adK,adK] adK=true:=by kernel_rfl
theorem zdv:∀i,i<3->zaC (Za [adC]) QaS adK adM i (adF i)=some [(i+1,adF (i+1))]
 |0,_=>by kernel_rfl
 |1,_=>by kernel_rfl
 |2,_=>by kernel_rfl
theorem qe7:zaC (Za [adC]) QaS adK adM 3 (adF 3)=some []:=by kernel_rfl
theorem qbw:∀i,i<4->qF (Za [adC]) (adF i)=0
 |0,_=>by kernel_rfl
 |1,_=>by kernel_rfl
 |2,_=>by kernel_rfl
 |3,_=>by kernel_rfl
theorem Qe7:(qT (Za [adC]) QaS adK adM ⟨[adK,adK],[]⟩).Good:=ZbF (qa5 qdb) (fun c A=>by rw[List.mem_singleton.1 A];kernel_rfl) zd9 (by kernel_rfl) (qbw 0 (by decide))
theorem Qdb{i:Nat}{f:Frm}(h:adA i=some f):i<4/\f=adF i:=by
 unfold adA at h;split at h
 ·rename_i A;exact⟨A,(Option.some.inj h).symm⟩
 ·cases h
theorem ZeS:(qT (Za [adC]) QaS adK adM ⟨[adK,adK],[]⟩).Least adA:=by
 have H:=Qe7;have A:∀f,qbi (Za [adC]) f f:=fun f=>⟨LeL.refl _ _,LeL.refl _ _⟩
 refine⟨⟨fun i f h=>?_,fun i f h=>?_,_,rfl,A _⟩,fun G I=>?_⟩
 ·obtain⟨C,rfl⟩:=Qdb h;exact⟨C,qbw i C⟩
 ·obtain⟨C,rfl⟩:=Qdb h;by_cases S:i<3
  ·refine⟨_,zdv i S,fun p F=>?_⟩;rw[List.mem_singleton.1 F];exact⟨adF (i+1),if_pos (by omega),A _⟩
  ·obtain rfl:i=3:=(by omega);exact⟨_,qe7,fun p F=>by cases F⟩
 ·have B:∀i,i<4->∃g,G i=some g/\qbi (Za [adC]) (adF i) g:=fun i=>by
   induction i with
   |zero=>exact fun _=>I.2.2
   |succ i Z =>
    intro Y;obtain⟨g,e,L⟩:=Z (by omega);obtain⟨D,E⟩:=I.1 i g e;obtain⟨N,O,T⟩:=I.2.1 i g e;obtain⟨a,P,F⟩:=H.mono i (adF i) g N D (qbw i (by omega)) E L O;rw[show(qT (Za [adC]) QaS adK adM ⟨[adK,adK],[]⟩).edges i (adF i)=some [(i+1,adF (i+1))] from zdv i (by omega)]at P;obtain rfl:=Option.some.inj P;obtain⟨q,R,U,V⟩:=F _ (List.mem_singleton.2 rfl);obtain⟨h,M,X⟩:=T q R;have J:=H.out i g N D E O q R;refine⟨h,by rw[<-U]at M;exact M,H.trans _ q.2 h (qbw (i+1) Y) J.2 (I.1 _ h M).2 V X⟩
  intro i f h;obtain⟨C,rfl⟩:=Qdb h;exact B i C
theorem QcU{w:World}{b:Nat}:∀{vs:List Value} {o:Nat},(∀(j:Nat) (u:Value),vs[j]? = some u->w.cell? ⟨b,o+j,none⟩=some u)->QB w b o vs
 |[],_,_=>trivial
 |_::r,o,h=>⟨h 0 _ rfl,QcU (vs:=r) (o:=o+1) fun j u A=>by
  rw[show o+1+j=o+(j+1) by omega];exact h (j+1) u (by simpa using A)⟩
theorem Qcy{α:Type}{w:World}{k b:Nat}{t:TypeId}{R:α->List Value->Prop}{x:α}{vs:List Value}(B:Blk w b t vs)(C:R x vs)(D:vs.length=k):qe w k R (.slice (some ⟨b,0,none⟩) 1 1) [x]:=by
 refine Or.inr ⟨⟨b,0,none⟩,1,rfl,Xl,by decide,fun i y A=>?_⟩;cases i with
 |zero =>
  have A:x=y:=by simpa using A
  subst A;exact⟨vs,C,D,rfl,QcU fun j u E=>(B.cell _).trans (by simpa using E)⟩
 |succ i=>simp at A
def QbI:List Value:=[.int .i64 4,.int .i64 0,.int .i64 0,.string ⟨#[]⟩,.string ⟨#[]⟩,.string ⟨#[]⟩,.int .i64 4,.int .i64 1,.int .i64 0,.string ⟨#[]⟩,.string ⟨#[]⟩,.string ⟨#[]⟩,.int .i64 9,.int .i64 1,.int .i64 0,.string ⟨#[73]⟩,.string ⟨#[]⟩,.string ⟨#[]⟩,.int .i64 27,.int .i64 0,.int .i64 0,.string ⟨#[]⟩,.string ⟨#[]⟩,.string ⟨#[]⟩]
theorem qeS{w:World}{b:Nat}{t:TypeId}(C:Blk w b t QbI):qe w 6 qw (.slice (some ⟨b,0,none⟩) 4 4) adM.code:=by
 refine Or.inr ⟨⟨b,0,none⟩,4,rfl,Xl,by decide,fun i y B=>?_⟩;have A:∀j u,QbI[j]? = some u->w.cell? ⟨b,j,none⟩=some u:=fun j u h=>(C.cell j).trans h
 match i,B with
 |0,B =>
  obtain rfl:adI 4 0 ⟨#[]⟩=y:=Option.some.inj B;exact⟨_,rfl,rfl,rfl,A 0 _ rfl,A 1 _ rfl,A 2 _ rfl,A 3 _ rfl,A 4 _ rfl,A 5 _ rfl,trivial⟩
 |1,B =>
  obtain rfl:adI 4 1 ⟨#[]⟩=y:=Option.some.inj B;exact⟨_,rfl,rfl,rfl,A 6 _ rfl,A 7 _ rfl,A 8 _ rfl,A 9 _ rfl,A 10 _ rfl,A 11 _ rfl,trivial⟩
 |2,B =>
  obtain rfl:adI 9 1 adK=y:=Option.some.inj B;exact⟨_,rfl,rfl,rfl,A 12 _ rfl,A 13 _ rfl,A 14 _ rfl,A 15 _ rfl,A 16 _ rfl,A 17 _ rfl,trivial⟩
 |3,B =>
  obtain rfl:adI 27 0 ⟨#[]⟩=y:=Option.some.inj B;exact⟨_,rfl,rfl,rfl,A 18 _ rfl,A 19 _ rfl,A 20 _ rfl,A 21 _ rfl,A 22 _ rfl,A 23 _ rfl,trivial⟩
 |i+4,B=>cases B
set_option maxRecDepth 100000
theorem Qer(w:World):Calls Tryz.prog 34 #[] w fun e w'=>∃a,e=.returned (.slice (some a) 1 1)/\QJ w' (.slice (some a) 1 1) [adC]/\Below w.heap.size w w':=by
 have C:Hid (∀(wx:World) (o:Obj),Below wx.heap.size wx (wx.alloc o)):=fun wx o=>Xb.alloc Xl o
 have F:=Blk.new w 34 QbI;have G:=F.step (C.out _ (.cells #[.string ⟨#[97,100,100]⟩,.string ⟨#[40,73,73,41,73]⟩,.bool true,.bool false,.bool false,.int .i64 2,.slice (some ⟨w.heap.size,0,none⟩) 4 4,.slice none 0 0] 39));have H:=G.step (C.out _ (.cells #[.string ⟨#[97,100,100]⟩,.string ⟨#[40,73,73,41,73]⟩,.bool true,.bool false,.bool false,.int .i64 2,.slice (some ⟨w.heap.size,0,none⟩) 4 4,.slice none 0 0] 39));have I:=H.step (C.out _ (.cells #[.string ⟨#[65]⟩,.string ⟨#[79,98,106,101,99,116]⟩,.slice none 0 0,.bool false,.slice none 0 0,.slice (some ⟨w.heap.size+1+1,0,none⟩) 1 1] 31));have J:=Blk.new ((w.alloc (.cells QbI.toArray 34)).alloc (.cells #[.string ⟨#[97,100,100]⟩,.string ⟨#[40,73,73,41,73]⟩,.bool true,.bool false,.bool false,.int .i64 2,.slice (some ⟨w.heap.size,0,none⟩) 4 4,.slice none 0 0] 39)) 39 [.string ⟨#[97,100,100]⟩,.string ⟨#[40,73,73,41,73]⟩,.bool true,.bool false,.bool false,.int .i64 2,.slice (some ⟨w.heap.size,0,none⟩) 4 4,.slice none 0 0];have D:=J.step (C.out _ (.cells #[.string ⟨#[65]⟩,.string ⟨#[79,98,106,101,99,116]⟩,.slice none 0 0,.bool false,.slice none 0 0,.slice (some ⟨w.heap.size+1+1,0,none⟩) 1 1] 31));have E:=Blk.new (((w.alloc (.cells QbI.toArray 34)).alloc (.cells #[.string ⟨#[97,100,100]⟩,.string ⟨#[40,73,73,41,73]⟩,.bool true,.bool false,.bool false,.int .i64 2,.slice (some ⟨w.heap.size,0,none⟩) 4 4,.slice none 0 0] 39)).alloc (.cells #[.string ⟨#[97,100,100]⟩,.string ⟨#[40,73,73,41,73]⟩,.bool true,.bool false,.bool false,.int .i64 2,.slice (some ⟨w.heap.size,0,none⟩) 4 4,.slice none 0 0] 39)) 31 [.string ⟨#[65]⟩,.string ⟨#[79,98,106,101,99,116]⟩,.slice none 0 0,.bool false,.slice none 0 0,.slice (some ⟨w.heap.size+1+1,0,none⟩) 1 1];have L:Below w.heap.size w ((((w.alloc (.cells QbI.toArray 34)).alloc (.cells #[.string ⟨#[97,100,100]⟩,.string ⟨#[40,73,73,41,73]⟩,.bool true,.bool false,.bool false,.int .i64 2,.slice (some ⟨w.heap.size,0,none⟩) 4 4,.slice none 0 0] 39)).alloc (.cells #[.string ⟨#[97,100,100]⟩,.string ⟨#[40,73,73,41,73]⟩,.bool true,.bool false,.bool false,.int .i64 2,.slice (some ⟨w.heap.size,0,none⟩) 4 4,.slice none 0 0] 39)).alloc (.cells #[.string ⟨#[65]⟩,.string ⟨#[79,98,106,101,99,116]⟩,.slice none 0 0,.bool false,.slice none 0 0,.slice (some ⟨w.heap.size+1+1,0,none⟩) 1 1] 31)) :=
  (((Xb.alloc Xl _).alloc (by simp) _).alloc (by simp;omega) _).alloc (by simp;omega) _
 simp only[World.size_alloc]at D E;have A:=Xh (Qcy (R:=qal _) (x:=adC) E ⟨_,_,_,rfl,Or.inl ⟨rfl,rfl⟩,Or.inl ⟨rfl,rfl⟩,Qcy (R:=Zt _) (x:=adM) D ⟨_,_,rfl,qeS I,Or.inl ⟨rfl,rfl⟩⟩ rfl⟩ rfl);have B:=Xh L;clear F G H I J D E L;unfold QbI at A B;go_enter Tryz.func34,Tryz.ntmps34;go_wp2_with fail;go_ret;exact⟨_,rfl,A,B⟩
set_option maxRecDepth 512
theorem Zfn:∀c∈[adC],Z4 c:=fun c D=>by
 rw[List.mem_singleton.1 D];refine⟨by decide,by decide,(fun x A=>by cases A),(fun x A=>by cases A),fun x A=>?_⟩;rw[List.mem_singleton.1 A];refine⟨by decide,by decide,by unfold ZbZ;decide,fun y B=>?_,(fun y B=>by cases B)⟩;have C:y=adI 4 0 ⟨#[]⟩\/y=adI 4 1 ⟨#[]⟩\/y=adI 9 1 adK\/y=adI 27 0 ⟨#[]⟩:=by simpa[adM] using B
 rcases C with rfl|rfl|rfl|rfl<;>exact⟨by unfold ZbZ adI;decide,by unfold ZbZ adI;decide,by unfold ZbZ adI;decide,by decide,by decide,by decide⟩
theorem qfj:zE (Za [adC]) QaS adK adM (Q7 QaS adM.static [adK,adK] 2) (some adA):=by
 rw[Qdu];exact⟨zeS,ZeS⟩
theorem Qfj{args:List Str}{g:Str}{A:Nat}(h:ZaG adM args g A):args=[adK,adK]/\g=adK/\A=2:=by
 have B:=h.type;rw[Ze7]at B;injection B with B
 injection B with B C
 have D:(2:Int)=(A:Int):=h.locals;exact⟨B.symm,C.symm,by omega⟩
theorem qcL{G:Option (Asg Frm)}(h:zE (Za [adC]) QaS adK adM (Q7 QaS adM.static [adK,adK] 2) G):G=some adA :=
 Zb4 (qa5 qdb) (fun c A=>by rw[List.mem_singleton.1 A];kernel_rfl) zd9 (by kernel_rfl) (by rw[Qdu];decide) h qfj
theorem QeS{n:Nat}(h:Qaj [adC] n):n=0:=by
 rcases h with⟨h,_⟩|⟨_,h,_⟩|⟨_,_,c,B,m,C,_,args,g,A,D,E⟩
 ·exact absurd qdb h
 ·exact h
 ·obtain rfl:=List.mem_singleton.1 B;obtain rfl:m=adM:=List.mem_singleton.1 C;obtain⟨rfl,rfl,rfl⟩:=Qfj D;cases qcL E
theorem qfn:Tryz.prog.underlying 43=some (.struct (Tryz.prog.fieldsOf 43)):=by kernel_rfl
theorem Qfn:Tryz.prog.stoodInHeld 43=false:=by kernel_rfl
theorem zfo:(Tryz.prog.fieldsOf 43).toList.map (fun f=>(f.name,f.type,f.offset))=[("Kind",3,0),("N",3,1)]:=by kernel_rfl
theorem Zfo:Tryz.prog.underlying 45=some (.struct (Tryz.prog.fieldsOf 45)):=by kernel_rfl
theorem qfo:Tryz.prog.stoodInHeld 45=false:=by kernel_rfl
theorem Qfo:(Tryz.prog.fieldsOf 45).toList.map (fun f=>(f.name,f.type,f.offset))=[("Value",43,0),("Thrown",9,2),("Steps",3,3)]:=by kernel_rfl
theorem zeT(a b:Int)(w:World):(Op.equalIn 9999 43 (.agg #[.int .i64 a,.int .i64 b]) (.agg #[.int .i64 a,.int .i64 b])).run Tryz.prog w=.ok true w:=by
 rw[run_equalIn_agg _ 9998 _ _ _ qfn Qfn];obtain⟨L,M,D,⟨E,F,G⟩,H,I,J⟩:=qdK zfo;rw[D];have A:∀(x y:Int) (w:World),(part 3 #[.int .i64 x,.int .i64 y] 0).run Tryz.prog w=.ok (.int .i64 x) w:=fun x y w=>by kernel_rfl
 have B:∀(x y:Int) (w:World),(part 3 #[.int .i64 x,.int .i64 y] 1).run Tryz.prog w=.ok (.int .i64 y) w:=fun x y w=>by kernel_rfl
 have C:=fun(x y:Int) (w:World)=>run_equalIn_int (P:=Tryz.prog) w 9997 3 .i64 .i64 x y Tryz.underlying3
 simp only[Op.eqFields,E,F,G,H,I,J,ne_eq,show("Kind"="_")=False from by simp,show("N"="_")=False from by simp,not_false_eq_true,if_true,Sem.run_bind,A,B,C,Result.andThen_ok,Sem.run_ite];simp[Sem.run_pure]
theorem qb5(a b:Int)(s:Str)(n:Int)(w:World):(binOp .eql 45 (.agg #[.int .i64 a,.int .i64 b,.string s,.int .i64 n]) (.agg #[.int .i64 a,.int .i64 b,.string s,.int .i64 n])).run Tryz.prog w=.ok (.bool true) w:=by
 rw[run_eql_struct,run_equalIn_agg _ 9999 _ _ _ Zfo qfo];obtain⟨S,T,U,F,⟨G,H,I⟩,⟨J,L,M⟩,N,O,R⟩:=qeI Qfo;rw[F];have A:∀(x y:Int) (t:Str) (z:Int) (w:World),(part 43 #[.int .i64 x,.int .i64 y,.string t,.int .i64 z] 0).run Tryz.prog w=.ok (.agg #[.int .i64 x,.int .i64 y]) w:=fun x y t z w=>by kernel_rfl
 have B:∀(x y:Int) (t:Str) (z:Int) (w:World),(part 9 #[.int .i64 x,.int .i64 y,.string t,.int .i64 z] 2).run Tryz.prog w=.ok (.string t) w:=fun x y t z w=>by kernel_rfl
 have C:∀(x y:Int) (t:Str) (z:Int) (w:World),(part 3 #[.int .i64 x,.int .i64 y,.string t,.int .i64 z] 3).run Tryz.prog w=.ok (.int .i64 z) w:=fun x y t z w=>by kernel_rfl
 have D:=fun(x y:Int) (w:World)=>run_equalIn_int (P:=Tryz.prog) w 9998 3 .i64 .i64 x y Tryz.underlying3
 have E:=fun(x y:Str) (w:World)=>run_equalIn_string (P:=Tryz.prog) w 9998 9 x y Tryz.underlying9
 simp only[Op.eqFields,G,H,I,J,L,M,N,O,R,ne_eq,show("Value"="_")=False from by simp,show("Thrown"="_")=False from by simp,show("Steps"="_")=False from by simp,not_false_eq_true,if_true,Sem.run_bind,A,B,C,D,E,zeT,Result.andThen_ok,Sem.run_ite];simp[Sem.run_pure]
theorem ZeT(w:World)(a b:Val):qe (w.alloc (.cells #[.int .i64 a.kind,.int .i64 a.n,.int .i64 b.kind,.int .i64 b.n] 43)) 2 zu (.slice (some ⟨w.heap.size,0,none⟩) 2 2) [a,b]:=by
 have B:=Blk.new w 43 [.int .i64 a.kind,.int .i64 a.n,.int .i64 b.kind,.int .i64 b.n];refine Or.inr ⟨⟨w.heap.size,0,none⟩,2,rfl,Xl,by decide,fun i x A=>?_⟩;match i,A with
 |0,A =>
  obtain rfl:=Option.some.inj A;exact⟨_,rfl,rfl,rfl,B.cell 0,B.cell 1,trivial⟩
 |1,A =>
  obtain rfl:=Option.some.inj A;exact⟨_,rfl,rfl,rfl,B.cell 2,B.cell 3,trivial⟩
 |i+2,A=>simp at A
theorem Zd9:Qal [adC] ⟨#[65]⟩ ⟨#[97,100,100]⟩ ⟨#[40,73,73,41,73]⟩ [⟨1,2⟩,⟨1,3⟩]=some adM:=by kernel_rfl
theorem zfk:QaI (Za [adC]) 10 ⟨[],[zaJ ⟨#[65]⟩ adM [⟨1,2⟩,⟨1,3⟩]]⟩=.done ⟨1,5⟩ ⟨#[]⟩ 4:=by kernel_rfl
set_option maxRecDepth 100000
theorem qd9(w:World)(P:ZaB w):Calls Tryz.prog 15 #[] w fun e w'=>e=.returned (.bool true)/\Below w.heap.size w w':=by
 have E:Hid (∀wx,_):=fun wx=>Qer wx
 have F:Hid (∀(wx:World) (a:Addr) (O:Value),Below w.heap.size w wx->QJ wx (.slice (some a) 1 1) [adC]->qe wx 2 zu O [⟨1,2⟩,⟨1,3⟩]->Calls Tryz.prog 13 #[.slice (some a) 1 1,.string { data:=#[65] },.string { data:=#[97,100,100] },.string { data:=#[40,73,73,41,73] },O,.int .i64 10] wx fun e w'=>e=.returned (.tuple #[.agg #[.int .i64 1,.int .i64 5,.string ⟨#[]⟩,.int .i64 4],.nilIface])/\Below wx.heap.size wx w'):=fun wx a O Y Z S =>
  (Qbp [adC] _ wx (P.mono Y P.1) Zfn Z ⟨#[65]⟩ ⟨#[97,100,100]⟩ ⟨#[40,73,73,41,73]⟩ (by decide) (by decide) _ O S 10).mono fun e w' ⟨b,n,c,d⟩=>by
   obtain rfl:=QeS c;rcases d with⟨k,_,_,B|B|B|B,_⟩|⟨_,_,_,m,B,T⟩
   ·exact absurd rfl B
   ·rw[Zd9]at B;cases B
   ·exact absurd B (by decide)
   ·exact absurd B (by decide)
   ·rw[Zd9]at B;obtain rfl:=Option.some.inj B;have U:QaI (Za [adC]) (10:Int).toNat ⟨[],[zaJ ⟨#[65]⟩ adM [⟨1,2⟩,⟨1,3⟩]]⟩=.done ⟨1,5⟩ ⟨#[]⟩ 4:=zfk;rw[U]at T;exact⟨T,b⟩
 clear P;go_enter Tryz.func15,Tryz.ntmps15;have V:=qb5;go_upto_region 2 with(first
  |(go_fit (E.out _);rintro e R⟨a,rfl,L,M⟩;(have C:=(Below.refl R.heap.size R).alloc Xl (.cells #[.int .i64 1,.int .i64 2,.int .i64 1,.int .i64 3] 43));(have D:=Qa M Xl C);(have G:=L.mono C);(have H:=ZeT R ⟨1,2⟩ ⟨1,3⟩))
  |(go_at_call 13;(refine(F.out _ a _ D G H).mono ?_);rintro e A⟨rfl,N⟩))
 have I:=(Below.refl A.heap.size A).alloc Xl (.cells #[.int .i64 1,.int .i64 5,.string ⟨#[]⟩,.int .i64 4] 45);have J:=Blk.new A 45 [.int .i64 1,.int .i64 5,.string ⟨#[]⟩,.int .i64 4];have f:(A.alloc (.cells #[.int .i64 1,.int .i64 5,.string ⟨#[]⟩,.int .i64 4] 45)).cell? ⟨A.heap.size,0,none⟩=some (.int .i64 1):=J.cell 0;have g:(A.alloc (.cells #[.int .i64 1,.int .i64 5,.string ⟨#[]⟩,.int .i64 4] 45)).cell? ⟨A.heap.size,1,none⟩=some (.int .i64 5):=J.cell 1;have h:(A.alloc (.cells #[.int .i64 1,.int .i64 5,.string ⟨#[]⟩,.int .i64 4] 45)).cell? ⟨A.heap.size,2,none⟩=some (.string ⟨#[]⟩):=J.cell 2;have i:(A.alloc (.cells #[.int .i64 1,.int .i64 5,.string ⟨#[]⟩,.int .i64 4] 45)).cell? ⟨A.heap.size,3,none⟩=some (.int .i64 4):=J.cell 3;have X:=Xh (Qa (Qa D Xl N) Xl I);clear I J D N C L G H M F E;go_wp2_with fail;go_ret;exact⟨rfl,X⟩
set_option maxRecDepth 512
end Go.Proofs.YtmclocdhcblbiaaGreatDoor
