/- Lemmas; conditions: as each states. -/
import Derived.Test.YtlmfmioljeppfaaGreatDoorMethodMaps
set_option maxHeartbeats 4000000
namespace Go.Proofs.YtlmfmioljeppfaaGreatDoor
open Go.RowKit Go.Shelf Go.Lib
def adI(op a:Int)(t:Str):Ins:=⟨op,a,0,t,⟨#[]⟩,⟨#[]⟩⟩
def adK:Str:=⟨#[73]⟩
def qbg:Str:=⟨#[65]⟩
def adM:qi:=⟨⟨#[97,100,100]⟩,⟨#[40,73,73,41,73]⟩,true,false,false,2,[adI 4 0 ⟨#[]⟩,adI 4 1 ⟨#[]⟩,adI 9 1 adK,adI 27 0 ⟨#[]⟩],[]⟩
def adC:Qb:=⟨qbg,⟨#[79,98,106,101,99,116]⟩,[],false,[],[adM]⟩
theorem Qea:Zm adM.type=some ([adK,adK],adK):=by kernel_rfl
theorem zdQ:qS qbg 0 [adC]=some adM:=by kernel_rfl
theorem qck{w:World}{b:Nat}:∀{vs:List Value} {o:Nat},(∀(j:Nat) (u:Value),vs[j]? = some u->w.cell? ⟨b,o+j,none⟩=some u)->QG w b o vs
 |[],_,_=>trivial
 |_::r,o,h=>⟨h 0 _ rfl,qck (vs:=r) (o:=o+1) fun j u A=>by
  rw[show o+1+j=o+(j+1) by omega];exact h (j+1) u (by simpa using A)⟩
theorem ZbU{α:Type}{w:World}{k b:Nat}{t:TypeId}{R:α->List Value->Prop}{x:α}{vs:List Value}(B:Blk w b t vs)(C:R x vs)(D:vs.length=k):Zg w k R (.slice (some ⟨b,0,none⟩) 1 1) [x]:=by
 refine Or.inr ⟨⟨b,0,none⟩,1,rfl,Xl,by decide,fun i y A=>?_⟩;cases i with
 |zero =>
  have A:x=y:=by simpa using A
  subst A;exact⟨vs,C,D,rfl,qck fun j u E=>(B.cell _).trans (by simpa using E)⟩
 |succ i=>simp at A
def Qbg:List Value:=[.int .i64 4,.int .i64 0,.int .i64 0,.string ⟨#[]⟩,.string ⟨#[]⟩,.string ⟨#[]⟩,.int .i64 4,.int .i64 1,.int .i64 0,.string ⟨#[]⟩,.string ⟨#[]⟩,.string ⟨#[]⟩,.int .i64 9,.int .i64 1,.int .i64 0,.string ⟨#[73]⟩,.string ⟨#[]⟩,.string ⟨#[]⟩,.int .i64 27,.int .i64 0,.int .i64 0,.string ⟨#[]⟩,.string ⟨#[]⟩,.string ⟨#[]⟩]
theorem ZdQ{w:World}{b:Nat}{t:TypeId}(C:Blk w b t Qbg):Zg w 6 Zw (.slice (some ⟨b,0,none⟩) 4 4) adM.code:=by
 refine Or.inr ⟨⟨b,0,none⟩,4,rfl,Xl,by decide,fun i y B=>?_⟩;have A:∀j u,Qbg[j]? = some u->w.cell? ⟨b,j,none⟩=some u:=fun j u h=>(C.cell j).trans h
 match i,B with
 |0,B =>
  obtain rfl:adI 4 0 ⟨#[]⟩=y:=Option.some.inj B;exact⟨_,rfl,rfl,rfl,A 0 _ rfl,A 1 _ rfl,A 2 _ rfl,A 3 _ rfl,A 4 _ rfl,A 5 _ rfl,trivial⟩
 |1,B =>
  obtain rfl:adI 4 1 ⟨#[]⟩=y:=Option.some.inj B;exact⟨_,rfl,rfl,rfl,A 6 _ rfl,A 7 _ rfl,A 8 _ rfl,A 9 _ rfl,A 10 _ rfl,A 11 _ rfl,trivial⟩
 |2,B =>
  obtain rfl:adI 9 1 adK=y:=Option.some.inj B;exact⟨_,rfl,rfl,rfl,A 12 _ rfl,A 13 _ rfl,A 14 _ rfl,A 15 _ rfl,A 16 _ rfl,A 17 _ rfl,trivial⟩
 |3,B =>
  obtain rfl:adI 27 0 ⟨#[]⟩=y:=Option.some.inj B;exact⟨_,rfl,rfl,rfl,A 18 _ rfl,A 19 _ rfl,A 20 _ rfl,A 21 _ rfl,A 22 _ rfl,A 23 _ rfl,trivial⟩
 |i+4,B=>cases B
set_option maxRecDepth 100000
theorem qdt(w:World):Calls Tryz.prog 56 #[] w fun e w'=>∃a,e=.returned (.slice (some a) 1 1)/\qj w' (.slice (some a) 1 1) [adC]/\Below w.heap.size w w':=by
 have C:Hid (∀(wx:World) (o:Obj),Below wx.heap.size wx (wx.alloc o)):=fun wx o=>Xb.alloc Xl o
 have F:=Blk.new w 24 Qbg;have G:=F.step (C.out _ (.cells #[.string ⟨#[97,100,100]⟩,.string ⟨#[40,73,73,41,73]⟩,.bool true,.bool false,.bool false,.int .i64 2,.slice (some ⟨w.heap.size,0,none⟩) 4 4,.slice none 0 0] 53));have H:=G.step (C.out _ (.cells #[.string ⟨#[97,100,100]⟩,.string ⟨#[40,73,73,41,73]⟩,.bool true,.bool false,.bool false,.int .i64 2,.slice (some ⟨w.heap.size,0,none⟩) 4 4,.slice none 0 0] 53));have I:=H.step (C.out _ (.cells #[.string ⟨#[65]⟩,.string ⟨#[79,98,106,101,99,116]⟩,.slice none 0 0,.bool false,.slice none 0 0,.slice (some ⟨w.heap.size+1+1,0,none⟩) 1 1] 36));have J:=Blk.new ((w.alloc (.cells Qbg.toArray 24)).alloc (.cells #[.string ⟨#[97,100,100]⟩,.string ⟨#[40,73,73,41,73]⟩,.bool true,.bool false,.bool false,.int .i64 2,.slice (some ⟨w.heap.size,0,none⟩) 4 4,.slice none 0 0] 53)) 53 [.string ⟨#[97,100,100]⟩,.string ⟨#[40,73,73,41,73]⟩,.bool true,.bool false,.bool false,.int .i64 2,.slice (some ⟨w.heap.size,0,none⟩) 4 4,.slice none 0 0];have D:=J.step (C.out _ (.cells #[.string ⟨#[65]⟩,.string ⟨#[79,98,106,101,99,116]⟩,.slice none 0 0,.bool false,.slice none 0 0,.slice (some ⟨w.heap.size+1+1,0,none⟩) 1 1] 36));have E:=Blk.new (((w.alloc (.cells Qbg.toArray 24)).alloc (.cells #[.string ⟨#[97,100,100]⟩,.string ⟨#[40,73,73,41,73]⟩,.bool true,.bool false,.bool false,.int .i64 2,.slice (some ⟨w.heap.size,0,none⟩) 4 4,.slice none 0 0] 53)).alloc (.cells #[.string ⟨#[97,100,100]⟩,.string ⟨#[40,73,73,41,73]⟩,.bool true,.bool false,.bool false,.int .i64 2,.slice (some ⟨w.heap.size,0,none⟩) 4 4,.slice none 0 0] 53)) 36 [.string ⟨#[65]⟩,.string ⟨#[79,98,106,101,99,116]⟩,.slice none 0 0,.bool false,.slice none 0 0,.slice (some ⟨w.heap.size+1+1,0,none⟩) 1 1];have L:Below w.heap.size w ((((w.alloc (.cells Qbg.toArray 24)).alloc (.cells #[.string ⟨#[97,100,100]⟩,.string ⟨#[40,73,73,41,73]⟩,.bool true,.bool false,.bool false,.int .i64 2,.slice (some ⟨w.heap.size,0,none⟩) 4 4,.slice none 0 0] 53)).alloc (.cells #[.string ⟨#[97,100,100]⟩,.string ⟨#[40,73,73,41,73]⟩,.bool true,.bool false,.bool false,.int .i64 2,.slice (some ⟨w.heap.size,0,none⟩) 4 4,.slice none 0 0] 53)).alloc (.cells #[.string ⟨#[65]⟩,.string ⟨#[79,98,106,101,99,116]⟩,.slice none 0 0,.bool false,.slice none 0 0,.slice (some ⟨w.heap.size+1+1,0,none⟩) 1 1] 36)) :=
  (((Xb.alloc Xl _).alloc (by simp) _).alloc (by simp;omega) _).alloc (by simp;omega) _
 simp only[World.size_alloc]at D E;have A:=Xh (ZbU (R:=Q4 _) (x:=adC) E ⟨_,_,_,rfl,Or.inl ⟨rfl,rfl⟩,Or.inl ⟨rfl,rfl⟩,ZbU (R:=zr _) (x:=adM) D ⟨_,_,rfl,ZdQ I,Or.inl ⟨rfl,rfl⟩⟩ rfl⟩ rfl);have B:=Xh L;clear F G H I J D E L;unfold Qbg at A B;go_enter Tryz.func56,Tryz.ntmps56;go_wp2_with fail;go_ret;exact⟨_,rfl,A,B⟩
set_option maxRecDepth 512
theorem Qel:∀c∈[adC],qab c:=fun c D=>by
 rw[List.mem_singleton.1 D];refine⟨by decide,by decide,(fun x A=>by cases A),(fun x A=>by cases A),fun x A=>?_⟩;rw[List.mem_singleton.1 A];refine⟨by decide,by decide,by unfold Zby;decide,fun y B=>?_,(fun y B=>by cases B)⟩;have C:y=adI 4 0 ⟨#[]⟩\/y=adI 4 1 ⟨#[]⟩\/y=adI 9 1 adK\/y=adI 27 0 ⟨#[]⟩:=by simpa[adM] using B
 rcases C with rfl|rfl|rfl|rfl<;>exact⟨by unfold Zby adI;decide,by unfold Zby adI;decide,by unfold Zby adI;decide,by decide,by decide,by decide⟩
theorem Qem{args:List Str}{g:Str}{A:Nat}(h:Z8 adM args g A):args=[adK,adK]/\g=adK/\A=2:=by
 have B:=h.type;rw[Qea]at B;injection B with B
 injection B with B C
 have D:(2:Int)=(A:Int):=h.locals;exact⟨B.symm,C.symm,by omega⟩
end Go.Proofs.YtlmfmioljeppfaaGreatDoor
