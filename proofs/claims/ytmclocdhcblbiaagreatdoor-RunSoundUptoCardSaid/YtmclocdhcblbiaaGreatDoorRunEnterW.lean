/- Lemmas; conditions: as each states. -/
import Derived.Test.YtmclocdhcblbiaaGreatDoorRunMach
set_option maxHeartbeats 4000000
namespace Go.Proofs.YtmclocdhcblbiaaGreatDoor
open Go.RowKit Go.Shelf Go.Lib
theorem ZcB{P:Program}(w:World)(L N ty A:TypeId)(g B E:Nat)(a:Addr)(C F:Nat)(D:Array Value)(t:TypeId)(cs:List Value)(O:P.underlying L=some (.slice A))(M:(P.info? A).map (·.size)=some 2)(R:w.heap[g]? = some (.cells D t (0,0)))(S:cs.length=Nat.min C B*2)(G:∀j v,cs[j]? = some v->w.cell? (a.add j)=some v)(H:cs.length<=D.size)(T:∀v∈cs,v.oneCell'=true):
 (Builtin.copy_ #[L,N] ty #[.slice (some ⟨g,0,none⟩) B E,.slice (some a) C F]).run P w =
  .ok (goInt (Nat.min C B)) (w.setRow g (cs++D.toList.drop cs.length).toArray):=by
 have U:=run_loadCells_list (P:=P) w a cs G;have I:=run_storeCells_at P g 0 t cs 0 D w R (by simpa using H) T;cases J:P.info? A with
 |none=>simp[J]at M
 |some i =>
  have V:i.size=2:=by simpa[J] using M
  simp[Builtin.copy_,run_underlying O,Builtin.lenOf,Builtin.firstCells,sizeOf,typeInfo,J,V,<-S,U,I]
theorem Qdd{P:Program}(w:World)(D F ty A:TypeId)(d:Option Addr)(B C:Nat)(G:P.underlying D=some (.slice A))(H:((P.info? A).map (·.size)).isSome=true):
 (Builtin.copy_ #[D,F] ty #[.slice d B C,.slice none 0 0]).run P w=.ok (goInt 0) w:=by
 cases E:P.info? A with
 |none=>simp[E]at H
 |some i=>cases d<;>simp[Builtin.copy_,run_underlying G,Builtin.lenOf,Builtin.firstCells,sizeOf,typeInfo,E,storeCells]
theorem zev(args:List Val)(N:Nat)(h:args.length<=N):args.flatMap qt++(List.replicate (N*2) (Value.int .i64 0)).drop (args.flatMap qt).length=(args++List.replicate (N-args.length) Qaf).flatMap qt:=by
 rw[List.flatMap_append,zbe,List.drop_replicate,Z5 qaF];congr 2;omega
theorem Zb6{w:World}{E:Array Oper}{B:List Oper}{o:Oper}{a:Act}{Q:Exit->Act->World->Prop}(H:o.guard=none)(d s:Operand)(M:o.op=.call { callee:=.builtin .copy,args:=#[d,s],argTypes:=#[51,51] })(g N:Nat)(O:a.eval d=.slice (some ⟨g,0,none⟩) N N)(R:Value)(S:a.eval s=R)(I:w.heap[g]? = some (.cells (Array.replicate (N*2) (Value.int .i64 0)) 43 (0,0)))(args:List Val)(J:qe w 2 zu R args)(D:args.length<=N)(h:∀w':World,w'.heap[g]? = some (.cells ((args++List.replicate (N-args.length) Qaf).flatMap qt).toArray 43 (0,0))->Chg (fun b=>b=g) w w'->w'.heap.size=w.heap.size->wpList Tryz.prog E Q B (a.put o.dst (goInt args.length)) w'):
 wpList Tryz.prog E Q (o::B) a w:=by
 obtain⟨t,G,f,L,l⟩:=info_parts ZbS;refine wpList_plain H fun K V=>?_
 rcases J with⟨rfl,rfl⟩|⟨X,cap,rfl,v,y,Y⟩
 ·have A:=Qdd (P:=Tryz.prog) w 51 51 o.type 43 (some ⟨g,0,none⟩) N N Tryz.underlying51 (by rw[G];rfl);unfold Oper.wp;simp[execOp,M,resolve,invoke,builtin,O,S,A,Result.andThen];refine V _ _ (h w ?_ (Chg.refl _ _) rfl);rw[I,List.nil_append,zbe];simp
 ·have Z:∀j u,(args.flatMap qt)[j]? = some u->w.cell? (X.add j)=some u:=by
   intro j u U;by_cases D:args=[]
   ·subst D;simp at U
   ·have c:args[0]? = some (args.head D):=by cases args with
     |nil=>exact absurd rfl D
     |cons _ _=>rfl
    obtain⟨_,_,_,m,_⟩:=Y 0 _ c;rw[zch m];exact QbG args (fun i x G=>by
     obtain⟨vs,T,_,_,n⟩:=Y i x G;unfold zu at T;subst T;exact n) j u U
  have F:=Z5 qaF args;have C:Nat.min args.length N=args.length:=Nat.min_eq_left D;have A:=ZcB (P:=Tryz.prog) w 51 51 o.type 43 g N N X args.length cap _ 43 (args.flatMap qt) Tryz.underlying51 (by rw[G,Option.map_some,L]) I (by rw[F,C]) Z (by rw[F];simp;omega) (fun u q=>by
   obtain⟨x,_,p⟩:=List.mem_flatMap.1 q;exact Zea x u p)
  rw[C,Array.toList_replicate,zev args N D]at A;unfold Oper.wp;simp[execOp,M,resolve,invoke,builtin,O,S,A,Result.andThen];refine V _ _ (h _ (by rw[<-List.flatMap_append];exact setRow_heap w g _ _ _ _ I) ⟨rfl,rfl,rfl,by simp[World.setRow],fun k _ r=>setRow_other w g k _ (fun e=>r e)⟩ (by simp[World.setRow]))
theorem ZdT:(Tryz.prog.info? 109).map (fun i=>(i.zero,i.size,i.bytes))=some (some (.pointer none),1,8):=by kernel_rfl
def qbx(w0 w:World)(kb B:Nat)(hv cv:Value)(ps:List (Zc×Value))(qs:List Zs)(tv:Val)(th:Str)(st:Int)(ov:Bool)(c:Cal)(e:Ending)(w':World):Prop :=
 (20<=qs.length/\e=.panicked [zar 4]/\Below w.heap.size w w') \/
 (qs.length<20/\e=.returned (.tuple #[])/\Chg (fun b=>b=kb\/cv.ownBlock=some b) w w'/\∃cv' q,Zk w0 w' kb B hv cv' ps (qs++[q]) tv th st ov/\q.c=c/\(cv'.ownBlock=cv.ownBlock\/∀b,cv'.ownBlock=some b->w.heap.size<=b)/\w.heap.size<=q.cb/\(∀b,q.lv.ownBlock=some b->w.heap.size<=b)/\q.sv.ownBlock=none)
theorem qdT{I w A P:World}{D B:Nat}{Z:Value}{F:Option Addr}{G g cap E N:Nat}{ps:List (Zc×Value)}{qs:List Zs}{a:Val}{d:Str}{f:Int}{i:Bool}{c:Cal}{X H:Value}(M:Zk I w D B Z (.slice F qs.length G) ps qs a d f i)(j:qs.length<20)(x:qe I 6 qw X c.m.code/\qe I 4 qq H c.m.handlers)(y:c.S=[])(z:E=w.heap.size+1)(h3:A.heap.size=w.heap.size+1+1)(M3:Zk I A D B Z (.slice F qs.length G) ps qs a d f i)(hC:Chg (fun _=>False) w A)(hL:A.ownsRow I.heap.size 43 2 (.slice (some ⟨E,0,none⟩) N N) c.L.length (c.L.flatMap qt)){Y:World}(R:Y=(A.drew.alloc (.cells #[.string c.cls,.string c.m.name,.string c.m.type,.bool c.m.static,.bool c.m.abs,.bool c.m.priv,.int .i64 c.m.locals,X,H,.int .i64 c.pc,.slice (some ⟨E,0,none⟩) N N,.slice none 0 0] 111)).alloc (.cells #[.pointer (some ⟨A.heap.size,0,none⟩)] 109))(C:Y.grownBy P (Value.slice F qs.length G).ownBlock)(T:P.ownsRow I.heap.size 109 1 (.slice (some ⟨g,0,none⟩) (qs.length+1) cap) (qs.length+1) (qs.map (fun q=>Value.pointer (some ⟨q.cb,0,none⟩))++[.pointer (some ⟨A.heap.size,0,none⟩)]))(U:(Value.slice F qs.length G).ownBlock=some g\/g=A.heap.size+2):
 qbx I w D B Z (.slice F qs.length G) ps qs a d f i c (.returned (.tuple #[])) (P.setCell ⟨D,2,none⟩ (.slice (some ⟨g,0,none⟩) (qs.length+1) cap)):=by
 have hkl:=M.blk.lt;have O:Below A.heap.size A Y:=by rw[R];exact(Xb.drew.alloc Xl _).alloc (by simp) _
 have J:∀b,(Value.slice F qs.length G).ownBlock=some b->b<w.heap.size:=fun b e=>(M.calls.lt b e).2
 have V:(Value.slice F qs.length G).ownBlock≠some D:=fun e=>by
  have:=M.sep .m .cs D rfl e;cases this
 have l:=(M3.step O).blk.grown C V;have n:Blk P A.heap.size 111 [.string c.cls,.string c.m.name,.string c.m.type,.bool c.m.static,.bool c.m.abs,.bool c.m.priv,.int .i64 c.m.locals,X,H,.int .i64 c.pc,.slice (some ⟨E,0,none⟩) N N,.slice none 0 0]:=by
  refine Blk.grown (w:=Y) ?_ C (fun e=>by have:=J _ e;omega);rw[R];exact(Blk.new A.drew 111 _).step (Xb.alloc Xl _)
 have o:=(Qm hL O).kept C (Or.inr (fun e=>by have:=J E e.symm;omega));have t:Chg (fun b=>b=D\/(Value.slice F qs.length G).ownBlock=some b) w (P.setCell ⟨D,2,none⟩ (.slice (some ⟨g,0,none⟩) (qs.length+1) cap)):=by
  have h1:Chg (fun b=>b=D\/(Value.slice F qs.length G).ownBlock=some b) w P:=((hC.mono fun _ _ h=>h.elim).on O).grown C (fun k e _=>Or.inr e);exact h1.set (p:=⟨D,2,none⟩) (fun _=>Or.inl rfl) _
 have r:(Value.slice (some ⟨g,0,none⟩) (qs.length+1) cap).ownBlock≠some D:=fun e=>by
  have e:g=D:=by injection e
  rcases U with h|h
  ·rw[e]at h;exact V h
  ·omega
 have v:(Value.slice (some ⟨g,0,none⟩) (qs.length+1) cap).ownBlock=(Value.slice F qs.length G).ownBlock\/∀b,(Value.slice (some ⟨g,0,none⟩) (qs.length+1) cap).ownBlock=some b->w.heap.size<=b/\b≠A.heap.size/\b≠E:=by
  rcases U with h|h
  ·exact Or.inl h.symm
  ·refine Or.inr fun b e=>?_
   have e:g=b:=(by injection e);omega
 refine Or.inr ⟨j,rfl,t,_,⟨A.heap.size,X,H,.slice (some ⟨E,0,none⟩) N N,.slice none 0 0,c⟩,M.push t (l.put 2 _) (zai T r _ _) ⟨n.other (by show A.heap.size≠D;omega) _ _,?_,?_,(fun g' _ e=>by cases e),?_,(fun e=>by cases e),(by show I.heap.size<=A.heap.size;have:=M.size;omega)⟩ x (by show w.heap.size<=A.heap.size;omega) ?_ rfl ?_,rfl,(v.imp id fun h b e=>(h b e).1),(by show w.heap.size<=A.heap.size;omega),?_,rfl⟩
 ·exact zai o (fun e=>by
   have e:E=D:=(by injection e);omega) _ _
 ·rw[y];exact⟨rfl,Or.inl ⟨rfl,rfl⟩⟩
 ·intro e;have e:E=A.heap.size:=by injection e
  omega
 ·intro b e;have e:E=b:=by injection e
  omega
 ·refine v.imp id fun h b e=>⟨(h b e).1,(h b e).2.1,fun s=>(h b e).2.2 ?_⟩
  have s:E=b:=by injection s
  exact s.symm
 ·intro b e;have e:E=b:=by injection e
  omega
set_option maxRecDepth 100000
theorem zbg(R w:World)(X B:Nat)(hv cv:Value)(ps:List (Zc×Value))(qs:List Zs)(tv:Val)(th:Str)(st:Int)(ov:Bool)(M:Zk R w X B hv cv ps qs tv th st ov)(cls D E:Str)(k l n:Bool)(N:Nat)(C:List Ins)(A:List QT)(pc Y:Option Addr)(Z c:Nat)(o:qe R 6 qw (.slice pc C.length Z) C)(p:qe R 4 qq (.slice Y A.length c) A)(hN:N<=8)(args:List Val)(gv:Value)(S:qe w 2 zu gv args)(t:args.length<=N):
 Calls Tryz.prog 30 #[.pointer (some ⟨X,0,none⟩),.string cls,.agg #[.string D,.string E,.bool k,.bool l,.bool n,.int .i64 (N:Int),.slice pc C.length Z,.slice Y A.length c],gv] w
  (qbx R w X B hv cv ps qs tv th st ov ⟨cls,⟨D,E,k,l,n,(N:Int),C,A⟩,0,args++List.replicate (N-args.length) v0,[]⟩):=by
 obtain⟨gp,gn,gk,rfl⟩:∃gp gn gk,gv=.slice gp gn gk:=by
  rcases S with⟨rfl,_⟩|⟨a,cap,rfl,_⟩
  ·exact⟨_,_,_,rfl⟩
  ·exact⟨_,_,_,rfl⟩
 obtain⟨xv,aN⟩:∃xv:List Value,xv=[.string D,.string E,.bool k,.bool l,.bool n,.int .i64 (N:Int),.slice pc C.length Z,.slice Y A.length c]:=⟨_,rfl⟩;obtain⟨F,I⟩:∃F,F=w.alloc (.cells #[.string D,.string E,.bool k,.bool l,.bool n,.int .i64 (N:Int),.slice pc C.length Z,.slice Y A.length c] 39):=⟨_,rfl⟩;have J:Below w.heap.size w F:=by rw[I];exact Xb.alloc Xl _
 have v:F.heap.size=w.heap.size+1:=by rw[I];simp
 have T:Blk F w.heap.size 39 [.string D,.string E,.bool k,.bool l,.bool n,.int .i64 (N:Int),.slice pc C.length Z,.slice Y A.length c]:=by rw[I];exact Blk.new w _ _
 have M1:=M.step J;obtain⟨cp,ck,rfl⟩:=Qd M.calls;obtain⟨_,_,q2,hkb⟩:=M1.cells;have x5:F.cell? ⟨w.heap.size,5,none⟩=some (.int .i64 (N:Int)):=T.cell 5;have x:=Xh I;have y:=Xh J;by_cases h20:20<=qs.length
 ·have z1:decide ((20:Int)<=(qs.length:Int))=true:=Xj (by omega);clear M M1 I J T S o p aN;go_enter Tryz.func30,Tryz.ntmps30;go_upto_region 1 with fail;rw[<-x.out];go_wp2_with fail;exact⟨rfl,Or.inl ⟨h20,rfl,y⟩⟩
 ·have z1:decide ((20:Int)<=(qs.length:Int))=false:=Xi (by omega);have hmk:=zb3 N (by omega);have d:=S.mono J (by decide) (fun _ _ h=>h);have HM:=Xh M;have z:=Xh M1;have HBx:=Xh T;have L:=Xh v;clear M M1 I J T aN v;go_enter Tryz.func30,Tryz.ntmps30;go_upto_region 1 with fail;rw[<-x.out];go_upto_region 4 with fail;have O:=(Below.refl F.heap.size F).alloc Xl (.cells (Array.replicate (N*2) (Value.int .i64 0)) 43);have aA:(F.alloc (.cells (Array.replicate (N*2) (Value.int .i64 0)) 43)).heap[F.heap.size]? = some (.cells (Array.replicate (N*2) (Value.int .i64 0)) 43 (0,0)):=heap_alloc_new _ _;have f:=d.mono O (by decide) (fun _ _ h=>h);have aB:(F.alloc (.cells (Array.replicate (N*2) (Value.int .i64 0)) 43)).heap.size=F.heap.size+1:=by simp
  have HM2:=Xh (z.out.step O);have aC:=Xh (HBx.out.step O);clear S d hmk;generalize F.alloc (.cells (Array.replicate (N*2) (Value.int .i64 0)) 43)=w2 at *;have HB2:=Xh O;have HS2:=Xh aB;clear O aB;go_upto_region 5 with(refine Zb6 rfl _ _ rfl F.heap.size N rfl _ rfl aA args f t ?_;intro H aO V hs3)
  have j:R.heap.size<=F.heap.size:=z.out.size;have aD:∀r b,QV X hv (.slice cp qs.length ck) ps qs r=some b->b<w.heap.size:=fun r b hr=>(HM.out.lt r b hr).2
  have U:=Xh (HM2.out.far V (fun b hb=>by rw[hb];exact j) (fun r b hr hb=>by have:=aD r b hr;have:=L.out;omega));have G:=aC.out.chg V (by have:=L.out;omega);have aE:H.ownsRow R.heap.size 43 2 (.slice (some ⟨F.heap.size,0,none⟩) N N) N ((args++List.replicate (N-args.length) v0).flatMap qt):=by
   have aF:(args++List.replicate (N-args.length) v0).length=N:=(by simp;omega);have hf:=Z5 qaF (args++List.replicate (N-args.length) v0);rw[aF]at hf;exact⟨hf,Or.inr ⟨F.heap.size,N,_,rfl,j,aO,Xl,by unfold maxLen;omega,by rw[List.size_toArray];exact hf,by rw[List.take_of_length_le (by rw[<-hf];exact Xl)];rfl⟩⟩
  have aG:(args++List.replicate (N-args.length) v0).length=N:=by simp;omega
  have HL3:Hid (H.ownsRow R.heap.size 43 2 (.slice (some ⟨F.heap.size,0,none⟩) N N) (args++List.replicate (N-args.length) v0).length ((args++List.replicate (N-args.length) v0).flatMap qt)):=by rw[aG];exact aE
  have HC3:Hid (Chg (fun _=>False) w H):=((Chg.of y.out).on HB2.out).trans V (fun i hi e=>by have:=L.out;omega);have HMe:Hid (qe R 6 qw (.slice pc C.length Z) C/\qe R 4 qq (.slice Y A.length c) A):=⟨o,p⟩;have HBx3:=Xh G;have HS3:Hid (H.heap.size=w.heap.size+1+1):=by
   have h1:=HS2.out;have h2:=L.out;show H.heap.size=_
   omega
  have aH:=(Below.refl H.heap.size H).drew;have aI:=(aH.alloc aH.size (.cells #[.string cls,.string D,.string E,.bool k,.bool l,.bool n,.int .i64 (N:Int),.slice pc C.length Z,.slice Y A.length c,.int .i64 0,.slice (some ⟨F.heap.size,0,none⟩) N N,.slice none 0 0] 111));have hBf:=aI.alloc aI.size (.cells #[.pointer (some ⟨H.heap.size,0,none⟩)] 109);have M4:=U.out.step hBf;have aJ:=M4.calls;have aK:qs.length+1<=maxLen:=by unfold maxLen;omega
  have aL:(qs.length+1)*8<=140737488355328:=by omega
  have q:=M4.size;obtain⟨i0,hi,hz0,hz1,hz2⟩:=info_parts ZdT;have q23:H.cell? ⟨X,2,none⟩=some (.slice cp qs.length ck):=U.out.cells.2.2.1;have hkb3:=U.out.cells.2.2.2;obtain⟨y0,y1,y2,y3,y4,y5,y6,y7⟩:=G.cells8;have hxl:=G.lt;have HM4:=Xh M4;have aM:=heap_alloc_new (H.drew.alloc (.cells #[.string cls,.string D,.string E,.bool k,.bool l,.bool n,.int .i64 (N:Int),.slice pc C.length Z,.slice Y A.length c,.int .i64 0,.slice (some ⟨F.heap.size,0,none⟩) N N,.slice none 0 0] 111)) (.cells #[.pointer (some ⟨H.heap.size,0,none⟩)] 109);rw[World.size_alloc]at aM;have hkr:Hid (some X≠(Value.slice cp qs.length ck).ownBlock):=fun e=>by
   have:=HM.out.sep .m .cs X rfl e.symm;cases this
  clear M4 aO V hs3 aE G aD f aA t o p aG;go_region_law (first|(refine step_append_lies _ (by rfl) _ _ 80 (by rfl) R.heap.size 109 i0 (.pointer none) 1 8 Tryz.underlying80 hi hz0 hz1 hz2 rfl (by decide) _ qs.length _ (by rfl) aJ ⟨H.heap.size+1,0,none⟩ 1 1 [.pointer (some ⟨H.heap.size,0,none⟩)] (by rfl) rfl (World.news_of_block aM) (fun u hu=>by simp at hu;subst hu;rfl) (by decide) aK aL q (H.heap.size+2) (by simp) ?_;intro g cap w8 s P hat hlt;(have k8:=HM4.out.blk.grown P (fun e=>hkr.out e.symm));(have e0:w8.cell? ⟨X,2,none⟩=some (.slice cp qs.length ck):=k8.cell 2);(have f8:=k8.frozen 2)))
  all_goals
   go_end0;exact qdT HM.out (by omega) HMe.out rfl L.out HS3.out U.out HC3.out HL3.out rfl P s hat
set_option maxRecDepth 512
end Go.Proofs.YtmclocdhcblbiaaGreatDoor
