/- Lemmas; conditions: as each states. -/
import Derived.Test.YtmclocdhcblbiaaGreatDoorZFrameOps
import Derived.Laws.Concat
set_option maxHeartbeats 4000000
namespace Go.Proofs.YtmclocdhcblbiaaGreatDoor
open Go.RowKit Go.Shelf Go.Lib Tryz
theorem Qek(a:Value)(n:Nat):madeCells #[a,a] (n*2)=Array.replicate (n*2) a:=by
 apply Array.ext
 ·simp[madeCells]
 ·intro i A B;simp only[madeCells,Array.getElem_map,Array.getElem_range,Array.getElem_replicate];have:i % 2=0\/i % 2=1:=by omega
  rcases this with h|h<;>simp[h]
def qah:Val:=⟨0,0⟩
theorem qbh:∀n:Nat,(List.replicate n qah).flatMap Zt=List.replicate (n*2) (Value.int .i64 0)
 |0=>rfl
 |n+1=>by
  rw[List.replicate_succ,List.flatMap_cons,qbh n,show(n+1)*2=n*2+1+1 by omega,List.replicate_succ,List.replicate_succ];rfl
theorem qb3(n:Nat)(G:n<=16777216)(w:World):(Instr.makeSlice 51 (.int .i64 (n:Int)) (.int .i64 (n:Int))).run prog w=.ok (.slice (some ⟨w.heap.size,0,none⟩) n n) (w.alloc (.cells (Array.replicate (n*2) (Value.int .i64 0)) 43)):=by
 obtain⟨E,F,A,B,C⟩:=info_parts ZbU;have D:=run_make (P:=prog) w 51 43 E (.agg #[.int .i64 0,.int .i64 0]) underlying51 F A .i64 .i64 n n (by omega) (Int.le_refl _) (by rw[C];omega) (by omega);rw[Int.toNat_natCast,B,show(Value.agg #[Value.int .i64 0,.int .i64 0]).cells=#[Value.int .i64 0,.int .i64 0] from rfl,Qek]at D;exact D
theorem qcT(w:World)(n:Nat)(A:n<=16777216):(w.alloc (.cells (Array.replicate (n*2) (Value.int .i64 0)) 43)).ownsRow w.heap.size 43 2 (.slice (some ⟨w.heap.size,0,none⟩) n n) (List.replicate n qah).length ((List.replicate n qah).flatMap Zt):=by
 have h:=World.ownsRow_lit (base:=w.heap.size) (e:=43) (size:=2) w (Array.replicate (n*2) (Value.int .i64 0)) n Xl (by unfold maxLen;omega) (by simp);rw[List.length_replicate,qbh,<-Array.toList_replicate];exact h
def zbb(w:World)(c:Str)(n:Nat)(e:Ending)(w':World):Prop :=
 (∃p k,e=.returned (.agg #[.string (Qc c),.slice p n k])/\w'.ownsRow w.heap.size 43 2 (.slice p n k) (List.replicate n qah).length ((List.replicate n qah).flatMap Zt))/\Below w.heap.size w w'
set_option maxRecDepth 100000
theorem QcT(S w:World)(B:Nat)(l:List qa)(E:qh S w B l)(c:Str)(M:(Qb (Za l) c).isSome=true):
 Calls prog 83 #[.map (some B),.string c] w (zbb w c (Zq (qW (Za l) c)).length):=by
 have F:Hid (∀wx,Below w.heap.size w wx->_):=fun wx X=>QbS S wx B l (E.step X) c M
 have G:=qaQ E.faults M;have O:Hid (∀wx,_):=fun wx=>ZZ c wx (by omega)
 have N:(Zq (qW (Za l) c)).length<=4194304:=by have:=Zbx E.right E.faults M;unfold Zq;rw[List.length_map];omega
 unfold zbq at F;unfold zbb;generalize Zq (qW (Za l) c)=T at *;clear E M G;have U:=qb3 T.length (by omega);have H:=Xh ((Below.refl w.heap.size w).alloc Xl (.cells #[.string ⟨#[]⟩,.slice none 0 0] 106));have P:=Xh (Blk.new w 106 [.string ⟨#[]⟩,.slice none 0 0]);go_enter func83,ntmps83;go_wp2_with (first
  |(go_fit (O.out _);rintro e g⟨rfl,rfl⟩)
  |(go_fit (F.out _ H.out);rintro e C⟨⟨h,rfl,R⟩,L⟩;obtain⟨d,f,rfl⟩:=Ze R;(have A:=P.out.step L);(have Y:C.cell? ⟨w.heap.size,0,none⟩=some (.string ⟨#[]⟩):=A.cell 0);(have Z:C.cell? ⟨w.heap.size,1,none⟩=some (.slice none 0 0):=A.cell 1);(have a:=A.frozen 0);(have b:=A.frozen 1);(have V:=A.lt)))
 have D:=qcT ((C.setCell ⟨w.heap.size,0,none⟩ (.string (Qc c))).setCell ⟨w.heap.size,1,none⟩ (.slice (some ⟨C.heap.size,0,none⟩) T.length T.length)) T.length (by omega);have I:((C.setCell ⟨w.heap.size,0,none⟩ (.string (Qc c))).setCell ⟨w.heap.size,1,none⟩ (.slice (some ⟨C.heap.size,0,none⟩) T.length T.length)).heap.size=C.heap.size:=by simp
 have J:=(ZaF (Qa H Xl L) (Nat.le_refl w.heap.size) (.string (Qc c)) (.slice (some ⟨C.heap.size,0,none⟩) T.length T.length)).alloc (by rw[I];omega) (.cells (Array.replicate (T.length*2) (Value.int .i64 0)) 43);rw[I]at D;refine bodyPost_ret (v:=.agg #[.string (Qc c),.slice (some ⟨C.heap.size,0,none⟩) T.length T.length]) (by simp[results,results83,go_sem, *]) rfl ?_;exact⟨⟨_,_,rfl,ZX D (by omega)⟩,J⟩
theorem ZeP{l:List Val}{k:Nat}{v:Val}(A:k<l.length):((l.flatMap Zt).set (k*2) (.int .i64 v.kind)).set (k*2+1) (.int .i64 v.n)=(l.set k v).flatMap Zt:=by
 induction l generalizing k with
 |nil=>simp at A
 |cons y r B =>
  cases k with
  |zero=>simp[Zt]
  |succ k =>
   rw[Xd,List.flatMap_cons,List.flatMap_cons,<-B (by simpa using A),show(k+1)*2=k*2+1+1 by omega];rfl
theorem Zbr{w:World}{base:Nat}{t:TypeId}{g n cap:Nat}{l:List Val}(h:w.ownsRow base t 2 (.slice (some ⟨g,0,none⟩) n cap) n (l.flatMap Zt)){k:Nat}(A:k<l.length)(v:Val):
 ((w.setCell ⟨g,k*2,none⟩ (.int .i64 v.kind)).setCell ⟨g,k*2+1,none⟩ (.int .i64 v.n)).ownsRow base t 2 (.slice (some ⟨g,0,none⟩) n cap) n ((l.set k v).flatMap Zt):=by
 rw[<-ZeP A];exact((h.stored (k*2) (.int .i64 v.kind)).1.stored (k*2+1) (.int .i64 v.n)).1
theorem qeP{l:List Val}{T:List Str}{k:Nat}{t:Str}(B:l.length=T.length)(h:l.take k=(T.take k).map QG)(C:T[k]? = some t):(l.set k (QG t)).take (k+1)=(T.take (k+1)).map QG:=by
 obtain⟨A,rfl⟩:=List.getElem?_eq_some_iff.1 C;rw[List.take_succ_eq_append_getElem A,List.map_append,<-h,List.take_succ_eq_append_getElem (by simpa[B] using A),List.take_set_of_le (Nat.le_refl k)];simp
theorem qaj{w:World}{base b size n:Nat}{t:TypeId}{v:Value}{xs:List Value}(h:w.ownsRow base t size v n xs)(D:v.ownBlock≠some b)(j:Nat)(u:Value):(w.setCell ⟨b,j,none⟩ u).ownsRow base t size v n xs:=by
 rcases h with⟨B,E|⟨g,cap,A,C,F,G,H⟩⟩
 ·exact⟨B,Or.inl E⟩
 ·exact⟨B,Or.inr ⟨g,cap,A,C,F,(Xk w ⟨b,j,none⟩ g u (fun e=>D (by rw[C,e];rfl))).trans G,H⟩⟩
theorem zcU(c:Str):Qc c=qaM c:=by
 have h:=QaE c;unfold qaM;rw[show(76::(lst c++[59]):List UInt8)=qe (.cl c) from rfl,<-h,zaQ]
theorem zdt{l:List qa}{c:Str}(A:(Qb (Za l) c).isSome=true)(n:Nat):Qab (Za l) ⟨Qc c,List.replicate n qah⟩ (.cl c):=⟨(QaE c).symm,A,rfl,by simp[qD]⟩
theorem qbr(cs:List qa)(c:Str)(n:Nat):zO cs ⟨Qc c,List.replicate n qah⟩=Zq (qW cs c):=by
 unfold zO;rw[zU (QaE c).symm]
theorem Blk.stepB{B:Nat}{w w':World}{b:Nat}{t:TypeId}{A:List Value}(h:Blk w b t A)(D:Below B w w')(C:b<B):Blk w' b t A:=(D.block b C).trans h
theorem zfa(k:Str):lst (⟨#[91]⟩++k)=91::lst k:=by
 unfold lst;rw[ByteArray.data_append,Array.toList_append];rfl
theorem QeP{k:Str}(h:zp (91::lst k)=true):∃e,qe e=lst k/\QaM e=true/\qD (.ar e)<=3:=by
 obtain⟨x,A,_,C⟩:=za9 _ h;have B:=ZaQ (x:=x) (by rw[A];exact h);cases x with
 |i=>simp[qe]at A
 |j=>simp[qe]at A
 |cl c=>simp[qe]at A
 |ar e=>exact⟨e,by simpa[qe] using A,C,B⟩
theorem Zdt{k:Str}{x:Kd}{e:Ty}(B:Qo x=lst k)(A:qe e=lst k):x=.ty e:=by
 cases x with
 |n=>rw[<-B]at A;cases e<;>simp[qe,Qo]at A
 |t=>rw[<-B]at A;cases e<;>simp[qe,Qo]at A
 |ty y=>rw[<-zU B,zU A]
theorem zel{cs:List qa}{k a:Str}(B:lst a=91::lst k){e:Ty}(A:qe e=lst k)(C:qD (.ar e)<=3)(D:Zg cs k=0)(n:Nat):Qab cs ⟨a,List.replicate n qah⟩ (.ar e):=by
 obtain⟨x,E,F⟩:=QT D;obtain rfl:=Zdt E A;exact⟨by show qe (.ar e)=lst a;rw[B,<-A];rfl,F,rfl,C⟩
theorem Zel{cs:List qa}{k a:Str}(B:lst a=91::lst k){e:Ty}(A:qe e=lst k)(n:Nat):zO cs ⟨a,List.replicate n qah⟩=List.replicate n k:=by
 unfold zO;rw[show Qz a=.ar e from zU (by rw[B,<-A];rfl)];dsimp only;rw[List.length_replicate,A,zaQ]
theorem zeQ{k a:Str}(A:lst a=91::lst k):a=str (91::lst k):=by rw[<-A,zaQ]
