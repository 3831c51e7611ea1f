/- Lemmas; conditions: as each states. -/
import Derived.Test.YtmclocdhcblbiaaGreatDoorFrameOps
import Derived.Laws.Concat
set_option maxHeartbeats 4000000
namespace Go.Proofs.YtmclocdhcblbiaaGreatDoor
open Go.RowKit Go.Shelf Go.Lib
theorem qel(a:Value)(n:Nat):madeCells #[a,a] (n*2)=Array.replicate (n*2) a:=by
 apply Array.ext
 ·simp[madeCells]
 ·intro i A B;simp only[madeCells,Array.getElem_map,Array.getElem_range,Array.getElem_replicate];have:i % 2=0\/i % 2=1:=by omega
  rcases this with h|h<;>simp[h]
def Qaf:Val:=⟨0,0⟩
theorem zbe:∀n:Nat,(List.replicate n Qaf).flatMap qt=List.replicate (n*2) (Value.int .i64 0)
 |0=>rfl
 |n+1=>by
  rw[List.replicate_succ,List.flatMap_cons,zbe n,show(n+1)*2=n*2+1+1 by omega,List.replicate_succ,List.replicate_succ];rfl
theorem zb3(n:Nat)(G:n<=16777216)(w:World):(Instr.makeSlice 51 (.int .i64 (n:Int)) (.int .i64 (n:Int))).run Tryz.prog w=.ok (.slice (some ⟨w.heap.size,0,none⟩) n n) (w.alloc (.cells (Array.replicate (n*2) (Value.int .i64 0)) 43)):=by
 obtain⟨E,F,A,B,C⟩:=info_parts ZbS;have D:=run_make (P:=Tryz.prog) w 51 43 E (.agg #[.int .i64 0,.int .i64 0]) Tryz.underlying51 F A .i64 .i64 n n (by omega) (Int.le_refl _) (by rw[C];omega) (by omega);rw[Int.toNat_natCast,B,show(Value.agg #[Value.int .i64 0,.int .i64 0]).cells=#[Value.int .i64 0,.int .i64 0] from rfl,qel]at D;exact D
theorem qcR(w:World)(n:Nat)(A:n<=16777216):(w.alloc (.cells (Array.replicate (n*2) (Value.int .i64 0)) 43)).ownsRow w.heap.size 43 2 (.slice (some ⟨w.heap.size,0,none⟩) n n) (List.replicate n Qaf).length ((List.replicate n Qaf).flatMap qt):=by
 have h:=World.ownsRow_lit (base:=w.heap.size) (e:=43) (size:=2) w (Array.replicate (n*2) (Value.int .i64 0)) n Xl (by unfold maxLen;omega) (by simp);rw[List.length_replicate,zbe,<-Array.toList_replicate];exact h
def Qa6(w:World)(c:Str)(n:Nat)(e:Ending)(w':World):Prop :=
 (∃p k,e=.returned (.agg #[.string (Qc c),.slice p n k])/\w'.ownsRow w.heap.size 43 2 (.slice p n k) (List.replicate n Qaf).length ((List.replicate n Qaf).flatMap qt))/\Below w.heap.size w w'
set_option maxRecDepth 100000
theorem QcR(S w:World)(B:Nat)(l:List qa)(E:Zi S w B l)(c:Str)(M:(Qb (Za l) c).isSome=true):
 Calls Tryz.prog 83 #[.map (some B),.string c] w (Qa6 w c (Qq (zU (Za l) c)).length):=by
 have F:Hid (∀wx,Below w.heap.size w wx->_):=fun wx X=>zbR S wx B l (E.step X) c M
 have G:=qaM E.faults M;have O:Hid (∀wx,_):=fun wx=>zW c wx (by omega)
 have N:(Qq (zU (Za l) c)).length<=4194304:=by have:=Qbu E.right E.faults M;unfold Qq;rw[List.length_map];omega
 unfold zbn at F;unfold Qa6;generalize Qq (zU (Za l) c)=T at *;clear E M G;have U:=zb3 T.length (by omega);have H:=Xh ((Below.refl w.heap.size w).alloc Xl (.cells #[.string ⟨#[]⟩,.slice none 0 0] 106));have P:=Xh (Blk.new w 106 [.string ⟨#[]⟩,.slice none 0 0]);go_enter Tryz.func83,Tryz.ntmps83;go_wp2_with (first
  |(go_fit (O.out _);rintro e g⟨rfl,rfl⟩)
  |(go_fit (F.out _ H.out);rintro e C⟨⟨h,rfl,R⟩,L⟩;obtain⟨d,f,rfl⟩:=Qd R;(have A:=P.out.step L);(have Y:C.cell? ⟨w.heap.size,0,none⟩=some (.string ⟨#[]⟩):=A.cell 0);(have Z:C.cell? ⟨w.heap.size,1,none⟩=some (.slice none 0 0):=A.cell 1);(have a:=A.frozen 0);(have b:=A.frozen 1);(have V:=A.lt)))
 have D:=qcR ((C.setCell ⟨w.heap.size,0,none⟩ (.string (Qc c))).setCell ⟨w.heap.size,1,none⟩ (.slice (some ⟨C.heap.size,0,none⟩) T.length T.length)) T.length (by omega);have I:((C.setCell ⟨w.heap.size,0,none⟩ (.string (Qc c))).setCell ⟨w.heap.size,1,none⟩ (.slice (some ⟨C.heap.size,0,none⟩) T.length T.length)).heap.size=C.heap.size:=by simp
 have J:=(QaB (Qa H Xl L) (Nat.le_refl w.heap.size) (.string (Qc c)) (.slice (some ⟨C.heap.size,0,none⟩) T.length T.length)).alloc (by rw[I];omega) (.cells (Array.replicate (T.length*2) (Value.int .i64 0)) 43);rw[I]at D;refine bodyPost_ret (v:=.agg #[.string (Qc c),.slice (some ⟨C.heap.size,0,none⟩) T.length T.length]) (by simp[results,Tryz.results83,go_sem, *]) rfl ?_;exact⟨⟨_,_,rfl,QU D (by omega)⟩,J⟩
set_option maxRecDepth 512
theorem zeM{l:List Val}{k:Nat}{v:Val}(A:k<l.length):((l.flatMap qt).set (k*2) (.int .i64 v.kind)).set (k*2+1) (.int .i64 v.n)=(l.set k v).flatMap qt:=by
 induction l generalizing k with
 |nil=>simp at A
 |cons y r B =>
  cases k with
  |zero=>simp[qt]
  |succ k =>
   rw[Xd,List.flatMap_cons,List.flatMap_cons,<-B (by simpa using A),show(k+1)*2=k*2+1+1 by omega];rfl
theorem Zbo{w:World}{base:Nat}{t:TypeId}{g n cap:Nat}{l:List Val}(h:w.ownsRow base t 2 (.slice (some ⟨g,0,none⟩) n cap) n (l.flatMap qt)){k:Nat}(A:k<l.length)(v:Val):
 ((w.setCell ⟨g,k*2,none⟩ (.int .i64 v.kind)).setCell ⟨g,k*2+1,none⟩ (.int .i64 v.n)).ownsRow base t 2 (.slice (some ⟨g,0,none⟩) n cap) n ((l.set k v).flatMap qt):=by
 rw[<-zeM A];exact((h.stored (k*2) (.int .i64 v.kind)).1.stored (k*2+1) (.int .i64 v.n)).1
theorem ZeM{l:List Val}{T:List Str}{k:Nat}{t:Str}(B:l.length=T.length)(h:l.take k=(T.take k).map QF)(C:T[k]? = some t):(l.set k (QF t)).take (k+1)=(T.take (k+1)).map QF:=by
 obtain⟨A,rfl⟩:=List.getElem?_eq_some_iff.1 C;rw[List.take_succ_eq_append_getElem A,List.map_append,<-h,List.take_succ_eq_append_getElem (by simpa[B] using A),List.take_set_of_le (Nat.le_refl k)];simp
theorem zai{w:World}{base b size n:Nat}{t:TypeId}{v:Value}{xs:List Value}(h:w.ownsRow base t size v n xs)(D:v.ownBlock≠some b)(j:Nat)(u:Value):(w.setCell ⟨b,j,none⟩ u).ownsRow base t size v n xs:=by
 rcases h with⟨B,E|⟨g,cap,A,C,F,G,H⟩⟩
 ·exact⟨B,Or.inl E⟩
 ·exact⟨B,Or.inr ⟨g,cap,A,C,F,(Xk w ⟨b,j,none⟩ g u (fun e=>D (by rw[C,e];rfl))).trans G,H⟩⟩
theorem zcS(c:Str):Qc c=QaZ c:=by
 have h:=QaA c;unfold QaZ;rw[show(76::(lst c++[59]):List UInt8)=qd (.cl c) from rfl,<-h,zaM]
theorem zdr{l:List qa}{c:Str}(A:(Qb (Za l) c).isSome=true)(n:Nat):zaa (Za l) ⟨Qc c,List.replicate n Qaf⟩ (.cl c):=⟨(QaA c).symm,A,rfl,by simp[ZD]⟩
theorem qbo(cs:List qa)(c:Str)(n:Nat):zM cs ⟨Qc c,List.replicate n Qaf⟩=Qq (zU cs c):=by
 unfold zM;rw[QR (QaA c).symm]
theorem Blk.stepB{B:Nat}{w w':World}{b:Nat}{t:TypeId}{A:List Value}(h:Blk w b t A)(D:Below B w w')(C:b<B):Blk w' b t A:=(D.block b C).trans h
theorem Qe4(k:Str):lst (⟨#[91]⟩++k)=91::lst k:=by
 unfold lst;rw[ByteArray.data_append,Array.toList_append];rfl
theorem qeM{k:Str}(h:qo (91::lst k)=true):∃e,qd e=lst k/\ZaI e=true/\ZD (.ar e)<=3:=by
 obtain⟨x,A,_,C⟩:=qa4 _ h;have B:=ZaM (x:=x) (by rw[A];exact h);cases x with
 |i=>simp[qd]at A
 |j=>simp[qd]at A
 |cl c=>simp[qd]at A
 |ar e=>exact⟨e,by simpa[qd] using A,C,B⟩
theorem Zdr{k:Str}{x:Kd}{e:Ty}(B:zp x=lst k)(A:qd e=lst k):x=.ty e:=by
 cases x with
 |n=>rw[<-B]at A;cases e<;>simp[qd,zp]at A
 |t=>rw[<-B]at A;cases e<;>simp[qd,zp]at A
 |ty y=>rw[<-QR B,QR A]
theorem Qel{cs:List qa}{k a:Str}(B:lst a=91::lst k){e:Ty}(A:qd e=lst k)(C:ZD (.ar e)<=3)(D:Qg cs k=0)(n:Nat):zaa cs ⟨a,List.replicate n Qaf⟩ (.ar e):=by
 obtain⟨x,E,F⟩:=zR D;obtain rfl:=Zdr E A;exact⟨by show qd (.ar e)=lst a;rw[B,<-A];rfl,F,rfl,C⟩
theorem zem{cs:List qa}{k a:Str}(B:lst a=91::lst k){e:Ty}(A:qd e=lst k)(n:Nat):zM cs ⟨a,List.replicate n Qaf⟩=List.replicate n k:=by
 unfold zM;rw[show Qy a=.ar e from QR (by rw[B,<-A];rfl)];dsimp only;rw[List.length_replicate,A,zaM]
theorem QeM{k a:Str}(A:lst a=91::lst k):a=str (91::lst k):=by rw[<-A,zaM]
end Go.Proofs.YtmclocdhcblbiaaGreatDoor
