/- Lemmas; conditions: as each states. -/
import Derived.Test.YtlmfmioljeppfaaGreatDoorCheckLaw
import Derived.Test.YtlmfmioljeppfaaGreatDoorQueue
set_option maxHeartbeats 4000000
namespace Go.Proofs.YtlmfmioljeppfaaGreatDoor
open Go.RowKit Go.Shelf Go.Lib Go.ChangeMaps
theorem Qcx:Tryz.prog.underlying 3=some (.int .i64):=by kernel_rfl
theorem Za0:Tryz.prog.underlying 116=some (.map 3 27):=by kernel_rfl
def Zet:Value:=.agg #[.slice none 0 0,.slice none 0 0]
theorem zdw(w:World):(zeroValue 27).run Tryz.prog w=.ok Zet w:=by kernel_rfl
theorem zcy{i:Nat}(hi:i<=64):keyOf Tryz.prog 3 (zL i)=some (.int .i64 (i:Int)):=by
 refine Go.Maps.keyOf_int_mk Qcx ?_;unfold Lit.wf;simp;exact⟨by
  have:IntKind.i64.min<=0:=by decide
  omega,by
   have:(64:Int)<=IntKind.i64.max:=(by decide);omega⟩
theorem Zb0{i k:Nat}(h:zL i=zL k):i=k:=by
 unfold zL at h;injection h with _ h
 omega
structure zaK (R:Value->Value->Frm->Prop) (w:World) (mb:Nat) (F:Asg Frm):Prop where
 ex:∃es clock,w.heap[mb]? = some (.map es clock)/\(es.toList.map (·.key)).Nodup/\(∀e∈es.toList,∃i f lv sv,i<=64/\e.key=zL i/\e.val=.agg #[lv,sv]/\F i=some f/\R lv sv f)/\(∀i f,F i=some f->∃e∈es.toList,e.key=zL i)/\(es.toList.map (·.born)).Nodup/\∀e∈es.toList,e.born<clock
theorem zaK.lt{R:Value->Value->Frm->Prop}{w:World}{B:Nat}{F:Asg Frm}(h:zaK R w B F):B<w.heap.size:=by
 obtain⟨D,A,C,_⟩:=h.ex;exact(Array.getElem?_eq_some_iff.1 C).1
theorem zaK.keep{R E:Value->Value->Frm->Prop}{w w':World}{B:Nat}{F:Asg Frm}(h:zaK R w B F)(G:w'.heap[B]? = w.heap[B]?)(H:∀C D f,R C D f->E C D f):zaK E w' B F:=by
 obtain⟨I,A,J,L,M,N⟩:=h.ex;exact⟨I,A,G.trans J,L,(fun e V=>by
  obtain⟨i,f,C,D,O,P,S,T,U⟩:=M e V;exact⟨i,f,C,D,O,P,S,T,H _ _ _ U⟩),N⟩
theorem zaK.made(R:Value->Value->Frm->Prop)(w:World):zaK R (w.alloc (.map #[] 0)) w.heap.size (fun _=>none) :=
 ⟨#[],0,heap_alloc_new _ _,by simp,fun e A=>by simp at A,(fun i f h=>by cases h),by simp,fun e A=>by simp at A⟩
theorem zaK.keys{A:Array MapEntry}{R:Value->Value->Frm->Prop}{F:Asg Frm}(D:∀e∈A.toList,∃i f B C,i<=64/\e.key=zL i/\e.val=.agg #[B,C]/\F i=some f/\R B C f):∀e∈A.toList,∃l,keyOf Tryz.prog 3 e.key=some l:=fun e G=>by
 obtain⟨i,_,_,_,hi,E,_⟩:=D e G;exact⟨_,by rw[E];exact zcy hi⟩
theorem qb0{l:List MapEntry}(h:(l.map (·.key)).Nodup){n j:Nat}(C:n<l.length)(D:j<l.length)(B:n≠j):l[n].key≠l[j].key:=by
 have h:=List.pairwise_map.1 h;rw[List.pairwise_iff_getElem]at h;rcases Nat.lt_or_gt_of_ne B with A|A
 ·exact h n j C D A
 ·exact fun e=>h j n D C A e.symm
theorem zed{l:List MapEntry}(h:(l.map (·.key)).Nodup){a b:MapEntry}(B:a∈l)(C:b∈l)(e:a.key=b.key):a=b:=by
 obtain⟨i,hi,rfl⟩:=List.getElem_of_mem B;obtain⟨k,D,rfl⟩:=List.getElem_of_mem C;by_cases A:i=k
 ·subst A;rfl
 ·exact absurd e (qb0 h hi D A)
theorem QcI{α:Type}{l:List α}{j:Nat}{x:α}(h:l[j]? = some x):l.set j x=l:=by
 refine List.ext_getElem? fun n=>?_
 rw[List.getElem?_set];split
 ·rename_i e;subst e;rw[h,if_pos (List.getElem?_eq_some_iff.1 h).1]
 ·rfl
theorem zaK.look{R:Value->Value->Frm->Prop}{w:World}{J:Nat}{F:Asg Frm}(h:zaK R w J F){i:Nat}(hi:i<=64):
 ∃C D,(match F i with|none=>C=.slice none 0 0/\D=.slice none 0 0|some f=>R C D f) /\
  ∀(wx:World) (ok:Bool),wx.heap[J]? = w.heap[J]?->(Instr.lookup 116 (.map (some J)) (zL i) ok).run Tryz.prog wx=.ok (if ok then .tuple #[.agg #[C,D],.bool (F i).isSome] else .agg #[C,D]) wx:=by
 obtain⟨b,T,c,g,U,l,_⟩:=h.ex;have K:=Go.Maps.int_keyed (P:=Tryz.prog) Qcx;have A:=zcy hi;have H:=zaK.keys U;cases S:F i with
 |none =>
  refine⟨.slice none 0 0,.slice none 0 0,⟨rfl,rfl⟩,fun wx ok X=>?_⟩;have B:=X.trans c;rcases K.find wx A b.toList H with⟨L,_⟩|⟨j,Y,_,I,Z⟩
  ·have a:=zdw wx;unfold Zet at a;cases ok<;>simp[Instr.lookup,run_underlying Za0,MapKept.run_getObj_map B,K.check wx _ A,L,a,Result.andThen]
  ·obtain⟨k,f,C,D,_,m,_,d,_⟩:=U Y (Xe I);have:k=i:=Zb0 (m.symm.trans Z);subst this;rw[S]at d;cases d
 |some f =>
  obtain⟨V,E,G⟩:=l i f S;obtain⟨n,f1,C,D,_,o,p,e,q⟩:=U V E;have M:n=i:=Zb0 (o.symm.trans G);subst M;rw[S]at e;have N:f=f1:=Option.some.inj e;subst N;refine⟨C,D,q,fun wx ok X=>?_⟩;have B:=X.trans c;rcases K.find wx A b.toList H with⟨_,I⟩|⟨j,Y,L,I,Z⟩
  ·exact absurd G (I V E)
  ·have O:Y=V:=zed g (Xe I) E (Z.trans G.symm);subst O;rw[p]at L;cases ok<;>simp[Instr.lookup,run_underlying Za0,MapKept.run_getObj_map B,K.check wx _ A,L,Result.andThen]
theorem zaK.put{R:Value->Value->Frm->Prop}{w:World}{U:Nat}{F:Asg Frm}(h:zaK R w U F){i:Nat}(hi:i<=64)(f:Frm)(J L:Value)(hR:R J L f):
 ∃o,(Instr.mapUpdate 116 (.map (some U)) (zL i) (.agg #[J,L])).run Tryz.prog w=.ok () (setBlock w U o)/\zaK R (setBlock w U o) U (F.put i f):=by
 obtain⟨G,D,T,m,p,h4,h5,b⟩:=h.ex;have K:=Go.Maps.int_keyed (P:=Tryz.prog) Qcx;have E:=zcy hi;have d:=zaK.keys p;rcases K.find w E G.toList d with⟨g1,I⟩|⟨j,S,g1,I,c⟩
 ·refine⟨.map (G.push ⟨zL i,.agg #[J,L],D⟩) (D+1),?_,_,_,heap_setBlock_same T _,?_,?_,?_,?_,?_⟩
  ·simp[Instr.mapUpdate,run_underlying Za0,MapKept.run_getObj_map T,K.check w false E,g1,MapKept.run_setObj_map _ T,Result.andThen,setBlock]
  ·rw[Array.toList_push,List.map_append,List.nodup_append];refine⟨m,by simp,fun x hx y a=>?_⟩;rw[List.map_singleton,List.mem_singleton]at a;subst a;obtain⟨e,A,rfl⟩:=List.mem_map.1 hx;exact I e A
  ·intro e A;rw[Array.toList_push]at A;rcases List.mem_append.1 A with A|A
   ·obtain⟨k,f1,l1,q,r,Y,s,t,v⟩:=p e A;have O:k≠i:=fun M=>I e A (by rw[Y,M])
    exact⟨k,f1,l1,q,r,Y,s,by rw[Asg.put_other F f O];exact t,v⟩
   ·rw[List.mem_singleton.1 A];exact⟨i,f,J,L,hi,rfl,rfl,Asg.put_self F i f,hR⟩
  ·intro k f1 Z;rw[Array.toList_push];by_cases C:k=i
   ·exact⟨_,List.mem_append_right _ (List.mem_singleton.2 rfl),by rw[C]⟩
   ·rw[Asg.put_other F f C]at Z;obtain⟨e,A,H⟩:=h4 k f1 Z;exact⟨e,List.mem_append_left _ A,H⟩
  ·rw[Array.toList_push,List.map_append,List.nodup_append];refine⟨h5,by simp,fun x hx y a=>?_⟩;rw[List.map_singleton,List.mem_singleton]at a;subst a;obtain⟨e,A,rfl⟩:=List.mem_map.1 hx;exact Nat.ne_of_lt (b e A)
  ·intro e A;rw[Array.toList_push]at A;rcases List.mem_append.1 A with A|A
   ·exact Nat.lt_succ_of_lt (b e A)
   ·rw[List.mem_singleton.1 A];exact Nat.lt_succ_self _
 ·have hj:G[j]? = some S:=by simpa using I
  have V:j<G.toList.length:=(List.getElem?_eq_some_iff.1 I).1;have B:(G.modify j (fun M=>{ M with key:=zL i,val:=.agg #[J,L] })).toList=G.toList.set j { S with key:=zL i,val:=.agg #[J,L] }:=by rw[Array.toList_modify,Go.ChangeMaps.modify_eq_set _ _ _ _ I]
  refine⟨.map (G.modify j (fun M=>{ M with key:=zL i,val:=.agg #[J,L] })) D,?_,_,_,heap_setBlock_same T _,?_,?_,?_,?_,?_⟩
  ·simp[Instr.mapUpdate,run_underlying Za0,MapKept.run_getObj_map T,K.check w false E,g1,hj,c,K.stays w E,MapKept.run_setObj_map _ T,Result.andThen,setBlock]
  ·rw[B,List.map_set];have:(G.toList.map (·.key)).set j (zL i)=G.toList.map (·.key):=by
    refine QcI ?_;rw[List.getElem?_map,I];show some S.key=_
    rw[c]
   rw[this];exact m
  ·intro e A;rw[B]at A;obtain⟨n,z,N⟩:=List.getElem_of_mem A;rw[List.getElem_set]at N;split at N
   ·subst N;exact⟨i,f,J,L,hi,rfl,rfl,Asg.put_self F i f,hR⟩
   ·rename_i O;have X:n<G.toList.length:=(by simpa using z);have g:e∈G.toList:=N▸List.getElem_mem X;obtain⟨k,f1,l1,q,r,Y,s,t,v⟩:=p e g;have C:k≠i:=fun M=>by
     refine qb0 m X V (Ne.symm O) ?_;rw[N,Y,M,(List.getElem?_eq_some_iff.1 I).2,c]
    exact⟨k,f1,l1,q,r,Y,s,by rw[Asg.put_other F f C];exact t,v⟩
  ·intro k f1 Z;rw[B];by_cases C:k=i
   ·exact⟨{ S with key:=zL i,val:=.agg #[J,L] },List.mem_iff_getElem.2 ⟨j,by simpa using V,by simp⟩,by rw[C]⟩
   ·rw[Asg.put_other F f C]at Z;obtain⟨e,A,H⟩:=h4 k f1 Z;obtain⟨n,z,N⟩:=List.getElem_of_mem A;have l:j≠n:=fun M=>by
     subst M;have:e=S:=(by rw[<-N];exact(List.getElem?_eq_some_iff.1 I).2);rw[this,c]at H;exact C (Zb0 H).symm
    exact⟨e,List.mem_iff_getElem.2 ⟨n,by simpa using z,by rw[List.getElem_set_ne l,N]⟩,H⟩
  ·rw[B,List.map_set];have:(G.toList.map (·.born)).set j S.born=G.toList.map (·.born):=QcI (by rw[List.getElem?_map,I];rfl);rw[this];exact h5
  ·intro e A;rw[B]at A;rcases List.mem_or_eq_of_mem_set A with A|rfl
   ·exact b e A
   ·exact b S (Xe I)
end Go.Proofs.YtlmfmioljeppfaaGreatDoor
namespace Go.Proofs.YtlmfmioljeppfaaGreatDoor
open Go.RowKit Go.Shelf Go.Lib
def Zbi(w:World)(fb:Bool)(cls:Str)(f1:Value)(e:Ending)(w':World):Prop :=
 Below w.heap.size w w'/\((fb=true/\∃p n c,e=.returned (.tuple #[.agg #[f1,.slice p n c],.bool true])/\Qh w' (.slice p n c) [Zd cls]/\∀g,(Value.slice p n c).ownBlock=some g->w.heap.size<=g/\g<w'.heap.size) \/
  (fb=false/\e=.returned (.tuple #[.agg #[.slice none 0 0,.slice none 0 0],.bool false])))
structure CX (w wx:World) (lo hi dest:Int) (cls:Str) (f1 f2 r1 r2:Value):Prop where
 below:Below w.heap.size w wx
 box:Blk wx w.heap.size 126 [.int .i64 lo,.int .i64 hi,.int .i64 dest,.string cls]
 frm:Blk wx (w.heap.size+1) 27 [f1,f2]
 res:Blk wx (w.heap.size+1+1) 27 [r1,r2]
variable {w wx wy:World} {lo hi dest:Int} {cls:Str} {f1 f2 r1 r2:Value}
theorem CX.step(h:CX w wx lo hi dest cls f1 f2 r1 r2)(A:Below wx.heap.size wx wy):CX w wy lo hi dest cls f1 f2 r1 r2:=⟨Qa h.below Xl A,h.box.step A,h.frm.step A,h.res.step A⟩
theorem CX.new(w:World)(lo hi dest:Int)(cls:Str)(f1 f2:Value):CX w (((w.alloc (.cells #[.int .i64 lo,.int .i64 hi,.int .i64 dest,.string cls] 126)).alloc (.cells #[f1,f2] 27)).alloc (.cells #[.slice none 0 0,.slice none 0 0] 27)) lo hi dest cls f1 f2 (.slice none 0 0) (.slice none 0 0):=by
 refine⟨((Xb.alloc Xl _).alloc (by simp) _).alloc (by simp;omega) _,?_,?_,?_⟩
 ·exact(Blk.new w 126 _).step ((Xb.alloc Xl _).alloc (by simp) _)
 ·have:=(Blk.new (w.alloc (.cells #[.int .i64 lo,.int .i64 hi,.int .i64 dest,.string cls] 126)) 27 [f1,f2]).step (Xb.alloc Xl (.cells #[.slice none 0 0,.slice none 0 0] 27));simpa using this
 ·have:=Blk.new ((w.alloc (.cells #[.int .i64 lo,.int .i64 hi,.int .i64 dest,.string cls] 126)).alloc (.cells #[f1,f2] 27)) 27 [.slice none 0 0,.slice none 0 0];simpa using this
theorem CX.cells(h:CX w wx lo hi dest cls f1 f2 r1 r2):wx.cell? ⟨w.heap.size,3,none⟩=some (.string cls)/\wx.cell? ⟨w.heap.size+1,0,none⟩=some f1/\wx.cell? ⟨w.heap.size+1+1,0,none⟩=some r1/\wx.cell? ⟨w.heap.size+1+1,1,none⟩=some r2/\wx.frozen? ⟨w.heap.size+1+1,0,none⟩=false/\wx.frozen? ⟨w.heap.size+1+1,1,none⟩=false:=⟨h.box.cell 3,h.frm.cell 0,h.res.cell 0,h.res.cell 1,h.res.frozen 0,h.res.frozen 1⟩
theorem CX.set(h:CX w wx lo hi dest cls f1 f2 r1 r2)(u v:Value):CX w ((wx.setCell ⟨w.heap.size+1+1,0,none⟩ u).setCell ⟨w.heap.size+1+1,1,none⟩ v) lo hi dest cls f1 f2 u v :=
 ⟨Q5 h.below (by omega) u v,(h.box.other (by omega) 0 u).other (by omega) 1 v,(h.frm.other (by omega) 0 u).other (by omega) 1 v,h.res.put2 u v⟩
theorem CX.put(h:CX w wx lo hi dest cls f1 f2 r1 r2)(u v:Value):Below w.heap.size w ((wx.setCell ⟨w.heap.size+1+1,0,none⟩ u).setCell ⟨w.heap.size+1+1,1,none⟩ v):=Q5 h.below (by omega) u v
theorem zcJ(l:List Qb):(Qc (Za l) zC).isSome=true:=rfl
theorem qdS{n:Nat}(h:n≠0):zE n=.iface 29 (.int .i64 (n:Int)):=by unfold zE;rw[if_neg h]
set_option maxRecDepth 100000
theorem ZcJ(w0 w:World)(B:Nat)(l:List Qb)(d:zy w0 w B l)(lo hi dest:Int)(cls:Str)(f1 f2:Value)(hf1:∃p n c,f1=.slice p n c)(hc:cls.size<=1048576):
 Calls Tryz.prog 149 #[.map (some B),.agg #[.int .i64 lo,.int .i64 hi,.int .i64 dest,.string cls],.agg #[f1,f2]] w (Zbi w (qaa (Za l) cls) cls f1):=by
 obtain⟨J,L,M,rfl⟩:=hf1;have o:(Zd cls).size<=maxLen:=by rw[Zam];exact Xf (Nat.add_le_add_right hc 2) (by decide)
 have P:zd (Za l) (Zd zC)=0:=qbi d.faults (x:=.ty (.cl zC)) ⟨(zbh _).symm,zcJ l⟩ (Nat.zero_le _);have I:Hid (∀wx,_):=fun wx=>QX cls wx (Xf hc (by decide))
 have q:Hid (∀wx,Calls Tryz.prog 142 #[.string ⟨#[70,97,117,108,116]⟩] wx fun e w'=>e=.returned (.string (Zd zC))/\wx=w'):=fun wx=>QX zC wx (by decide)
 have D:Hid (∀wx,Below w.heap.size w wx->_):=fun wx hb=>Qbn w0 wx B (Za l) (d.map.step hb) d.right.nodup (Zd cls) o
 have r:=CX.new w lo hi dest cls (.slice J L M) f2;obtain⟨w1,N⟩:∃w1,w1=((w.alloc (.cells #[.int .i64 lo,.int .i64 hi,.int .i64 dest,.string cls] 126)).alloc (.cells #[.slice J L M,f2] 27)).alloc (.cells #[.slice none 0 0,.slice none 0 0] 27):=⟨_,rfl⟩;rw[<-N]at r;have HW:=Xh N.symm;have f:=Xh r;obtain⟨c3,g0,r0,r1,z0,z1⟩:=r.cells;by_cases h:zd (Za l) (Zd cls)=0
 ·have s:Hid (∀wx,Below w.heap.size w wx->_):=fun wx hb=>qcJ w0 wx B l (d.step hb) (Zd cls) (Zd zC) _ _ (qU h) (qU P) o (by decide)
  have E:qaa (Za l) cls=Zx (Za l) (Zo (Zd cls)) (Zo (Zd zC)):=by unfold qaa;rw[h];rfl
  rw[h,show zE 0=.nilIface from rfl]at D;rw[E];clear E h P d N r;generalize Zx (Za l) (Zo (Zd cls)) (Zo (Zd zC))=fb at *;cases fb with
  |false =>
   go_enter Tryz.func149,Tryz.ntmps149;go_upto_region 1 with fail;rw[HW.out];go_wp2_with (first
    |(go_fit (I.out _);rintro e w2⟨rfl,rfl⟩)
    |(go_fit (q.out _);rintro e w2⟨rfl,rfl⟩)
    |(go_fit (D.out _ f.out.below);rintro e w3⟨rfl,F⟩;(have H:=f.out.step F);obtain⟨U,V,X,Y,Z,a⟩:=H.cells)
    |(go_fit (s.out _ H.below);rintro e A⟨rfl,b⟩;(have R:=H.step b);obtain⟨U,V,X,Y,Z,a⟩:=R.cells;(have t:=Xh R)))
   exact bodyPost_ret (v:=.tuple #[.agg #[.slice none 0 0,.slice none 0 0],.bool false]) (by simp[results,Tryz.results149,go_sem, *]) rfl ⟨t.out.put _ _,Or.inr ⟨rfl,rfl⟩⟩
  |true =>
   go_enter Tryz.func149,Tryz.ntmps149;go_upto_region 1 with fail;rw[HW.out];go_upto_region 3 with(first
    |(go_fit (I.out _);rintro e w2⟨rfl,rfl⟩)
    |(go_fit (q.out _);rintro e w2⟨rfl,rfl⟩)
    |(go_fit (D.out _ f.out.below);rintro e w3⟨rfl,F⟩;(have H:=f.out.step F);obtain⟨U,V,X,Y,Z,a⟩:=H.cells)
    |(go_fit (s.out _ H.below);rintro e A⟨rfl,b⟩;(have R:=H.step b);(have t:=Xh R)))
   have T5:=Xh (R.step Xb.drew);obtain⟨d3,d0,e0,e1,x0,x1⟩:=R.cells;refine wp_region_held_drew (S:=fun w'=>w'.cell? ⟨w.heap.size+1,0,none⟩=some (.slice J L M)/\w'.cell? ⟨w.heap.size,3,none⟩=some (.string cls)) (by kernel_rfl) ⟨d0,d3⟩ (fun hHeld=>?_);change wpAnyH _ _ _ _ _ 9 _ _ _;iterate 4 ((first|(refine tkN rfl rfl hHeld ?_)|(refine tkY (v:=?_) rfl rfl hHeld ?_ ?_;rotate_left;focus (intro w G;(obtain⟨s0,s1⟩:=G);go_simp;all_goals with_reducible rfl)));try simp only[Act.put,Xa,Xc,Xd])
   refine wpAnyH_ready (rs:=[4]) (fuel:=4) (by kernel_rfl) (by simp) ?_;refine AllReadyH.cons (i:=4) rfl (fun K O=>?_) AllReadyH.nil;go_simp;refine(I.out _).mono ?_;rintro e w6⟨rfl,rfl⟩;refine O.out _ _ hHeld (fun hHeld=>?_);clear O K;(try simp only[Act.put]);(try simp only[Xa]);(try simp only[Xd]);(try simp only[Xc])
   have j:=T5.out.step (Xb.alloc Xl (.cells #[.string (Zd cls)] 9));have C:=Qs A.drew (Zd cls);refine wpAnyH_ready (rs:=[5]) (fuel:=3) (by kernel_rfl) (by simp) ?_;refine AllReadyH.cons (i:=5) rfl (fun K O=>?_) AllReadyH.nil;go_simp;refine O.out _ _ ⟨j.frm.cell 0,j.box.cell 3⟩ (fun hHeld=>?_);clear O K;(try simp only[Act.put]);(try simp only[Xa]);(try simp only[Xd]);(try simp only[Xc])
   change wpAnyH _ _ _ _ _ 3 _ _ _;iterate 1 ((first|(refine tkN rfl rfl hHeld ?_)|(refine tkY (v:=?_) rfl rfl hHeld ?_ ?_;rotate_left;focus (intro w G;(obtain⟨s0,s1⟩:=G);go_simp;all_goals with_reducible rfl)));(try simp only[Act.put]);(try simp only[Xa]);(try simp only[Xd]);(try simp only[Xc]))
   have y:A.heap.size<((A.alloc (.cells #[.string (Zd cls)] 9)).drew).heap.size:=(by simp);have z:w.heap.size<=A.heap.size:=R.below.size;replace j:CX w ((A.alloc (.cells #[.string (Zd cls)] 9)).drew) lo hi dest cls (.slice J L M) f2 (.slice none 0 0) (.slice none 0 0):=j;replace C:Qh ((A.alloc (.cells #[.string (Zd cls)] 9)).drew) (.slice (some ⟨A.heap.size,0,none⟩) 1 1) [Zd cls]:=C;have T:=Xh j;have HO6:=Xh C;try rw[show(A.drew.alloc (.cells #[.string (Zd cls)] 9))=(A.alloc (.cells #[.string (Zd cls)] 9)).drew from rfl]
   clear j C hHeld d3 d0 e0 e1 x0 x1 T5;generalize (A.alloc (.cells #[.string (Zd cls)] 9)).drew=w6 at *;obtain⟨_,_,y0,y1,v0,v1⟩:=T.out.cells;refine wpAnyH_ready (rs:=[7]) (fuel:=1) (by kernel_rfl) (by simp) ?_;refine AllReadyH.cons (i:=7) rfl (fun K O=>?_) AllReadyH.nil;go_simp;have k:=T.out.set (.slice J L M) (.slice (some ⟨A.heap.size,0,none⟩) 1 1);refine O.out _ _ ⟨k.frm.cell 0,k.box.cell 3⟩ (fun hHeld=>?_);clear O K;(try simp only[Act.put]);(try simp only[Xa]);(try simp only[Xd]);(try simp only[Xc])
   change wpAnyH _ _ _ _ _ 1 _ _ _;iterate 1 ((first|(refine tkN rfl rfl hHeld ?_)|(refine tkY (v:=?_) rfl rfl hHeld ?_ ?_;rotate_left;focus (intro w G;(obtain⟨s0,s1⟩:=G);go_simp;all_goals with_reducible rfl)));(try simp only[Act.put]);(try simp only[Xa]);(try simp only[Xd]);(try simp only[Xc]))
   refine wpAnyH_done (by kernel_rfl) ?_ _;have HT7:=Xh k;have aA:=(HO6.out).apart T.out.res (by simp) (by simp) (w':=(w6.setCell ⟨w.heap.size+1+1,0,none⟩ (.slice J L M)).setCell ⟨w.heap.size+1+1,1,none⟩ (.slice (some ⟨A.heap.size,0,none⟩) 1 1)) fun g m=>(Xk _ _ _ _ m).trans (Xk _ _ _ _ m)
   have HOb:=Xh aA;have HSz:Hid (w.heap.size<=A.heap.size/\A.heap.size<((w6.setCell ⟨w.heap.size+1+1,0,none⟩ (.slice J L M)).setCell ⟨w.heap.size+1+1,1,none⟩ (.slice (some ⟨A.heap.size,0,none⟩) 1 1)).heap.size):=⟨z,by simpa using y⟩;have k0:=k.res.cell 0;have k1:=k.res.cell 1;clear hHeld k aA y0 y1 v0 v1 y z;generalize (w6.setCell ⟨w.heap.size+1+1,0,none⟩ (.slice J L M)).setCell ⟨w.heap.size+1+1,1,none⟩ (.slice (some ⟨A.heap.size,0,none⟩) 1 1)=w7 at *;go_wp2_with fail;exact bodyPost_ret (v:=.tuple #[.agg #[.slice J L M,.slice (some ⟨A.heap.size,0,none⟩) 1 1],.bool true]) (by simp[results,Tryz.results149,go_sem, *]) rfl ⟨HT7.out.below,Or.inl ⟨rfl,_,_,_,rfl,HOb,fun g m=>by injection m with m;subst m;exact HSz.out⟩⟩
 ·have E:qaa (Za l) cls=false:=by unfold qaa;rw[beq_eq_false_iff_ne.2 h];rfl
  rw[qdS h]at D;rw[E];clear E P d N r;go_enter Tryz.func149,Tryz.ntmps149;go_upto_region 1 with fail;rw[HW.out];go_wp2_with (first
   |(go_fit (I.out _);rintro e w2⟨rfl,rfl⟩)
   |(go_fit (D.out _ f.out.below);rintro e w3⟨rfl,F⟩;(have H:=f.out.step F);obtain⟨U,V,X,Y,Z,a⟩:=H.cells;(have HT3:=Xh H)))
  exact bodyPost_ret (v:=.tuple #[.agg #[.slice none 0 0,.slice none 0 0],.bool false]) (by simp[results,Tryz.results149,go_sem, *]) rfl ⟨HT3.out.put _ _,Or.inr ⟨rfl,rfl⟩⟩
set_option maxRecDepth 512
def QaI:Str:=⟨#[84]⟩
def Qak(cls:Str)(static:Bool):List Str:=if static then [] else [Zd cls]
def QP(cls:Str)(static:Bool)(args:List Str)(many:Nat):List Str:=Qak cls static++args++List.replicate (many-(Qak cls static++args).length) QaI
def ZaK(w:World)(L:List Str)(g:Str)(e:Ending)(w':World):Prop :=
 Below w.heap.size w w'/\∃p n c,e=.returned (.tuple #[.agg #[.slice p n c,.slice none 0 0],.string g])/\Qh w' (.slice p n c) L/\∀b,(Value.slice p n c).ownBlock=some b->w.heap.size<=b/\b<w'.heap.size
structure FX (w wx:World) (mv:List Value) (fb:Nat) (r1 r2 l1 l2:Value):Prop where
 below:Below w.heap.size w wx
 box:Blk wx w.heap.size 53 mv
 res:Blk wx (w.heap.size+1) 27 [r1,r2]
 frm:Blk wx fb 27 [l1,l2]
 gt:w.heap.size+1<fb
variable {w wx wy:World} {mv:List Value} {fb:Nat} {r1 r2 l1 l2:Value}
theorem FX.step(h:FX w wx mv fb r1 r2 l1 l2)(A:Below wx.heap.size wx wy):FX w wy mv fb r1 r2 l1 l2:=⟨Qa h.below Xl A,h.box.step A,h.res.step A,h.frm.step A,h.gt⟩
theorem FX.grown{r:Option Nat}(h:FX w wx mv fb r1 r2 l1 l2)(A:wx.grownBy wy r)(B:∀g,r=some g->fb<g):FX w wy mv fb r1 r2 l1 l2:=by
 have C:=h.gt;exact⟨h.below.grown A h.below.size (fun g e=>by have:=B g e;omega),h.box.grown A (fun e=>by have:=B _ e;omega),h.res.grown A (fun e=>by have:=B _ e;omega),h.frm.grown A (fun e=>by have:=B _ e;omega),C⟩
theorem FX.lset(h:FX w wx mv fb r1 r2 l1 l2)(v:Value):FX w (wx.setCell ⟨fb,0,none⟩ v) mv fb r1 r2 v l2:=by
 have A:=h.gt;exact⟨h.below.setCell (by show w.heap.size<=fb;omega) _,h.box.other (by omega) 0 v,h.res.other (by omega) 0 v,h.frm.put 0 v,A⟩
theorem zc6{w:World}{b:Nat}{t:TypeId}{x y v:Value}{l:List Str}(h:Qh w v l)(A:Blk w b t [x,y])(u:Value)(B:∀s,x≠.string s:=by simp)(C:∀s,y≠.string s:=by simp):Qh (w.setCell ⟨b,0,none⟩ u) v l:=h.apart A B C fun _ D=>Xk _ _ _ _ D
def QdS(w:World)(fb:Nat):Nat:=match w.cell? ⟨fb,0,none⟩ with
 |some (.slice _ n _)=>n
 |_=>0
theorem QcJ{p:Option Addr}{n c:Nat}(h:wx.cell? ⟨fb,0,none⟩=some (.slice p n c)):QdS wx fb=n:=by unfold QdS;rw[h]
set_option maxRecDepth 100000
theorem zaY(w:World)(cls C B:Str)(static H D:Bool)(A:Nat)(pc ph:Option Addr)(nc cc nh ch:Nat)(args:List Str)(g:Str)(hm:Zm B=some (args,g))(hty:B.size<=1048576)(hc:cls.size<=1048576)(hn:A<=8)(ha:args.length<=5):
 Calls Tryz.prog 106 #[.string cls,.agg #[.string C,.string B,.bool static,.bool H,.bool D,.int .i64 (A:Int),.slice pc nc cc,.slice ph nh ch]] w (ZaK w (QP cls static args A) g):=by
 have HTh:Hid (∀wx,_):=fun wx=>QX cls wx (Xf hc (by decide))
 have HD:Hid (∀wx,_):=fun wx=>zaZ B wx hty
 rw[hm]at HD;unfold ZaR at HD;dsimp only at HD;obtain⟨mv,Y⟩:∃mv,mv=[Value.string C,.string B,.bool static,.bool H,.bool D,.int .i64 (A:Int),.slice pc nc cc,.slice ph nh ch]:=⟨_,rfl⟩;have d:=Blk.new w 53 [.string C,.string B,.bool static,.bool H,.bool D,.int .i64 (A:Int),.slice pc nc cc,.slice ph nh ch];have K1:=Blk.new (w.alloc (.cells #[.string C,.string B,.bool static,.bool H,.bool D,.int .i64 (A:Int),.slice pc nc cc,.slice ph nh ch] 53)) 27 [.slice none 0 0,.slice none 0 0];have B1:Below w.heap.size w ((w.alloc (.cells #[.string C,.string B,.bool static,.bool H,.bool D,.int .i64 (A:Int),.slice pc nc cc,.slice ph nh ch] 53)).alloc (.cells #[.slice none 0 0,.slice none 0 0] 27)):=(Xb.alloc Xl _).alloc (by simp) _;replace d:=d.step (Xb.alloc Xl (.cells #[.slice none 0 0,.slice none 0 0] 27));rw[World.size_alloc]at K1;obtain⟨w1,y⟩:∃w1,w1=(w.alloc (.cells #[.string C,.string B,.bool static,.bool H,.bool D,.int .i64 (A:Int),.slice pc nc cc,.slice ph nh ch] 53)).alloc (.cells #[.slice none 0 0,.slice none 0 0] 27):=⟨_,rfl⟩;rw[<-y]at d K1 B1;rw[<-Y]at d;have HW:=Xh y.symm;have i:=Xh Y;clear y;have q1:w1.cell? ⟨w.heap.size,1,none⟩=some (.string B):=by rw[Y]at d;exact d.cell 1
 clear Y;go_enter Tryz.func106,Tryz.ntmps106;go_upto_region 1 with fail;rw[HW.out];go_upto_region 5 with(first|(go_fit (HD.out _);rintro e U⟨S,v3,rfl,T⟩))
 have K03:=d.step S;have K13:=K1.step S;have hgt:w.heap.size+1<U.heap.size:=Nat.lt_of_lt_of_le K1.lt S.size;have J:FX w (U.alloc (.cells #[.slice none 0 0,.slice none 0 0] 27)) mv U.heap.size (.slice none 0 0) (.slice none 0 0) (.slice none 0 0) (.slice none 0 0) :=
  ⟨(Qa B1 Xl S).alloc (by omega) _,K03.step (Xb.alloc Xl _),K13.step (Xb.alloc Xl _),Blk.new U 27 [.slice none 0 0,.slice none 0 0],hgt⟩
 have hA4:=(Ze T).mono ((Below.refl U.heap.size U).alloc Xl (.cells #[.slice none 0 0,.slice none 0 0] 27));generalize hW4:U.alloc (.cells #[.slice none 0 0,.slice none 0 0] 27)=N at *;have O:U.heap.size+1<=N.heap.size:=J.frm.lt;generalize U.heap.size=fb at *;have j:=Xh hA4;have V:=Xh J;clear T hA4 d K1 K03 K13 B1 q1 S hW4 HW;cases static;case' true =>
  have q2:N.cell? ⟨w.heap.size,2,none⟩=some (.bool true):=by have:=J.box.cell 2;rwa [i.out]at this
  have f0:=J.frm.cell 0;have E:N.ownsRow (fb+1) 9 1 (.slice none 0 0) 0 []:=⟨rfl,Or.inl ⟨rfl,rfl⟩⟩;have k:0+args.length<=maxLen:=Xf (show 0+args.length<=8 by omega) (by decide);have l:(0+args.length)*16<=140737488355328:=by omega
  have m:=j.out;have z0:=J.frm.frozen 0;clear J;go_upto_region 8 with(first
   |(at_builtin;go_must (refine Qg rfl _ _ rfl (fb+1) _ 0 [] rfl E _ args rfl m k l O ?_);intro v6 w6 I a _;obtain⟨f,h,rfl⟩:=qe I;(have o:=V.out.grown a (fun g e=>by cases e));(have k6:=o.frm.cell 0);(have z6:=o.frm.frozen 0)))
  obtain⟨L,Z⟩:∃L,Qak cls true++args=L:=⟨_,rfl⟩;have P:(w6.setCell ⟨fb,0,none⟩ (.slice f L.length h)).ownsRow (fb+1) 9 1 (.slice f L.length h) L.length (L.map Value.string):=by
   rw[<-Z];simp only[Qak,if_true,List.length_append,List.length_nil,List.map_append,List.map_nil];exact qG I (Nat.lt_succ_self _) 0 _
  have q:0+args.length=L.length:=by rw[<-Z];simp[Qak];try omega
  have hn7:args.length=L.length:=by omega
  rw[q]at *;rw[hn7];have T8:=o.lset (.slice f L.length h);have R:QP cls true args A=L++List.replicate (A-L.length) QaI:=by unfold QP;rw[Z]
  rw[R];have r:L.length<=8:=by rw[<-Z];simp[Qak];omega
 case' false =>
  have q2:N.cell? ⟨w.heap.size,2,none⟩=some (.bool false):=by have:=J.box.cell 2;rwa [i.out]at this
  have f0:=J.frm.cell 0;have z0:=J.frm.frozen 0;have f0':=(J.step (Xb.alloc Xl (.cells #[.string (Zd cls)] 9))).frm.cell 0;have z0':=(J.step (Xb.alloc Xl (.cells #[.string (Zd cls)] 9))).frm.frozen 0;clear J;go_upto_region 7 with(first|(go_fit (HTh.out _);rintro e w5⟨rfl,rfl⟩))
  have T5:=Xh ((V.out.step (Xb.alloc Xl (.cells #[.string (Zd cls)] 9))).lset (.slice (some ⟨N.heap.size,0,none⟩) 1 1));have E:=qG (ZZ N (fb+1) (.string (Zd cls)) O) (Nat.lt_succ_self fb) 0 (.slice (some ⟨N.heap.size,0,none⟩) 1 1);have m:=zc6 (j.out.mono (Xb.alloc Xl (.cells #[.string (Zd cls)] 9))) (V.out.step (Xb.alloc Xl (.cells #[.string (Zd cls)] 9))).frm (.slice (some ⟨N.heap.size,0,none⟩) 1 1);have hfb5:fb+1<=((N.alloc (.cells #[.string (Zd cls)] 9)).setCell ⟨fb,0,none⟩ (.slice (some ⟨N.heap.size,0,none⟩) 1 1)).heap.size:=T5.out.frm.lt;have k:1+args.length<=maxLen:=Xf (show 1+args.length<=8 by omega) (by decide);have l:(1+args.length)*16<=140737488355328:=by omega
  clear f0 z0 f0' z0' q2;generalize (N.alloc (.cells #[.string (Zd cls)] 9)).setCell ⟨fb,0,none⟩ (.slice (some ⟨N.heap.size,0,none⟩) 1 1)=w5 at *;have f0:=T5.out.frm.cell 0;go_upto_region 8 with(first
   |(at_builtin;go_must (refine Qg rfl _ _ rfl (fb+1) _ 1 [.string (Zd cls)] rfl E _ args rfl m k l hfb5 ?_);intro v6 w6 I a _;obtain⟨f,h,rfl⟩:=qe I;(have o:=T5.out.grown a (fun g e=>(E.lt g e).1));(have k6:=o.frm.cell 0);(have z6:=o.frm.frozen 0)))
  obtain⟨L,Z⟩:∃L,Qak cls false++args=L:=⟨_,rfl⟩;have P:(w6.setCell ⟨fb,0,none⟩ (.slice f L.length h)).ownsRow (fb+1) 9 1 (.slice f L.length h) L.length (L.map Value.string):=by
   rw[<-Z];simp only[Qak,Bool.false_eq_true,if_false,List.length_append,List.length_singleton,List.map_append,List.map_nil,List.map_cons];exact qG I (Nat.lt_succ_self _) 0 _
  have q:1+args.length=L.length:=by rw[<-Z];simp[Qak];try omega
  rw[q]at *;have T8:=o.lset (.slice f L.length h);have R:QP cls false args A=L++List.replicate (A-L.length) QaI:=by unfold QP;rw[Z]
  rw[R];have r:L.length<=8:=by rw[<-Z];simp[Qak];omega
 all_goals
  generalize hW8:w6.setCell ⟨fb,0,none⟩ (.slice f L.length h)=w8 at *;have HfL:=Xh R;clear hW8 I a z6 E R;have HO8:=Xh P;have HT8:=Xh T8;have Hfb8:=Xh T8.frm.lt;have HL8:=Xh r;have F:=Xh T8.gt;clear P T8 V j O r hgt;go_loopw [] (fun wr=>∃(p:Option Addr) (n c:Nat) (M:List Str),Hid (FX w wr mv fb (.slice none 0 0) (.slice none 0 0) (.slice p n c) (.slice none 0 0))/\Hid (wr.ownsRow (fb+1) 9 1 (.slice p n c) n (M.map Value.string))/\Hid (M.length=n)/\Hid (M++List.replicate (A-n) QaI=L++List.replicate (A-L.length) QaI)/\Hid (n<=8)) (fun wr=>A-QdS wr fb)
  case atStart=>exact⟨_,_,_,L,HT8,HO8,rfl,rfl,HL8⟩
  case round =>
   clear HT8 HO8;obtain⟨p,n,c,M,G,hO,z,hM,hn8⟩:=hrel;have c0:=G.out.frm.cell 0;have z0:=G.out.frm.frozen 0;have c5:=G.out.box.cell 5;rw[i.out]at c5;replace c5:=show _=some (Value.int .i64 (A:Int)) from c5
   by_cases hlt:n<A
   ·have hltI:(n:Int)<(A:Int):=(by omega);have c0':=(G.out.step (Xb.alloc Xl (.cells #[.string QaI] 9))).frm.cell 0;have z0':=(G.out.step (Xb.alloc Xl (.cells #[.string QaI] 9))).frm.frozen 0;go_wp2_with (at_builtin;go_must (refine Qg rfl _ _ rfl (fb+1) _ n (M.map Value.string) rfl (Zr hO.out (Xb.alloc Xl (.cells #[.string QaI] 9))) _ [QaI] rfl (Qs _ _) (Xf (show n+1<=9 by have:=hn8.out;omega) (by decide)) (by have:=hn8.out;simp;omega) (by simp;have:=Hfb8.out;have:=G.out.frm.lt;omega) ?_);intro v' U T hg3 _;obtain⟨a3,c3,rfl⟩:=qe T;(have T3:=(G.out.step (Xb.alloc Xl (.cells #[.string QaI] 9))).grown hg3 (fun g e=>(World.ownsRow.lt hO.out g e).1));(have k3:=T3.frm.cell 0);(have z3:=T3.frm.frozen 0))
    go_roundw;case rel =>
     refine⟨a3,n+1,c3,M++[QaI],T3.lset _,?_,?_,?_,?_⟩
     ·have:=qG T (Nat.lt_succ_self fb) 0 (.slice a3 (n+1) c3);unfold Hid;rw[List.map_append];exact this
     ·unfold Hid;rw[List.length_append,z.out];rfl
     ·rw[<-hM.out];unfold Hid;rw[show A-n=(A-(n+1))+1 by omega,List.replicate_succ,List.append_assoc];rfl
     ·unfold Hid;omega
    case measure =>
     rw[QcJ c0,QcJ (T3.lset (.slice a3 (n+1) c3) |>.frm.cell 0)];omega
   ·have hltI:¬(n:Int)<(A:Int):=(by omega);have c1:=G.out.frm.cell 1;have z1:=G.out.frm.frozen 1;have d0:=G.out.res.cell 0;have d1:=G.out.res.cell 1;have e0:=G.out.res.frozen 0;have e1:=G.out.res.frozen 1;go_wp2_with fail;have hmn:A-n=0:=(by omega);have s:=hM.out;rw[hmn]at s;rw[List.replicate_zero,List.append_nil]at s;have X:=s.trans HfL.out.symm;have t:=qG (qG hO.out (Nat.lt_trans F.out (Nat.lt_succ_self fb)) 0 (.slice p n c)) (Nat.lt_trans F.out (Nat.lt_succ_self fb)) 1 (.slice none 0 0);rw[X]at t;have hB2:Below w.heap.size w ((wr.setCell ⟨w.heap.size+1,0,none⟩ (.slice p n c)).setCell ⟨w.heap.size+1,1,none⟩ (.slice none 0 0)):=((G.out.below).setCell (show w.heap.size<=w.heap.size+1 by omega) _).setCell (show w.heap.size<=w.heap.size+1 by omega) _;have R2:=(G.out.res.put 0 (.slice p n c)).put 1 (.slice none 0 0);have rr0:((wr.setCell ⟨w.heap.size+1,0,none⟩ (.slice p n c)).setCell ⟨w.heap.size+1,1,none⟩ (.slice none 0 0)).cell? ⟨w.heap.size+1,0,none⟩=some (.slice p n c):=R2.cell 0;have rr1:((wr.setCell ⟨w.heap.size+1,0,none⟩ (.slice p n c)).setCell ⟨w.heap.size+1,1,none⟩ (.slice none 0 0)).cell? ⟨w.heap.size+1,1,none⟩=some (.slice none 0 0):=R2.cell 1;have hO3:=t;rw[<-z.out,X]at hO3;have hS2:=Ze hO3;rw[<-X,z,X]at hS2;have x:∀b,(Value.slice p n c).ownBlock=some b->w.heap.size<=b/\b<((wr.setCell ⟨w.heap.size+1,0,none⟩ (.slice p n c)).setCell ⟨w.heap.size+1,1,none⟩ (.slice none 0 0)).heap.size:=fun b hb=>by
     have h2:=World.ownsRow.lt t b hb;have:=F.out;exact⟨by omega,h2.2⟩
    exact bodyPost_ret (v:=.tuple #[.agg #[.slice p n c,.slice none 0 0],.string g]) (by simp[results,Tryz.results106,go_sem, *]) rfl ⟨hB2,p,n,c,rfl,hS2,x⟩
set_option maxRecDepth 512
theorem QaR(w:World)(x:Nat)(t:TypeId):(w.alloc (.cells #[.int .i64 (x:Int)] t)).cell? ((⟨w.heap.size,0,none⟩:Addr).add 0)=some (zL x):=by
 rw[zbq rfl,cell_of_row _ _ _ #[.int .i64 (x:Int)] t (0,0) (heap_alloc_new _ _)];rfl
set_option maxRecDepth 100000
theorem zcg(A:List Ins)(l:Value)(w:World)(h:Zg w 6 Zw l A)(i:Nat)(x:Ins)(m:A[i]? = some x)(hi:i<=64)(p:zu x.op=true->0<=x.a):
 Calls Tryz.prog 150 #[l,.int .i64 (i:Int)] w fun e w'=>∃v,e=.returned v/\Below w.heap.size w w'/\Que w' w.heap.size v (qax x i):=by
 obtain⟨Z,rfl⟩:=List.getElem?_eq_some_iff.1 m;obtain⟨b,o,cap,vs,rfl,c,_,d⟩:=h.at Z;unfold Zw at c;have q:qax A[i] i=(if Zad A[i].op then [] else [i+1])++(if zu A[i].op&&(A[i].op==14||A[i].a != (i:Int)+1) then [A[i].a.toNat] else []):=rfl;rw[q];have T:Hid (∀wx,_):=fun wx=>zbU A[i].op wx
 have S:Hid (∀wx,_):=fun wx=>qaz A[i].op wx
 have aA:(i:Int)<(A.length:Int):=by omega
 obtain⟨c0,c1,c2,c3,c4,c5,_⟩:=(by rw[c]at d;exact d:QG w b (o+i*6) [.int .i64 A[i].op,.int .i64 A[i].a,.int .i64 A[i].b,.string A[i].type,.string A[i].cls,.string A[i].name]);clear q c d h m;generalize A[i]=y at *;obtain⟨G,a,O,B,cls,C⟩:=y;dsimp only at *;have r:(i:Int)+1<=100:=by omega
 cases t:Zad G with
 |true =>
  rw[t]at T;go_enter Tryz.func150,Tryz.ntmps150;cases U:zu G with
  |false =>
   rw[U]at S;have I:Below w.heap.size w (w.alloc (.cells #[.int .i64 G,.int .i64 a,.int .i64 O,.string B,.string cls,.string C] 24)):=Xb.alloc Xl _;have J:=Que.empty (w.alloc (.cells #[.int .i64 G,.int .i64 a,.int .i64 O,.string B,.string cls,.string C] 24)) w.heap.size;go_wp2_with (first
    |(go_fit (T.out _);rintro e H⟨rfl,rfl⟩)
    |(go_fit (S.out _);rintro e H⟨rfl,rfl⟩))
   go_ret;exact⟨_,rfl,I,J⟩
  |true =>
   rw[U]at S;obtain⟨n,rfl⟩:=Int.eq_ofNat_of_zero_le (p U);cases Y:(G==14) with
   |true =>
    have L:=Que.empty ((w.alloc (.cells #[.int .i64 G,.int .i64 (n:Int),.int .i64 O,.string B,.string cls,.string C] 24)).alloc (.cells #[.int .i64 (n:Int)] 3)) w.heap.size;have F:Below w.heap.size w ((w.alloc (.cells #[.int .i64 G,.int .i64 (n:Int),.int .i64 O,.string B,.string cls,.string C] 24)).alloc (.cells #[.int .i64 (n:Int)] 3)):=(Xb.alloc Xl _).alloc (by simp) _;have D:=QaR (w.alloc (.cells #[.int .i64 G,.int .i64 (n:Int),.int .i64 O,.string B,.string cls,.string C] 24)) n 3;rw[World.size_alloc]at D;have E:=F.size;go_wp2_with (first
     |(go_fit (T.out _);rintro e H⟨rfl,rfl⟩)
     |(go_fit (S.out _);rintro e H⟨rfl,rfl⟩)
     |(at_builtin;go_must (refine qC rfl _ _ rfl w.heap.size _ [] rfl L E n _ 1 rfl D (by simp[maxLen]) (by simp) ?_);intro f j M N _))
    go_ret;exact⟨_,rfl,F.grown N F.size (fun g e=>(L.lt g e).1),M⟩
   |false =>
    cases hn:((n:Int) != (i:Int)+1) with
    |true =>
     have L:=Que.empty ((w.alloc (.cells #[.int .i64 G,.int .i64 (n:Int),.int .i64 O,.string B,.string cls,.string C] 24)).alloc (.cells #[.int .i64 (n:Int)] 3)) w.heap.size;have F:Below w.heap.size w ((w.alloc (.cells #[.int .i64 G,.int .i64 (n:Int),.int .i64 O,.string B,.string cls,.string C] 24)).alloc (.cells #[.int .i64 (n:Int)] 3)):=(Xb.alloc Xl _).alloc (by simp) _;have D:=QaR (w.alloc (.cells #[.int .i64 G,.int .i64 (n:Int),.int .i64 O,.string B,.string cls,.string C] 24)) n 3;rw[World.size_alloc]at D;have E:=F.size;go_wp2_with (first
      |(go_fit (T.out _);rintro e H⟨rfl,rfl⟩)
      |(go_fit (S.out _);rintro e H⟨rfl,rfl⟩)
      |(at_builtin;go_must (refine qC rfl _ _ rfl w.heap.size _ [] rfl L E n _ 1 rfl D (by simp[maxLen]) (by simp) ?_);intro f j M N _))
     go_ret;exact⟨_,rfl,F.grown N F.size (fun g e=>(L.lt g e).1),M⟩
    |false =>
     have I:Below w.heap.size w (w.alloc (.cells #[.int .i64 G,.int .i64 (n:Int),.int .i64 O,.string B,.string cls,.string C] 24)):=Xb.alloc Xl _;have J:=Que.empty (w.alloc (.cells #[.int .i64 G,.int .i64 (n:Int),.int .i64 O,.string B,.string cls,.string C] 24)) w.heap.size;go_wp2_with (first
      |(go_fit (T.out _);rintro e H⟨rfl,rfl⟩)
      |(go_fit (S.out _);rintro e H⟨rfl,rfl⟩))
     go_ret;exact⟨_,rfl,I,J⟩
 |false =>
  rw[t]at T;have L:=Que.empty ((w.alloc (.cells #[.int .i64 G,.int .i64 a,.int .i64 O,.string B,.string cls,.string C] 24)).alloc (.cells #[.int .i64 ((i:Int)+1)] 3)) w.heap.size;have F:Below w.heap.size w ((w.alloc (.cells #[.int .i64 G,.int .i64 a,.int .i64 O,.string B,.string cls,.string C] 24)).alloc (.cells #[.int .i64 ((i:Int)+1)] 3)):=(Xb.alloc Xl _).alloc (by simp) _;have E:=F.size;have D:=QaR (w.alloc (.cells #[.int .i64 G,.int .i64 a,.int .i64 O,.string B,.string cls,.string C] 24)) (i+1) 3;rw[World.size_alloc,show(((i+1:Nat)):Int)=(i:Int)+1 from rfl]at D;have K:=(Blk.new w 24 [.int .i64 G,.int .i64 a,.int .i64 O,.string B,.string cls,.string C]).step (Xb.alloc Xl (.cells #[.int .i64 ((i:Int)+1)] 3));go_enter Tryz.func150,Tryz.ntmps150;go_upto_region 5 with(first
   |(go_fit (T.out _);rintro e H⟨rfl,rfl⟩)
   |(at_builtin;go_must (refine qC rfl _ _ rfl w.heap.size _ [] rfl L E (i+1) _ 1 rfl D (by decide) (by decide) ?_);intro z X R V _))
  have P:=F.grown V F.size (fun g e=>(L.lt g e).1);have s:=K.grown V (fun e=>by cases e);obtain⟨k0,k1,_,_,_,_⟩:=s.cells6;clear L F E K s V D;cases U:zu G with
  |false =>
   rw[U]at S;have I:=P;have J:=R;go_wp2_with (first
    |(go_fit (T.out _);rintro e H⟨rfl,rfl⟩)
    |(go_fit (S.out _);rintro e H⟨rfl,rfl⟩))
   go_ret;exact⟨_,rfl,I,J⟩
  |true =>
   rw[U]at S;obtain⟨n,rfl⟩:=Int.eq_ofNat_of_zero_le (p U);cases Y:(G==14) with
   |true =>
    have L:Que (X.alloc (.cells #[.int .i64 (n:Int)] 3)) w.heap.size z [i+1]:=R.keep (fun g k=>heap_alloc_old _ _ (R.lt g k).2);have F:Below w.heap.size w (X.alloc (.cells #[.int .i64 (n:Int)] 3)):=P.alloc P.size _;have D:=QaR X n 3;have E:=F.size;go_wp2_with (first
     |(go_fit (T.out _);rintro e H⟨rfl,rfl⟩)
     |(go_fit (S.out _);rintro e H⟨rfl,rfl⟩)
     |(at_builtin;go_must (refine qC rfl _ _ rfl w.heap.size _ [i+1] rfl L E n _ 1 rfl D (by simp[maxLen]) (by simp) ?_);intro f j M N _))
    go_ret;exact⟨_,rfl,F.grown N F.size (fun g e=>(L.lt g e).1),M⟩
   |false =>
    cases hn:((n:Int) != (i:Int)+1) with
    |true =>
     have L:Que (X.alloc (.cells #[.int .i64 (n:Int)] 3)) w.heap.size z [i+1]:=R.keep (fun g k=>heap_alloc_old _ _ (R.lt g k).2);have F:Below w.heap.size w (X.alloc (.cells #[.int .i64 (n:Int)] 3)):=P.alloc P.size _;have D:=QaR X n 3;have E:=F.size;go_wp2_with (first
      |(go_fit (T.out _);rintro e H⟨rfl,rfl⟩)
      |(go_fit (S.out _);rintro e H⟨rfl,rfl⟩)
      |(at_builtin;go_must (refine qC rfl _ _ rfl w.heap.size _ [i+1] rfl L E n _ 1 rfl D (by simp[maxLen]) (by simp) ?_);intro f j M N _))
     go_ret;exact⟨_,rfl,F.grown N F.size (fun g e=>(L.lt g e).1),M⟩
    |false =>
     have I:=P;have J:=R;go_wp2_with (first
      |(go_fit (T.out _);rintro e H⟨rfl,rfl⟩)
      |(go_fit (S.out _);rintro e H⟨rfl,rfl⟩))
     go_ret;exact⟨_,rfl,I,J⟩
set_option maxRecDepth 512
end Go.Proofs.YtlmfmioljeppfaaGreatDoor
