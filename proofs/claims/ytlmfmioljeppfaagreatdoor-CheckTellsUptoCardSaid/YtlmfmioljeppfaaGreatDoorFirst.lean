/- Lemmas; conditions: as each states. -/
import Derived.Test.YtlmfmioljeppfaaGreatDoorCheckLaw
import Derived.Test.YtlmfmioljeppfaaGreatDoorQueue
set_option maxHeartbeats 4000000
namespace Go.Proofs.YtlmfmioljeppfaaGreatDoor
open Go.RowKit Go.Shelf Go.Lib Go.ChangeMaps
theorem Zcw:Tryz.prog.underlying 3=some (.int .i64):=by kernel_rfl
theorem Zbr:Tryz.prog.underlying 116=some (.map 3 27):=by kernel_rfl
def qen:Value:=.agg #[.slice none 0 0,.slice none 0 0]
theorem Zdr(w:World):(zeroValue 27).run Tryz.prog w=.ok qen w:=by kernel_rfl
theorem qcw{i:Nat}(hi:i<=64):keyOf Tryz.prog 3 (ZV i)=some (.int .i64 (i:Int)):=by
 refine Go.Maps.keyOf_int_mk Zcw ?_;unfold Lit.wf;simp;exact⟨by
  have:IntKind.i64.min<=0:=by decide
  omega,by
   have:(64:Int)<=IntKind.i64.max:=(by decide);omega⟩
theorem zb0{i k:Nat}(h:ZV i=ZV k):i=k:=by
 unfold ZV at h;injection h with _ h
 omega
structure QaW (R:Value->Value->Frm->Prop) (w:World) (mb:Nat) (F:Asg Frm):Prop where
 ex:∃es clock,w.heap[mb]? = some (.map es clock)/\(es.toList.map (·.key)).Nodup/\(∀e∈es.toList,∃i f lv sv,i<=64/\e.key=ZV i/\e.val=.agg #[lv,sv]/\F i=some f/\R lv sv f)/\(∀i f,F i=some f->∃e∈es.toList,e.key=ZV i)/\(es.toList.map (·.born)).Nodup/\∀e∈es.toList,e.born<clock
theorem QaW.lt{R:Value->Value->Frm->Prop}{w:World}{mb:Nat}{F:Asg Frm}(h:QaW R w mb F):mb<w.heap.size:=by
 obtain⟨es,clock,h1,_⟩:=h.ex;exact(Array.getElem?_eq_some_iff.1 h1).1
theorem QaW.keep{R R':Value->Value->Frm->Prop}{w w':World}{mb:Nat}{F:Asg Frm}(h:QaW R w mb F)(hb:w'.heap[mb]? = w.heap[mb]?)(hR:∀lv sv f,R lv sv f->R' lv sv f):QaW R' w' mb F:=by
 obtain⟨es,clock,h1,h2,h3,h4⟩:=h.ex;exact⟨es,clock,hb.trans h1,h2,(fun e he=>by
  obtain⟨i,f,lv,sv,a1,a2,a3,a4,a5⟩:=h3 e he;exact⟨i,f,lv,sv,a1,a2,a3,a4,hR _ _ _ a5⟩),h4⟩
theorem QaW.made(R:Value->Value->Frm->Prop)(w:World):QaW R (w.alloc (.map #[] 0)) w.heap.size (fun _=>none) :=
 ⟨#[],0,heap_alloc_new _ _,by simp,fun e he=>by simp at he,(fun i f h=>by cases h),by simp,fun e he=>by simp at he⟩
theorem QaW.keys{es:Array MapEntry}{R:Value->Value->Frm->Prop}{F:Asg Frm}(h3:∀e∈es.toList,∃i f lv sv,i<=64/\e.key=ZV i/\e.val=.agg #[lv,sv]/\F i=some f/\R lv sv f):∀e∈es.toList,∃l,keyOf Tryz.prog 3 e.key=some l:=fun e he=>by
 obtain⟨i,_,_,_,hi,hk,_⟩:=h3 e he;exact⟨_,by rw[hk];exact qcw hi⟩
theorem Zb0{l:List MapEntry}(h:(l.map (·.key)).Nodup){n j:Nat}(hn:n<l.length)(hj:j<l.length)(hne:n≠j):l[n].key≠l[j].key:=by
 have h:=List.pairwise_map.1 h;rw[List.pairwise_iff_getElem]at h;rcases Nat.lt_or_gt_of_ne hne with hlt|hlt
 ·exact h n j hn hj hlt
 ·exact fun e=>h j n hj hn hlt e.symm
theorem Qd7{l:List MapEntry}(h:(l.map (·.key)).Nodup){a b:MapEntry}(ha:a∈l)(hb:b∈l)(e:a.key=b.key):a=b:=by
 obtain⟨i,hi,rfl⟩:=List.getElem_of_mem ha;obtain⟨k,hk,rfl⟩:=List.getElem_of_mem hb;by_cases hik:i=k
 ·subst hik;rfl
 ·exact absurd e (Zb0 h hi hk hik)
theorem qcH{α:Type}{l:List α}{j:Nat}{x:α}(h:l[j]? = some x):l.set j x=l:=by
 refine List.ext_getElem? fun n=>?_
 rw[List.getElem?_set];split
 ·rename_i e;subst e;rw[h,if_pos (List.getElem?_eq_some_iff.1 h).1]
 ·rfl
theorem QaW.look{R:Value->Value->Frm->Prop}{w:World}{mb:Nat}{F:Asg Frm}(h:QaW R w mb F){i:Nat}(hi:i<=64):
 ∃lv sv,(match F i with|none=>lv=.slice none 0 0/\sv=.slice none 0 0|some f=>R lv sv f) /\
  ∀(wx:World) (ok:Bool),wx.heap[mb]? = w.heap[mb]?->(Instr.lookup 116 (.map (some mb)) (ZV i) ok).run Tryz.prog wx=.ok (if ok then .tuple #[.agg #[lv,sv],.bool (F i).isSome] else .agg #[lv,sv]) wx:=by
 obtain⟨es,clock,h1,h2,h3,h4,_⟩:=h.ex;have K:=Go.Maps.int_keyed (P:=Tryz.prog) Zcw;have hkey:=qcw hi;have hks:=QaW.keys h3;cases hF:F i with
 |none =>
  refine⟨.slice none 0 0,.slice none 0 0,⟨rfl,rfl⟩,fun wx ok hb=>?_⟩;have hb':=hb.trans h1;rcases K.find wx hkey es.toList hks with⟨g1,_⟩|⟨j,e0,_,g2,g3⟩
  ·have hz:=Zdr wx;unfold qen at hz;cases ok<;>simp[Instr.lookup,run_underlying Zbr,MapKept.run_getObj_map hb',K.check wx _ hkey,g1,hz,Result.andThen]
  ·obtain⟨k,f,lv,sv,_,a2,_,a4,_⟩:=h3 e0 (Xe g2);have:k=i:=zb0 (a2.symm.trans g3);subst this;rw[hF]at a4;cases a4
 |some f =>
  obtain⟨e1,he1,hk1⟩:=h4 i f hF;obtain⟨k1,f1,lv,sv,_,b2,b3,b4,b5⟩:=h3 e1 he1;have hki:k1=i:=zb0 (b2.symm.trans hk1);subst hki;rw[hF]at b4;have hff:f=f1:=Option.some.inj b4;subst hff;refine⟨lv,sv,b5,fun wx ok hb=>?_⟩;have hb':=hb.trans h1;rcases K.find wx hkey es.toList hks with⟨_,g2⟩|⟨j,e0,g1,g2,g3⟩
  ·exact absurd hk1 (g2 e1 he1)
  ·have he0:e0=e1:=Qd7 h2 (Xe g2) he1 (g3.trans hk1.symm);subst he0;rw[b3]at g1;cases ok<;>simp[Instr.lookup,run_underlying Zbr,MapKept.run_getObj_map hb',K.check wx _ hkey,g1,Result.andThen]
theorem QaW.put{R:Value->Value->Frm->Prop}{w:World}{mb:Nat}{F:Asg Frm}(h:QaW R w mb F){i:Nat}(hi:i<=64)(f:Frm)(lv sv:Value)(hR:R lv sv f):
 ∃o,(Instr.mapUpdate 116 (.map (some mb)) (ZV i) (.agg #[lv,sv])).run Tryz.prog w=.ok () (setBlock w mb o)/\QaW R (setBlock w mb o) mb (F.put i f):=by
 obtain⟨es,clock,h1,h2,h3,h4,h5,h6⟩:=h.ex;have K:=Go.Maps.int_keyed (P:=Tryz.prog) Zcw;have hkey:=qcw hi;have hks:=QaW.keys h3;rcases K.find w hkey es.toList hks with⟨g1,g2⟩|⟨j,e0,g1,g2,g3⟩
 ·refine⟨.map (es.push ⟨ZV i,.agg #[lv,sv],clock⟩) (clock+1),?_,_,_,heap_setBlock_same h1 _,?_,?_,?_,?_,?_⟩
  ·simp[Instr.mapUpdate,run_underlying Zbr,MapKept.run_getObj_map h1,K.check w false hkey,g1,MapKept.run_setObj_map _ h1,Result.andThen,setBlock]
  ·rw[Array.toList_push,List.map_append,List.nodup_append];refine⟨h2,by simp,fun x hx y hy=>?_⟩;rw[List.map_singleton,List.mem_singleton]at hy;subst hy;obtain⟨e,he,rfl⟩:=List.mem_map.1 hx;exact g2 e he
  ·intro e he;rw[Array.toList_push]at he;rcases List.mem_append.1 he with he|he
   ·obtain⟨k,f1,l1,s1,a1,a2,a3,a4,a5⟩:=h3 e he;have hne:k≠i:=fun e'=>g2 e he (by rw[a2,e'])
    exact⟨k,f1,l1,s1,a1,a2,a3,by rw[Asg.put_other F f hne];exact a4,a5⟩
   ·rw[List.mem_singleton.1 he];exact⟨i,f,lv,sv,hi,rfl,rfl,Asg.put_self F i f,hR⟩
  ·intro k f1 hk;rw[Array.toList_push];by_cases hki:k=i
   ·exact⟨_,List.mem_append_right _ (List.mem_singleton.2 rfl),by rw[hki]⟩
   ·rw[Asg.put_other F f hki]at hk;obtain⟨e,he,hk'⟩:=h4 k f1 hk;exact⟨e,List.mem_append_left _ he,hk'⟩
  ·rw[Array.toList_push,List.map_append,List.nodup_append];refine⟨h5,by simp,fun x hx y hy=>?_⟩;rw[List.map_singleton,List.mem_singleton]at hy;subst hy;obtain⟨e,he,rfl⟩:=List.mem_map.1 hx;exact Nat.ne_of_lt (h6 e he)
  ·intro e he;rw[Array.toList_push]at he;rcases List.mem_append.1 he with he|he
   ·exact Nat.lt_succ_of_lt (h6 e he)
   ·rw[List.mem_singleton.1 he];exact Nat.lt_succ_self _
 ·have hj:es[j]? = some e0:=by simpa using g2
  have hjl:j<es.toList.length:=(List.getElem?_eq_some_iff.1 g2).1;have hlist:(es.modify j (fun e'=>{ e' with key:=ZV i,val:=.agg #[lv,sv] })).toList=es.toList.set j { e0 with key:=ZV i,val:=.agg #[lv,sv] }:=by rw[Array.toList_modify,Go.ChangeMaps.modify_eq_set _ _ _ _ g2]
  refine⟨.map (es.modify j (fun e'=>{ e' with key:=ZV i,val:=.agg #[lv,sv] })) clock,?_,_,_,heap_setBlock_same h1 _,?_,?_,?_,?_,?_⟩
  ·simp[Instr.mapUpdate,run_underlying Zbr,MapKept.run_getObj_map h1,K.check w false hkey,g1,hj,g3,K.stays w hkey,MapKept.run_setObj_map _ h1,Result.andThen,setBlock]
  ·rw[hlist,List.map_set];have:(es.toList.map (·.key)).set j (ZV i)=es.toList.map (·.key):=by
    refine qcH ?_;rw[List.getElem?_map,g2];show some e0.key=_
    rw[g3]
   rw[this];exact h2
  ·intro e he;rw[hlist]at he;obtain⟨n,hn,ex⟩:=List.getElem_of_mem he;rw[List.getElem_set]at ex;split at ex
   ·subst ex;exact⟨i,f,lv,sv,hi,rfl,rfl,Asg.put_self F i f,hR⟩
   ·rename_i hne;have hn':n<es.toList.length:=(by simpa using hn);have he':e∈es.toList:=ex▸List.getElem_mem hn';obtain⟨k,f1,l1,s1,a1,a2,a3,a4,a5⟩:=h3 e he';have hki:k≠i:=fun e'=>by
     refine Zb0 h2 hn' hjl (Ne.symm hne) ?_;rw[ex,a2,e',(List.getElem?_eq_some_iff.1 g2).2,g3]
    exact⟨k,f1,l1,s1,a1,a2,a3,by rw[Asg.put_other F f hki];exact a4,a5⟩
  ·intro k f1 hk;rw[hlist];by_cases hki:k=i
   ·exact⟨{ e0 with key:=ZV i,val:=.agg #[lv,sv] },List.mem_iff_getElem.2 ⟨j,by simpa using hjl,by simp⟩,by rw[hki]⟩
   ·rw[Asg.put_other F f hki]at hk;obtain⟨e,he,hk'⟩:=h4 k f1 hk;obtain⟨n,hn,ex⟩:=List.getElem_of_mem he;have hnj:j≠n:=fun e'=>by
     subst e';have:e=e0:=(by rw[<-ex];exact(List.getElem?_eq_some_iff.1 g2).2);rw[this,g3]at hk';exact hki (zb0 hk').symm
    exact⟨e,List.mem_iff_getElem.2 ⟨n,by simpa using hn,by rw[List.getElem_set_ne hnj,ex]⟩,hk'⟩
  ·rw[hlist,List.map_set];have:(es.toList.map (·.born)).set j e0.born=es.toList.map (·.born):=qcH (by rw[List.getElem?_map,g2];rfl);rw[this];exact h5
  ·intro e he;rw[hlist]at he;rcases List.mem_or_eq_of_mem_set he with he|rfl
   ·exact h6 e he
   ·exact h6 e0 (Xe g2)
end Go.Proofs.YtlmfmioljeppfaaGreatDoor
namespace Go.Proofs.YtlmfmioljeppfaaGreatDoor
open Go.RowKit Go.Shelf Go.Lib
theorem ZaR(w:World)(x:Nat)(t:TypeId):(w.alloc (.cells #[.int .i64 (x:Int)] t)).cell? ((⟨w.heap.size,0,none⟩:Addr).add 0)=some (ZV x):=by
 rw[zaR rfl,cell_of_row _ _ _ #[.int .i64 (x:Int)] t (0,0) (heap_alloc_new _ _)];rfl
set_option maxRecDepth 100000
theorem zcf(code:List Ins)(cv:Value)(w:World)(h:Qg w 6 qy cv code)(i:Nat)(x:Ins)(hx:code[i]? = some x)(hi:i<=64)(ha:qC x.op=true->0<=x.a):
 Calls Tryz.prog 150 #[cv,.int .i64 (i:Int)] w fun e w'=>∃v,e=.returned v/\Below w.heap.size w w'/\Que w' w.heap.size v (qay x i):=by
 obtain⟨hlt,rfl⟩:=List.getElem?_eq_some_iff.1 hx;obtain⟨b,o,cap,vs,rfl,hR,_,qc⟩:=h.at hlt;unfold qy at hR;have hr:qay code[i] i=(if zan code[i].op then [] else [i+1])++(if qC code[i].op&&(code[i].op==14||code[i].a != (i:Int)+1) then [code[i].a.toNat] else []):=rfl;rw[hr];have HE:Hid (∀wx,_):=fun wx=>QcH code[i].op wx
 have HJ:Hid (∀wx,_):=fun wx=>Za6 code[i].op wx
 have hil:(i:Int)<(code.length:Int):=by omega
 obtain⟨c0,c1,c2,c3,c4,c5,_⟩:=(by rw[hR]at qc;exact qc:qG w b (o+i*6) [.int .i64 code[i].op,.int .i64 code[i].a,.int .i64 code[i].b,.string code[i].type,.string code[i].cls,.string code[i].name]);clear hr hR qc h hx;generalize code[i]=y at *;obtain⟨op,a,bb,type,cls,name⟩:=y;dsimp only at *;have hi63:(i:Int)+1<=100:=by omega
 cases he:zan op with
 |true =>
  rw[he]at HE;go_enter Tryz.func150,Tryz.ntmps150;cases hj:qC op with
  |false =>
   rw[hj]at HJ;have hBx:Below w.heap.size w (w.alloc (.cells #[.int .i64 op,.int .i64 a,.int .i64 bb,.string type,.string cls,.string name] 24)):=Xb.alloc Xl _;have hQx:=Que.empty (w.alloc (.cells #[.int .i64 op,.int .i64 a,.int .i64 bb,.string type,.string cls,.string name] 24)) w.heap.size;go_wp2_with (first
    |(go_fit (HE.out _);rintro e w2⟨rfl,rfl⟩)
    |(go_fit (HJ.out _);rintro e w2⟨rfl,rfl⟩))
   go_ret;exact⟨_,rfl,hBx,hQx⟩
  |true =>
   rw[hj]at HJ;obtain⟨n,rfl⟩:=Int.eq_ofNat_of_zero_le (ha hj);cases h14:(op==14) with
   |true =>
    have hQ:=Que.empty ((w.alloc (.cells #[.int .i64 op,.int .i64 (n:Int),.int .i64 bb,.string type,.string cls,.string name] 24)).alloc (.cells #[.int .i64 (n:Int)] 3)) w.heap.size;have hB:Below w.heap.size w ((w.alloc (.cells #[.int .i64 op,.int .i64 (n:Int),.int .i64 bb,.string type,.string cls,.string name] 24)).alloc (.cells #[.int .i64 (n:Int)] 3)):=(Xb.alloc Xl _).alloc (by simp) _;have hone:=ZaR (w.alloc (.cells #[.int .i64 op,.int .i64 (n:Int),.int .i64 bb,.string type,.string cls,.string name] 24)) n 3;rw[World.size_alloc]at hone;have hQb:=hB.size;go_wp2_with (first
     |(go_fit (HE.out _);rintro e w2⟨rfl,rfl⟩)
     |(go_fit (HJ.out _);rintro e w2⟨rfl,rfl⟩)
     |(at_builtin;go_must (refine QM rfl _ _ rfl w.heap.size _ [] rfl hQ hQb n _ 1 rfl hone (by simp[maxLen]) (by simp) ?_);intro v5 w5 hq5 hg5 _))
    go_ret;exact⟨_,rfl,hB.grown hg5 hB.size (fun g e=>(hQ.lt g e).1),hq5⟩
   |false =>
    cases hn:((n:Int) != (i:Int)+1) with
    |true =>
     have hQ:=Que.empty ((w.alloc (.cells #[.int .i64 op,.int .i64 (n:Int),.int .i64 bb,.string type,.string cls,.string name] 24)).alloc (.cells #[.int .i64 (n:Int)] 3)) w.heap.size;have hB:Below w.heap.size w ((w.alloc (.cells #[.int .i64 op,.int .i64 (n:Int),.int .i64 bb,.string type,.string cls,.string name] 24)).alloc (.cells #[.int .i64 (n:Int)] 3)):=(Xb.alloc Xl _).alloc (by simp) _;have hone:=ZaR (w.alloc (.cells #[.int .i64 op,.int .i64 (n:Int),.int .i64 bb,.string type,.string cls,.string name] 24)) n 3;rw[World.size_alloc]at hone;have hQb:=hB.size;go_wp2_with (first
      |(go_fit (HE.out _);rintro e w2⟨rfl,rfl⟩)
      |(go_fit (HJ.out _);rintro e w2⟨rfl,rfl⟩)
      |(at_builtin;go_must (refine QM rfl _ _ rfl w.heap.size _ [] rfl hQ hQb n _ 1 rfl hone (by simp[maxLen]) (by simp) ?_);intro v5 w5 hq5 hg5 _))
     go_ret;exact⟨_,rfl,hB.grown hg5 hB.size (fun g e=>(hQ.lt g e).1),hq5⟩
    |false =>
     have hBx:Below w.heap.size w (w.alloc (.cells #[.int .i64 op,.int .i64 (n:Int),.int .i64 bb,.string type,.string cls,.string name] 24)):=Xb.alloc Xl _;have hQx:=Que.empty (w.alloc (.cells #[.int .i64 op,.int .i64 (n:Int),.int .i64 bb,.string type,.string cls,.string name] 24)) w.heap.size;go_wp2_with (first
      |(go_fit (HE.out _);rintro e w2⟨rfl,rfl⟩)
      |(go_fit (HJ.out _);rintro e w2⟨rfl,rfl⟩))
     go_ret;exact⟨_,rfl,hBx,hQx⟩
 |false =>
  rw[he]at HE;have hQ:=Que.empty ((w.alloc (.cells #[.int .i64 op,.int .i64 a,.int .i64 bb,.string type,.string cls,.string name] 24)).alloc (.cells #[.int .i64 ((i:Int)+1)] 3)) w.heap.size;have hB:Below w.heap.size w ((w.alloc (.cells #[.int .i64 op,.int .i64 a,.int .i64 bb,.string type,.string cls,.string name] 24)).alloc (.cells #[.int .i64 ((i:Int)+1)] 3)):=(Xb.alloc Xl _).alloc (by simp) _;have hQb:=hB.size;have hone:=ZaR (w.alloc (.cells #[.int .i64 op,.int .i64 a,.int .i64 bb,.string type,.string cls,.string name] 24)) (i+1) 3;rw[World.size_alloc,show(((i+1:Nat)):Int)=(i:Int)+1 from rfl]at hone;have K:=(Blk.new w 24 [.int .i64 op,.int .i64 a,.int .i64 bb,.string type,.string cls,.string name]).step (Xb.alloc Xl (.cells #[.int .i64 ((i:Int)+1)] 3));go_enter Tryz.func150,Tryz.ntmps150;go_upto_region 5 with(first
   |(go_fit (HE.out _);rintro e w2⟨rfl,rfl⟩)
   |(at_builtin;go_must (refine QM rfl _ _ rfl w.heap.size _ [] rfl hQ hQb (i+1) _ 1 rfl hone (by decide) (by decide) ?_);intro v4 w4 hq4 hg4 _))
  have hB4:=hB.grown hg4 hB.size (fun g e=>(hQ.lt g e).1);have K4:=K.grown hg4 (fun e=>by cases e);obtain⟨k0,k1,_,_,_,_⟩:=K4.cells6;clear hQ hB hQb K K4 hg4 hone;cases hj:qC op with
  |false =>
   rw[hj]at HJ;have hBx:=hB4;have hQx:=hq4;go_wp2_with (first
    |(go_fit (HE.out _);rintro e w2⟨rfl,rfl⟩)
    |(go_fit (HJ.out _);rintro e w2⟨rfl,rfl⟩))
   go_ret;exact⟨_,rfl,hBx,hQx⟩
  |true =>
   rw[hj]at HJ;obtain⟨n,rfl⟩:=Int.eq_ofNat_of_zero_le (ha hj);cases h14:(op==14) with
   |true =>
    have hQ:Que (w4.alloc (.cells #[.int .i64 (n:Int)] 3)) w.heap.size v4 [i+1]:=hq4.keep (fun g hg=>heap_alloc_old _ _ (hq4.lt g hg).2);have hB:Below w.heap.size w (w4.alloc (.cells #[.int .i64 (n:Int)] 3)):=hB4.alloc hB4.size _;have hone:=ZaR w4 n 3;have hQb:=hB.size;go_wp2_with (first
     |(go_fit (HE.out _);rintro e w2⟨rfl,rfl⟩)
     |(go_fit (HJ.out _);rintro e w2⟨rfl,rfl⟩)
     |(at_builtin;go_must (refine QM rfl _ _ rfl w.heap.size _ [i+1] rfl hQ hQb n _ 1 rfl hone (by simp[maxLen]) (by simp) ?_);intro v5 w5 hq5 hg5 _))
    go_ret;exact⟨_,rfl,hB.grown hg5 hB.size (fun g e=>(hQ.lt g e).1),hq5⟩
   |false =>
    cases hn:((n:Int) != (i:Int)+1) with
    |true =>
     have hQ:Que (w4.alloc (.cells #[.int .i64 (n:Int)] 3)) w.heap.size v4 [i+1]:=hq4.keep (fun g hg=>heap_alloc_old _ _ (hq4.lt g hg).2);have hB:Below w.heap.size w (w4.alloc (.cells #[.int .i64 (n:Int)] 3)):=hB4.alloc hB4.size _;have hone:=ZaR w4 n 3;have hQb:=hB.size;go_wp2_with (first
      |(go_fit (HE.out _);rintro e w2⟨rfl,rfl⟩)
      |(go_fit (HJ.out _);rintro e w2⟨rfl,rfl⟩)
      |(at_builtin;go_must (refine QM rfl _ _ rfl w.heap.size _ [i+1] rfl hQ hQb n _ 1 rfl hone (by simp[maxLen]) (by simp) ?_);intro v5 w5 hq5 hg5 _))
     go_ret;exact⟨_,rfl,hB.grown hg5 hB.size (fun g e=>(hQ.lt g e).1),hq5⟩
    |false =>
     have hBx:=hB4;have hQx:=hq4;go_wp2_with (first
      |(go_fit (HE.out _);rintro e w2⟨rfl,rfl⟩)
      |(go_fit (HJ.out _);rintro e w2⟨rfl,rfl⟩))
     go_ret;exact⟨_,rfl,hBx,hQx⟩
set_option maxRecDepth 512
def qbi(w:World)(fb:Bool)(cls:Str)(f1:Value)(e:Ending)(w':World):Prop :=
 Below w.heap.size w w'/\((fb=true/\∃p n c,e=.returned (.tuple #[.agg #[f1,.slice p n c],.bool true])/\Qh w' (.slice p n c) [Zd cls]/\∀g,(Value.slice p n c).ownBlock=some g->w.heap.size<=g/\g<w'.heap.size) \/
  (fb=false/\e=.returned (.tuple #[.agg #[.slice none 0 0,.slice none 0 0],.bool false])))
structure CX (w wx:World) (lo hi dest:Int) (cls:Str) (f1 f2 r1 r2:Value):Prop where
 below:Below w.heap.size w wx
 box:Blk wx w.heap.size 126 [.int .i64 lo,.int .i64 hi,.int .i64 dest,.string cls]
 frm:Blk wx (w.heap.size+1) 27 [f1,f2]
 res:Blk wx (w.heap.size+1+1) 27 [r1,r2]
variable {w wx wy:World} {lo hi dest:Int} {cls:Str} {f1 f2 r1 r2:Value}
theorem CX.step(h:CX w wx lo hi dest cls f1 f2 r1 r2)(hb:Below wx.heap.size wx wy):CX w wy lo hi dest cls f1 f2 r1 r2:=⟨Qa h.below Xl hb,h.box.step hb,h.frm.step hb,h.res.step hb⟩
theorem CX.new(w:World)(lo hi dest:Int)(cls:Str)(f1 f2:Value):CX w (((w.alloc (.cells #[.int .i64 lo,.int .i64 hi,.int .i64 dest,.string cls] 126)).alloc (.cells #[f1,f2] 27)).alloc (.cells #[.slice none 0 0,.slice none 0 0] 27)) lo hi dest cls f1 f2 (.slice none 0 0) (.slice none 0 0):=by
 refine⟨((Xb.alloc Xl _).alloc (by simp) _).alloc (by simp;omega) _,?_,?_,?_⟩
 ·exact(Blk.new w 126 _).step ((Xb.alloc Xl _).alloc (by simp) _)
 ·have:=(Blk.new (w.alloc (.cells #[.int .i64 lo,.int .i64 hi,.int .i64 dest,.string cls] 126)) 27 [f1,f2]).step (Xb.alloc Xl (.cells #[.slice none 0 0,.slice none 0 0] 27));simpa using this
 ·have:=Blk.new ((w.alloc (.cells #[.int .i64 lo,.int .i64 hi,.int .i64 dest,.string cls] 126)).alloc (.cells #[f1,f2] 27)) 27 [.slice none 0 0,.slice none 0 0];simpa using this
theorem CX.cells(h:CX w wx lo hi dest cls f1 f2 r1 r2):wx.cell? ⟨w.heap.size,3,none⟩=some (.string cls)/\wx.cell? ⟨w.heap.size+1,0,none⟩=some f1/\wx.cell? ⟨w.heap.size+1+1,0,none⟩=some r1/\wx.cell? ⟨w.heap.size+1+1,1,none⟩=some r2/\wx.frozen? ⟨w.heap.size+1+1,0,none⟩=false/\wx.frozen? ⟨w.heap.size+1+1,1,none⟩=false:=⟨h.box.cell 3,h.frm.cell 0,h.res.cell 0,h.res.cell 1,h.res.frozen 0,h.res.frozen 1⟩
theorem CX.set(h:CX w wx lo hi dest cls f1 f2 r1 r2)(u v:Value):CX w ((wx.setCell ⟨w.heap.size+1+1,0,none⟩ u).setCell ⟨w.heap.size+1+1,1,none⟩ v) lo hi dest cls f1 f2 u v :=
 ⟨z7 h.below (by omega) u v,(h.box.other (by omega) 0 u).other (by omega) 1 v,(h.frm.other (by omega) 0 u).other (by omega) 1 v,h.res.put2 u v⟩
theorem CX.put(h:CX w wx lo hi dest cls f1 f2 r1 r2)(u v:Value):Below w.heap.size w ((wx.setCell ⟨w.heap.size+1+1,0,none⟩ u).setCell ⟨w.heap.size+1+1,1,none⟩ v):=z7 h.below (by omega) u v
theorem zcI(l:List Qb):(Qc (Za l) zC).isSome=true:=rfl
theorem qdO{n:Nat}(h:n≠0):zE n=.iface 29 (.int .i64 (n:Int)):=by unfold zE;rw[if_neg h]
set_option maxRecDepth 100000
theorem ZcI(w0 w:World)(B:Nat)(l:List Qb)(hm:Qw w0 w B l)(lo hi dest:Int)(cls:Str)(f1 f2:Value)(hf1:∃p n c,f1=.slice p n c)(hc:cls.size<=1048576):
 Calls Tryz.prog 149 #[.map (some B),.agg #[.int .i64 lo,.int .i64 hi,.int .i64 dest,.string cls],.agg #[f1,f2]] w (qbi w (Zad (Za l) cls) cls f1):=by
 obtain⟨pf,nf,cf,rfl⟩:=hf1;have hts:(Zd cls).size<=maxLen:=by rw[qam];exact Xf (Nat.add_le_add_right hc 2) (by decide)
 have hfs:zd (Za l) (Zd zC)=0:=Qbi hm.faults (x:=.ty (.cl zC)) ⟨(Zbg _).symm,zcI l⟩ (Nat.zero_le _);have HTh:Hid (∀wx,_):=fun wx=>ZX cls wx (Xf hc (by decide))
 have HTf:Hid (∀wx,Calls Tryz.prog 142 #[.string ⟨#[70,97,117,108,116]⟩] wx fun e w'=>e=.returned (.string (Zd zC))/\wx=w'):=fun wx=>ZX zC wx (by decide)
 have HKi:Hid (∀wx,Below w.heap.size w wx->_):=fun wx hb=>qb0 w0 wx B (Za l) (hm.map.step hb) hm.right.nodup (Zd cls) hts
 have T0:=CX.new w lo hi dest cls (.slice pf nf cf) f2;obtain⟨w1,hw1⟩:∃w1,w1=((w.alloc (.cells #[.int .i64 lo,.int .i64 hi,.int .i64 dest,.string cls] 126)).alloc (.cells #[.slice pf nf cf,f2] 27)).alloc (.cells #[.slice none 0 0,.slice none 0 0] 27):=⟨_,rfl⟩;rw[<-hw1]at T0;have HW:=Xh hw1.symm;have HT:=Xh T0;obtain⟨c3,g0,r0,r1,z0,z1⟩:=T0.cells;by_cases hk:zd (Za l) (Zd cls)=0
 ·have HDo:Hid (∀wx,Below w.heap.size w wx->_):=fun wx hb=>qcI w0 wx B l (hm.step hb) (Zd cls) (Zd zC) _ _ (QS hk) (QS hfs) hts (by decide)
  have hfb:Zad (Za l) cls=Zx (Za l) (Zo (Zd cls)) (Zo (Zd zC)):=by unfold Zad;rw[hk];rfl
  rw[hk,show zE 0=.nilIface from rfl]at HKi;rw[hfb];clear hfb hk hfs hm hw1 T0;generalize Zx (Za l) (Zo (Zd cls)) (Zo (Zd zC))=fb at *;cases fb with
  |false =>
   go_enter Tryz.func149,Tryz.ntmps149;go_upto_region 1 with fail;rw[HW.out];go_wp2_with (first
    |(go_fit (HTh.out _);rintro e w2⟨rfl,rfl⟩)
    |(go_fit (HTf.out _);rintro e w2⟨rfl,rfl⟩)
    |(go_fit (HKi.out _ HT.out.below);rintro e w3⟨rfl,hB3⟩;(have T3:=HT.out.step hB3);obtain⟨c3',g0',r0',r1',z0',z1'⟩:=T3.cells)
    |(go_fit (HDo.out _ T3.below);rintro e w4⟨rfl,hB4⟩;(have T4:=T3.step hB4);obtain⟨c3',g0',r0',r1',z0',z1'⟩:=T4.cells;(have HT4:=Xh T4)))
   exact bodyPost_ret (v:=.tuple #[.agg #[.slice none 0 0,.slice none 0 0],.bool false]) (by simp[results,Tryz.results149,go_sem, *]) rfl ⟨HT4.out.put _ _,Or.inr ⟨rfl,rfl⟩⟩
  |true =>
   go_enter Tryz.func149,Tryz.ntmps149;go_upto_region 1 with fail;rw[HW.out];go_upto_region 3 with(first
    |(go_fit (HTh.out _);rintro e w2⟨rfl,rfl⟩)
    |(go_fit (HTf.out _);rintro e w2⟨rfl,rfl⟩)
    |(go_fit (HKi.out _ HT.out.below);rintro e w3⟨rfl,hB3⟩;(have T3:=HT.out.step hB3);obtain⟨c3',g0',r0',r1',z0',z1'⟩:=T3.cells)
    |(go_fit (HDo.out _ T3.below);rintro e w4⟨rfl,hB4⟩;(have T4:=T3.step hB4);(have HT4:=Xh T4)))
   have T5:=Xh (T4.step Xb.drew);obtain⟨d3,d0,e0,e1,x0,x1⟩:=T4.cells;refine wp_region_held_drew (S:=fun w'=>w'.cell? ⟨w.heap.size+1,0,none⟩=some (.slice pf nf cf)/\w'.cell? ⟨w.heap.size,3,none⟩=some (.string cls)) (by kernel_rfl) ⟨d0,d3⟩ (fun hHeld=>?_);change wpAnyH _ _ _ _ _ 9 _ _ _;iterate 4 ((first|(refine tkN rfl rfl (by kernel_rfl) (by kernel_rfl) (by kernel_rfl) (fun _ _ _ h=>h) (by rfl) hHeld ?_)|(refine tkY (v:=?_) rfl rfl (by kernel_rfl) (by kernel_rfl) (by kernel_rfl) (fun _ _ _ h=>h) (by rfl) hHeld ?_ ?_;rotate_left;focus (intro w hSw;(obtain⟨s0,s1⟩:=hSw);go_simp;all_goals with_reducible rfl)));try simp only[Act.put,Xa,Xc,Xd])
   refine wpAnyH_ready (rs:=[4]) (fuel:=4) (by kernel_rfl) (by simp) ?_;refine AllReadyH.cons (i:=4) rfl (fun K hK=>?_) AllReadyH.nil;go_simp;refine(HTh.out _).mono ?_;rintro e w6⟨rfl,rfl⟩;refine hK.out _ _ hHeld (fun hHeld=>?_);clear hK K;(try simp only[Act.put]);(try simp only[Xa]);(try simp only[Xd]);(try simp only[Xc])
   have T6:=T5.out.step (Xb.alloc Xl (.cells #[.string (Zd cls)] 9));have hone:=Zt w4.drew (Zd cls);refine wpAnyH_ready (rs:=[5]) (fuel:=3) (by kernel_rfl) (by simp) ?_;refine AllReadyH.cons (i:=5) rfl (fun K hK=>?_) AllReadyH.nil;go_simp;refine hK.out _ _ ⟨T6.frm.cell 0,T6.box.cell 3⟩ (fun hHeld=>?_);clear hK K;(try simp only[Act.put]);(try simp only[Xa]);(try simp only[Xd]);(try simp only[Xc])
   change wpAnyH _ _ _ _ _ 3 _ _ _;iterate 1 ((first|(refine tkN rfl rfl (by kernel_rfl) (by kernel_rfl) (by kernel_rfl) (fun _ _ _ h=>h) (by rfl) hHeld ?_)|(refine tkY (v:=?_) rfl rfl (by kernel_rfl) (by kernel_rfl) (by kernel_rfl) (fun _ _ _ h=>h) (by rfl) hHeld ?_ ?_;rotate_left;focus (intro w hSw;(obtain⟨s0,s1⟩:=hSw);go_simp;all_goals with_reducible rfl)));(try simp only[Act.put]);(try simp only[Xa]);(try simp only[Xd]);(try simp only[Xc]))
   have hsz:w4.heap.size<((w4.alloc (.cells #[.string (Zd cls)] 9)).drew).heap.size:=(by simp);have hle:w.heap.size<=w4.heap.size:=T4.below.size;replace T6:CX w ((w4.alloc (.cells #[.string (Zd cls)] 9)).drew) lo hi dest cls (.slice pf nf cf) f2 (.slice none 0 0) (.slice none 0 0):=T6;replace hone:Qh ((w4.alloc (.cells #[.string (Zd cls)] 9)).drew) (.slice (some ⟨w4.heap.size,0,none⟩) 1 1) [Zd cls]:=hone;have HT6:=Xh T6;have HO6:=Xh hone;try rw[show(w4.drew.alloc (.cells #[.string (Zd cls)] 9))=(w4.alloc (.cells #[.string (Zd cls)] 9)).drew from rfl]
   clear T6 hone hHeld d3 d0 e0 e1 x0 x1 T5;generalize (w4.alloc (.cells #[.string (Zd cls)] 9)).drew=w6 at *;obtain⟨_,_,y0,y1,v0,v1⟩:=HT6.out.cells;refine wpAnyH_ready (rs:=[7]) (fuel:=1) (by kernel_rfl) (by simp) ?_;refine AllReadyH.cons (i:=7) rfl (fun K hK=>?_) AllReadyH.nil;go_simp;have T7:=HT6.out.set (.slice pf nf cf) (.slice (some ⟨w4.heap.size,0,none⟩) 1 1);refine hK.out _ _ ⟨T7.frm.cell 0,T7.box.cell 3⟩ (fun hHeld=>?_);clear hK K;(try simp only[Act.put]);(try simp only[Xa]);(try simp only[Xd]);(try simp only[Xc])
   change wpAnyH _ _ _ _ _ 1 _ _ _;iterate 1 ((first|(refine tkN rfl rfl (by kernel_rfl) (by kernel_rfl) (by kernel_rfl) (fun _ _ _ h=>h) (by rfl) hHeld ?_)|(refine tkY (v:=?_) rfl rfl (by kernel_rfl) (by kernel_rfl) (by kernel_rfl) (fun _ _ _ h=>h) (by rfl) hHeld ?_ ?_;rotate_left;focus (intro w hSw;(obtain⟨s0,s1⟩:=hSw);go_simp;all_goals with_reducible rfl)));(try simp only[Act.put]);(try simp only[Xa]);(try simp only[Xd]);(try simp only[Xc]))
   refine wpAnyH_done (by kernel_rfl) ?_ _;have HT7:=Xh T7;have hOb:=(HO6.out).apart HT6.out.res (by simp) (by simp) (w':=(w6.setCell ⟨w.heap.size+1+1,0,none⟩ (.slice pf nf cf)).setCell ⟨w.heap.size+1+1,1,none⟩ (.slice (some ⟨w4.heap.size,0,none⟩) 1 1)) fun g hg=>(Xk _ _ _ _ hg).trans (Xk _ _ _ _ hg)
   have HOb:=Xh hOb;have HSz:Hid (w.heap.size<=w4.heap.size/\w4.heap.size<((w6.setCell ⟨w.heap.size+1+1,0,none⟩ (.slice pf nf cf)).setCell ⟨w.heap.size+1+1,1,none⟩ (.slice (some ⟨w4.heap.size,0,none⟩) 1 1)).heap.size):=⟨hle,by simpa using hsz⟩;have k0:=T7.res.cell 0;have k1:=T7.res.cell 1;clear hHeld T7 hOb y0 y1 v0 v1 hsz hle;generalize (w6.setCell ⟨w.heap.size+1+1,0,none⟩ (.slice pf nf cf)).setCell ⟨w.heap.size+1+1,1,none⟩ (.slice (some ⟨w4.heap.size,0,none⟩) 1 1)=w7 at *;go_wp2_with fail;exact bodyPost_ret (v:=.tuple #[.agg #[.slice pf nf cf,.slice (some ⟨w4.heap.size,0,none⟩) 1 1],.bool true]) (by simp[results,Tryz.results149,go_sem, *]) rfl ⟨HT7.out.below,Or.inl ⟨rfl,_,_,_,rfl,HOb,fun g hg=>by injection hg with hg;subst hg;exact HSz.out⟩⟩
 ·have hfb:Zad (Za l) cls=false:=by unfold Zad;rw[beq_eq_false_iff_ne.2 hk];rfl
  rw[qdO hk]at HKi;rw[hfb];clear hfb hfs hm hw1 T0;go_enter Tryz.func149,Tryz.ntmps149;go_upto_region 1 with fail;rw[HW.out];go_wp2_with (first
   |(go_fit (HTh.out _);rintro e w2⟨rfl,rfl⟩)
   |(go_fit (HKi.out _ HT.out.below);rintro e w3⟨rfl,hB3⟩;(have T3:=HT.out.step hB3);obtain⟨c3',g0',r0',r1',z0',z1'⟩:=T3.cells;(have HT3:=Xh T3)))
  exact bodyPost_ret (v:=.tuple #[.agg #[.slice none 0 0,.slice none 0 0],.bool false]) (by simp[results,Tryz.results149,go_sem, *]) rfl ⟨HT3.out.put _ _,Or.inr ⟨rfl,rfl⟩⟩
set_option maxRecDepth 512
def zaJ:Str:=⟨#[84]⟩
def Qak(cls:Str)(static:Bool):List Str:=if static then [] else [Zd cls]
def ZI(cls:Str)(static:Bool)(args:List Str)(many:Nat):List Str:=Qak cls static++args++List.replicate (many-(Qak cls static++args).length) zaJ
def qa6(w:World)(L:List Str)(g:Str)(e:Ending)(w':World):Prop :=
 Below w.heap.size w w'/\∃p n c,e=.returned (.tuple #[.agg #[.slice p n c,.slice none 0 0],.string g])/\Qh w' (.slice p n c) L/\∀b,(Value.slice p n c).ownBlock=some b->w.heap.size<=b/\b<w'.heap.size
structure FX (w wx:World) (mv:List Value) (fb:Nat) (r1 r2 l1 l2:Value):Prop where
 below:Below w.heap.size w wx
 box:Blk wx w.heap.size 53 mv
 res:Blk wx (w.heap.size+1) 27 [r1,r2]
 frm:Blk wx fb 27 [l1,l2]
 gt:w.heap.size+1<fb
variable {w wx wy:World} {mv:List Value} {fb:Nat} {r1 r2 l1 l2:Value}
theorem FX.step(h:FX w wx mv fb r1 r2 l1 l2)(hb:Below wx.heap.size wx wy):FX w wy mv fb r1 r2 l1 l2:=⟨Qa h.below Xl hb,h.box.step hb,h.res.step hb,h.frm.step hb,h.gt⟩
theorem FX.grown{r:Option Nat}(h:FX w wx mv fb r1 r2 l1 l2)(hg:wx.grownBy wy r)(hr:∀g,r=some g->fb<g):FX w wy mv fb r1 r2 l1 l2:=by
 have hgt:=h.gt;exact⟨h.below.grown hg h.below.size (fun g e=>by have:=hr g e;omega),h.box.grown hg (fun e=>by have:=hr _ e;omega),h.res.grown hg (fun e=>by have:=hr _ e;omega),h.frm.grown hg (fun e=>by have:=hr _ e;omega),hgt⟩
theorem FX.lset(h:FX w wx mv fb r1 r2 l1 l2)(v:Value):FX w (wx.setCell ⟨fb,0,none⟩ v) mv fb r1 r2 v l2:=by
 have hgt:=h.gt;exact⟨h.below.setCell (by show w.heap.size<=fb;omega) _,h.box.other (by omega) 0 v,h.res.other (by omega) 0 v,h.frm.put 0 v,hgt⟩
theorem qc2{w:World}{b:Nat}{t:TypeId}{x y v:Value}{l:List Str}(h:Qh w v l)(hk:Blk w b t [x,y])(u:Value)(hx:∀s,x≠.string s:=by simp)(hy:∀s,y≠.string s:=by simp):Qh (w.setCell ⟨b,0,none⟩ u) v l:=h.apart hk hx hy fun _ hg=>Xk _ _ _ _ hg
def QdO(w:World)(fb:Nat):Nat:=match w.cell? ⟨fb,0,none⟩ with
 |some (.slice _ n _)=>n
 |_=>0
theorem QcI{p:Option Addr}{n c:Nat}(h:wx.cell? ⟨fb,0,none⟩=some (.slice p n c)):QdO wx fb=n:=by unfold QdO;rw[h]
set_option maxRecDepth 100000
theorem Qb0(w:World)(cls name type:Str)(static abs priv:Bool)(many:Nat)(pc ph:Option Addr)(nc cc nh ch:Nat)(args:List Str)(g:Str)(hm:zm type=some (args,g))(hty:type.size<=1048576)(hc:cls.size<=1048576)(hn:many<=8)(ha:args.length<=5):
 Calls Tryz.prog 106 #[.string cls,.agg #[.string name,.string type,.bool static,.bool abs,.bool priv,.int .i64 (many:Int),.slice pc nc cc,.slice ph nh ch]] w (qa6 w (ZI cls static args many) g):=by
 have HTh:Hid (∀wx,_):=fun wx=>ZX cls wx (Xf hc (by decide))
 have HD:Hid (∀wx,_):=fun wx=>ZaY type wx hty
 rw[hm]at HD;unfold zaQ at HD;dsimp only at HD;obtain⟨mv,hmv⟩:∃mv,mv=[Value.string name,.string type,.bool static,.bool abs,.bool priv,.int .i64 (many:Int),.slice pc nc cc,.slice ph nh ch]:=⟨_,rfl⟩;have K0:=Blk.new w 53 [.string name,.string type,.bool static,.bool abs,.bool priv,.int .i64 (many:Int),.slice pc nc cc,.slice ph nh ch];have K1:=Blk.new (w.alloc (.cells #[.string name,.string type,.bool static,.bool abs,.bool priv,.int .i64 (many:Int),.slice pc nc cc,.slice ph nh ch] 53)) 27 [.slice none 0 0,.slice none 0 0];have B1:Below w.heap.size w ((w.alloc (.cells #[.string name,.string type,.bool static,.bool abs,.bool priv,.int .i64 (many:Int),.slice pc nc cc,.slice ph nh ch] 53)).alloc (.cells #[.slice none 0 0,.slice none 0 0] 27)):=(Xb.alloc Xl _).alloc (by simp) _;replace K0:=K0.step (Xb.alloc Xl (.cells #[.slice none 0 0,.slice none 0 0] 27));rw[World.size_alloc]at K1;obtain⟨w1,hw1⟩:∃w1,w1=(w.alloc (.cells #[.string name,.string type,.bool static,.bool abs,.bool priv,.int .i64 (many:Int),.slice pc nc cc,.slice ph nh ch] 53)).alloc (.cells #[.slice none 0 0,.slice none 0 0] 27):=⟨_,rfl⟩;rw[<-hw1]at K0 K1 B1;rw[<-hmv]at K0;have HW:=Xh hw1.symm;have HHm:=Xh hmv;clear hw1;have q1:w1.cell? ⟨w.heap.size,1,none⟩=some (.string type):=by rw[hmv]at K0;exact K0.cell 1
 clear hmv;go_enter Tryz.func106,Tryz.ntmps106;go_upto_region 1 with fail;rw[HW.out];go_upto_region 5 with(first|(go_fit (HD.out _);rintro e w3⟨hB3,v3,rfl,ho3⟩))
 have K03:=K0.step hB3;have K13:=K1.step hB3;have hgt:w.heap.size+1<w3.heap.size:=Nat.lt_of_lt_of_le K1.lt hB3.size;have T4:FX w (w3.alloc (.cells #[.slice none 0 0,.slice none 0 0] 27)) mv w3.heap.size (.slice none 0 0) (.slice none 0 0) (.slice none 0 0) (.slice none 0 0) :=
  ⟨(Qa B1 Xl hB3).alloc (by omega) _,K03.step (Xb.alloc Xl _),K13.step (Xb.alloc Xl _),Blk.new w3 27 [.slice none 0 0,.slice none 0 0],hgt⟩
 have hA4:=(Ze ho3).mono ((Below.refl w3.heap.size w3).alloc Xl (.cells #[.slice none 0 0,.slice none 0 0] 27));generalize hW4:w3.alloc (.cells #[.slice none 0 0,.slice none 0 0] 27)=w4 at *;have hfb4:w3.heap.size+1<=w4.heap.size:=T4.frm.lt;generalize w3.heap.size=fb at *;have HA4:=Xh hA4;have HT4:=Xh T4;clear ho3 hA4 K0 K1 K03 K13 B1 q1 hB3 hW4 HW;cases static;case' true =>
  have q2:w4.cell? ⟨w.heap.size,2,none⟩=some (.bool true):=by have:=T4.box.cell 2;rwa [HHm.out]at this
  have f0:=T4.frm.cell 0;have hown:w4.ownsRow (fb+1) 9 1 (.slice none 0 0) 0 []:=⟨rfl,Or.inl ⟨rfl,rfl⟩⟩;have n63:0+args.length<=maxLen:=Xf (show 0+args.length<=8 by omega) (by decide);have n16:(0+args.length)*16<=140737488355328:=by omega
  have hSt:=HA4.out;have z0:=T4.frm.frozen 0;clear T4;go_upto_region 8 with(first
   |(at_builtin;go_must (refine qg rfl _ _ rfl (fb+1) _ 0 [] rfl hown _ args rfl hSt n63 n16 hfb4 ?_);intro v6 w6 ho6 hg6 _;obtain⟨a6,c6,rfl⟩:=qe ho6;(have T6:=HT4.out.grown hg6 (fun g e=>by cases e));(have k6:=T6.frm.cell 0);(have z6:=T6.frm.frozen 0)))
  obtain⟨L,hL⟩:∃L,Qak cls true++args=L:=⟨_,rfl⟩;have own8:(w6.setCell ⟨fb,0,none⟩ (.slice a6 L.length c6)).ownsRow (fb+1) 9 1 (.slice a6 L.length c6) L.length (L.map Value.string):=by
   rw[<-hL];simp only[Qak,if_true,List.length_append,List.length_nil,List.map_append,List.map_nil];exact ZG ho6 (Nat.lt_succ_self _) 0 _
  have hn6:0+args.length=L.length:=by rw[<-hL];simp[Qak];try omega
  have hn7:args.length=L.length:=by omega
  rw[hn6]at *;rw[hn7];have T8:=T6.lset (.slice a6 L.length c6);have hfL:ZI cls true args many=L++List.replicate (many-L.length) zaJ:=by unfold ZI;rw[hL]
  rw[hfL];have hL8:L.length<=8:=by rw[<-hL];simp[Qak];omega
 case' false =>
  have q2:w4.cell? ⟨w.heap.size,2,none⟩=some (.bool false):=by have:=T4.box.cell 2;rwa [HHm.out]at this
  have f0:=T4.frm.cell 0;have z0:=T4.frm.frozen 0;have f0':=(T4.step (Xb.alloc Xl (.cells #[.string (Zd cls)] 9))).frm.cell 0;have z0':=(T4.step (Xb.alloc Xl (.cells #[.string (Zd cls)] 9))).frm.frozen 0;clear T4;go_upto_region 7 with(first|(go_fit (HTh.out _);rintro e w5⟨rfl,rfl⟩))
  have T5:=Xh ((HT4.out.step (Xb.alloc Xl (.cells #[.string (Zd cls)] 9))).lset (.slice (some ⟨w4.heap.size,0,none⟩) 1 1));have hown:=ZG (QY w4 (fb+1) (.string (Zd cls)) hfb4) (Nat.lt_succ_self fb) 0 (.slice (some ⟨w4.heap.size,0,none⟩) 1 1);have hSt:=qc2 (HA4.out.mono (Xb.alloc Xl (.cells #[.string (Zd cls)] 9))) (HT4.out.step (Xb.alloc Xl (.cells #[.string (Zd cls)] 9))).frm (.slice (some ⟨w4.heap.size,0,none⟩) 1 1);have hfb5:fb+1<=((w4.alloc (.cells #[.string (Zd cls)] 9)).setCell ⟨fb,0,none⟩ (.slice (some ⟨w4.heap.size,0,none⟩) 1 1)).heap.size:=T5.out.frm.lt;have n63:1+args.length<=maxLen:=Xf (show 1+args.length<=8 by omega) (by decide);have n16:(1+args.length)*16<=140737488355328:=by omega
  clear f0 z0 f0' z0' q2;generalize (w4.alloc (.cells #[.string (Zd cls)] 9)).setCell ⟨fb,0,none⟩ (.slice (some ⟨w4.heap.size,0,none⟩) 1 1)=w5 at *;have f0:=T5.out.frm.cell 0;go_upto_region 8 with(first
   |(at_builtin;go_must (refine qg rfl _ _ rfl (fb+1) _ 1 [.string (Zd cls)] rfl hown _ args rfl hSt n63 n16 hfb5 ?_);intro v6 w6 ho6 hg6 _;obtain⟨a6,c6,rfl⟩:=qe ho6;(have T6:=T5.out.grown hg6 (fun g e=>(hown.lt g e).1));(have k6:=T6.frm.cell 0);(have z6:=T6.frm.frozen 0)))
  obtain⟨L,hL⟩:∃L,Qak cls false++args=L:=⟨_,rfl⟩;have own8:(w6.setCell ⟨fb,0,none⟩ (.slice a6 L.length c6)).ownsRow (fb+1) 9 1 (.slice a6 L.length c6) L.length (L.map Value.string):=by
   rw[<-hL];simp only[Qak,Bool.false_eq_true,if_false,List.length_append,List.length_singleton,List.map_append,List.map_nil,List.map_cons];exact ZG ho6 (Nat.lt_succ_self _) 0 _
  have hn6:1+args.length=L.length:=by rw[<-hL];simp[Qak];try omega
  rw[hn6]at *;have T8:=T6.lset (.slice a6 L.length c6);have hfL:ZI cls false args many=L++List.replicate (many-L.length) zaJ:=by unfold ZI;rw[hL]
  rw[hfL];have hL8:L.length<=8:=by rw[<-hL];simp[Qak];omega
 all_goals
  generalize hW8:w6.setCell ⟨fb,0,none⟩ (.slice a6 L.length c6)=w8 at *;have HfL:=Xh hfL;clear hW8 ho6 hg6 z6 hown hfL;have HO8:=Xh own8;have HT8:=Xh T8;have Hfb8:=Xh T8.frm.lt;have HL8:=Xh hL8;have HT8gt:=Xh T8.gt;clear own8 T8 HT4 HA4 hfb4 hL8 hgt;go_loopw [] (fun wr=>∃(p:Option Addr) (n c:Nat) (M:List Str),Hid (FX w wr mv fb (.slice none 0 0) (.slice none 0 0) (.slice p n c) (.slice none 0 0))/\Hid (wr.ownsRow (fb+1) 9 1 (.slice p n c) n (M.map Value.string))/\Hid (M.length=n)/\Hid (M++List.replicate (many-n) zaJ=L++List.replicate (many-L.length) zaJ)/\Hid (n<=8)) (fun wr=>many-QdO wr fb)
  case atStart=>exact⟨_,_,_,L,HT8,HO8,rfl,rfl,HL8⟩
  case round =>
   clear HT8 HO8;obtain⟨p,n,c,M,hT,hO,hMn,hM,hn8⟩:=hrel;have c0:=hT.out.frm.cell 0;have z0:=hT.out.frm.frozen 0;have c5:=hT.out.box.cell 5;rw[HHm.out]at c5;replace c5:=show _=some (Value.int .i64 (many:Int)) from c5
   by_cases hlt:n<many
   ·have hltI:(n:Int)<(many:Int):=(by omega);have c0':=(hT.out.step (Xb.alloc Xl (.cells #[.string zaJ] 9))).frm.cell 0;have z0':=(hT.out.step (Xb.alloc Xl (.cells #[.string zaJ] 9))).frm.frozen 0;go_wp2_with (at_builtin;go_must (refine qg rfl _ _ rfl (fb+1) _ n (M.map Value.string) rfl (qr hO.out (Xb.alloc Xl (.cells #[.string zaJ] 9))) _ [zaJ] rfl (Zt _ _) (Xf (show n+1<=9 by have:=hn8.out;omega) (by decide)) (by have:=hn8.out;simp;omega) (by simp;have:=Hfb8.out;have:=hT.out.frm.lt;omega) ?_);intro v' w3 ho3 hg3 _;obtain⟨a3,c3,rfl⟩:=qe ho3;(have T3:=(hT.out.step (Xb.alloc Xl (.cells #[.string zaJ] 9))).grown hg3 (fun g e=>(World.ownsRow.lt hO.out g e).1));(have k3:=T3.frm.cell 0);(have z3:=T3.frm.frozen 0))
    go_roundw;case rel =>
     refine⟨a3,n+1,c3,M++[zaJ],T3.lset _,?_,?_,?_,?_⟩
     ·have:=ZG ho3 (Nat.lt_succ_self fb) 0 (.slice a3 (n+1) c3);unfold Hid;rw[List.map_append];exact this
     ·unfold Hid;rw[List.length_append,hMn.out];rfl
     ·rw[<-hM.out];unfold Hid;rw[show many-n=(many-(n+1))+1 by omega,List.replicate_succ,List.append_assoc];rfl
     ·unfold Hid;omega
    case measure =>
     rw[QcI c0,QcI (T3.lset (.slice a3 (n+1) c3) |>.frm.cell 0)];omega
   ·have hltI:¬(n:Int)<(many:Int):=(by omega);have c1:=hT.out.frm.cell 1;have z1:=hT.out.frm.frozen 1;have d0:=hT.out.res.cell 0;have d1:=hT.out.res.cell 1;have e0:=hT.out.res.frozen 0;have e1:=hT.out.res.frozen 1;go_wp2_with fail;have hmn:many-n=0:=(by omega);have hM':=hM.out;rw[hmn]at hM';rw[List.replicate_zero,List.append_nil]at hM';have hMf:=hM'.trans HfL.out.symm;have hO2:=ZG (ZG hO.out (Nat.lt_trans HT8gt.out (Nat.lt_succ_self fb)) 0 (.slice p n c)) (Nat.lt_trans HT8gt.out (Nat.lt_succ_self fb)) 1 (.slice none 0 0);rw[hMf]at hO2;have hB2:Below w.heap.size w ((wr.setCell ⟨w.heap.size+1,0,none⟩ (.slice p n c)).setCell ⟨w.heap.size+1,1,none⟩ (.slice none 0 0)):=((hT.out.below).setCell (show w.heap.size<=w.heap.size+1 by omega) _).setCell (show w.heap.size<=w.heap.size+1 by omega) _;have R2:=(hT.out.res.put 0 (.slice p n c)).put 1 (.slice none 0 0);have rr0:((wr.setCell ⟨w.heap.size+1,0,none⟩ (.slice p n c)).setCell ⟨w.heap.size+1,1,none⟩ (.slice none 0 0)).cell? ⟨w.heap.size+1,0,none⟩=some (.slice p n c):=R2.cell 0;have rr1:((wr.setCell ⟨w.heap.size+1,0,none⟩ (.slice p n c)).setCell ⟨w.heap.size+1,1,none⟩ (.slice none 0 0)).cell? ⟨w.heap.size+1,1,none⟩=some (.slice none 0 0):=R2.cell 1;have hO3:=hO2;rw[<-hMn.out,hMf]at hO3;have hS2:=Ze hO3;rw[<-hMf,hMn,hMf]at hS2;have hown2:∀b,(Value.slice p n c).ownBlock=some b->w.heap.size<=b/\b<((wr.setCell ⟨w.heap.size+1,0,none⟩ (.slice p n c)).setCell ⟨w.heap.size+1,1,none⟩ (.slice none 0 0)).heap.size:=fun b hb=>by
     have h2:=World.ownsRow.lt hO2 b hb;have:=HT8gt.out;exact⟨by omega,h2.2⟩
    exact bodyPost_ret (v:=.tuple #[.agg #[.slice p n c,.slice none 0 0],.string g]) (by simp[results,Tryz.results106,go_sem, *]) rfl ⟨hB2,p,n,c,rfl,hS2,hown2⟩
set_option maxRecDepth 512
end Go.Proofs.YtlmfmioljeppfaaGreatDoor
