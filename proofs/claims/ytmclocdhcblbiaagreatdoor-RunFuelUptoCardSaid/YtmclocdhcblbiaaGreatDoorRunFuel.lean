/- Lemmas; conditions: as each states. -/
import Derived.Test.YtmclocdhcblbiaaGreatDoorRan
set_option maxHeartbeats 4000000
namespace Go.Proofs.YtmclocdhcblbiaaGreatDoor
open Go.RowKit Go.Shelf Go.Lib
theorem qev{l:List qa}{cls B C:Str}{args:List Val}{m:zg}(G:Qaj l 0)(E:Qal l cls B C args=some m){v:Val}{t:Str}{n N:Nat}(H:QaI (Za l) N ⟨[],[zaJ cls m args]⟩=.done v t n){w w':World}{e:Ending}{f:Int}(h:Qa8 w l cls B C args f e w')(L:(n:Int)<=f)(M:f<=2000):
 e=ZeU v t n .nilIface/\Below w.heap.size w w':=by
 obtain⟨I,O,D,J⟩:=h;obtain rfl:=zby G D;rcases J with⟨k,_,_,A|A|A|A,_⟩|⟨_,_,_,P,A,F⟩
 ·exact absurd rfl A
 ·rw[E]at A;cases A
 ·omega
 ·omega
 ·rw[E]at A;obtain rfl:=Option.some.inj A;rw[(Zby H).2.2.1 f.toNat (by omega)]at F;exact⟨F,I⟩
theorem Qev{l:List qa}{cls B C:Str}{args:List Val}{m:zg}(G:Qaj l 0)(E:Qal l cls B C args=some m){v:Val}{t:Str}{n N:Nat}(M:N<=2000)(H:QaI (Za l) N ⟨[],[zaJ cls m args]⟩=.done v t n){w w':World}{e:Ending}(h:Qa8 w l cls B C args ((n:Int)-1) e w'):
 e=qe8 10/\Below w.heap.size w w':=by
 obtain⟨I,O,D,J⟩:=h;obtain rfl:=zby G D;obtain⟨P,R,_,L⟩:=Zby H;rcases J with⟨k,_,_,A|A|A|A,_⟩|⟨_,_,_,S,A,F⟩
 ·exact absurd rfl A
 ·rw[E]at A;cases A
 ·omega
 ·omega
 ·rw[E]at A;obtain rfl:=Option.some.inj A;rw[show((n:Int)-1).toNat=n-1 by omega,L]at F;exact⟨F,I⟩
theorem zew(w:World):(binOp .eql 25 (.iface 52 (.int .i64 10)) (.iface 52 (.int .i64 10))).run Tryz.prog w=.ok (.bool true) w:=by kernel_rfl
theorem zdU(i:Int){n:Int}(B:1<=n)(C:n<=2000):∃j:Nat,wrap64 ((IntKind.u64.wrap i).tmod (2001-n))=(j:Int)/\(j:Int)<2001-n:=by
 have A:0<=IntKind.u64.wrap i:=by simp only[IntKind.wrap,IntKind.bits,IntKind.signed];simp;omega
 have D:=Int.emod_nonneg (IntKind.u64.wrap i) (b:=2001-n) (by omega);have E:=Int.emod_lt_of_pos (IntKind.u64.wrap i) (b:=2001-n) (by omega);refine⟨(IntKind.u64.wrap i % (2001-n)).toNat,?_,by omega⟩;rw[Int.tmod_eq_emod_of_nonneg A];unfold wrap64;omega
set_option maxRecDepth 100000
theorem Qdy(l:List qa)(U:Value)(cls B A:Str)(args:List Val)(V:Value)(fuel P:Int)(w:World)(hl:ZaB w)(ho:∀c∈l,Z4 c)(o:QJ w U l)(p:cls.size<=maxLen)(q:A.size<=1048576)(r:qe w 2 zu V args):
 Calls Tryz.prog 4 #[U,.string cls,.string B,.string A,V,.int .i64 fuel,.int .i64 P] w fun e w'=>e=.returned (.bool true)/\Below w.heap.size w w':=by
 have R:=Xh (qd9 w hl);have I:Hid (∀wx f,Below w.heap.size w wx->Calls Tryz.prog 13 #[U,.string cls,.string B,.string A,V,.int .i64 f] wx (Qa8 wx l cls B A args f)):=fun wx f O=>Qbp l U wx (hl.mono O hl.1) ho (o.mono O) cls B A p q args V (r.mono O (by decide) (fun _ _ h=>h)) f
 have s:Hid (∀wx,Below w.heap.size w wx->Calls Tryz.prog 13 #[U,.string cls,.string B,.string A,V,.int .i64 fuel] wx fun e w'=>Below wx.heap.size wx w'/\((∃k:Nat,e=.returned (.tuple #[.agg #[.int .i64 0,.int .i64 0,.string ⟨#[]⟩,.int .i64 0],.iface 52 (.int .i64 k)])) \/
  (∃(v:Val) (t:Str) (n:Int),e=.returned (.tuple #[.agg #[.int .i64 v.kind,.int .i64 v.n,.string t,.int .i64 n],.nilIface])/\1<=n/\n<=2000/\n<=fuel /\
   (∀D f,Below w.heap.size w D->n<=f->f<=2000->Calls Tryz.prog 13 #[U,.string cls,.string B,.string A,V,.int .i64 f] D fun e w'=>e=.returned (.tuple #[.agg #[.int .i64 v.kind,.int .i64 v.n,.string t,.int .i64 n],.nilIface])/\Below D.heap.size D w') /\
   (∀D,Below w.heap.size w D->Calls Tryz.prog 13 #[U,.string cls,.string B,.string A,V,.int .i64 (n-1)] D fun e w'=>e=.returned (.tuple #[.agg #[.int .i64 0,.int .i64 0,.string ⟨#[]⟩,.int .i64 0],.iface 52 (.int .i64 10)])/\Below D.heap.size D w')))):=fun wx O=>(I.out wx fuel O).mono fun e w' h=>by
  obtain⟨hB,n,hC,hE⟩:=h;refine⟨hB,?_⟩;rcases hE with⟨k,_,_,_,h1⟩|⟨h0,h1,h2,m,hm,i⟩
  ·exact Or.inl ⟨k,h1⟩
  ·subst h0;cases d:QaI (Za l) fuel.toNat ⟨[],[zaJ cls m args]⟩ with
   |full=>rw[d]at i;exact Or.inl ⟨4,i⟩
   |fuel=>rw[d]at i;exact Or.inl ⟨10,i⟩
   |done v t n =>
    rw[d]at i;obtain⟨k1,k2,_,_⟩:=Zby d;exact Or.inr ⟨v,t,(n:Int),i,by omega,by omega,by omega,fun D f O h3 h4=>(I.out D f O).mono fun e w' h=>qev hC hm d h h3 h4,fun D O=>(I.out D _ O).mono fun e w' h=>Qev hC hm (by omega) d h⟩
 have hts:=qb5;clear hl ho o p q r I;go_enter Tryz.func4,Tryz.ntmps4;go_upto_region 5 with(first
  |(go_fit R.out;rintro e w2⟨rfl,H⟩)
  |(go_fit (s.out _ H);rintro e L⟨M,⟨k,rfl⟩|⟨v,t,n,rfl,n1,n2,n3,h2,h3⟩⟩))
 ·have HB3:=Xh (Qa (Qa H Xl M) Xl ((Below.refl L.heap.size L).alloc Xl (.cells #[.int .i64 0,.int .i64 0,.string ⟨#[]⟩,.int .i64 0] 45)));clear H M;go_wp2_with fail;go_ret;exact⟨rfl,HB3⟩
 ·have x:=(Below.refl L.heap.size L).alloc Xl (.cells #[.int .i64 v.kind,.int .i64 v.n,.string t,.int .i64 n] 45);have hk:=Blk.new L 45 [.int .i64 v.kind,.int .i64 v.n,.string t,.int .i64 n];have y:=Xh (Qa (Qa H Xl M) Xl x);have c3:(L.alloc (.cells #[.int .i64 v.kind,.int .i64 v.n,.string t,.int .i64 n] 45)).cell? ⟨L.heap.size,3,none⟩=some (.int .i64 n):=hk.cell 3;have HK:=Xh hk;have H2:=Xh h2;have H3:=Xh h3;have b:=Xh (And.intro n1 (And.intro n2 n3));obtain⟨j,hj1,hj2⟩:=zdU P n1 n2;have d1:decide (n<1)=false:=Xi (by omega);have d2:decide ((2000:Int)<n)=false:=Xi (by omega);have z1:IntKind.i64.wrap (2000-n)=2000-n:=IntWalk.i64_in _ (by omega);have z2:IntKind.i64.wrap (2000-n+1)=2001-n:=by rw[show 2000-n+1=2001-n by omega];exact IntWalk.i64_in _ (by omega)
  have z3:IntKind.u64.wrap (2001-n)=2001-n:=by simp only[IntKind.wrap,IntKind.bits,IntKind.signed];simp;omega
  have z4:(2001-n==0)=false:=by simp;omega
  have z7:IntKind.i64.wrap (n+(j:Int))=n+(j:Int):=IntWalk.i64_in _ (by omega);clear x hk h2 h3 n1 n2 n3 H M;go_upto_region 9 with fail;go_region
  have X:=Xh y.out.drew;have z:=Xh (HK.out.step Xb.drew);have S:n<=n+(j:Int):=by omega
  have T:n+(j:Int)<=2000:=by have:=b.out;omega
  have z5:IntKind.i64.wrap (n-1)=n-1:=IntWalk.i64_in _ (by have:=b.out;omega);have z6:wrap64 (n-1)=n-1:=by have:=b.out;unfold wrap64;omega
  have he10:=zew;clear c3 y HK hj1 d1 d2 z1 z2 z3 z4 z7;generalize (L.alloc (.cells #[.int .i64 v.kind,.int .i64 v.n,.string t,.int .i64 n] 45)).drew=w4 at *;generalize L.heap.size=tb at *;go_upto_region 11 with(go_fit (H2.out _ _ X.out S T);rintro e g⟨rfl,a⟩)
  have Y:=(Below.refl g.heap.size g).alloc Xl (.cells #[.int .i64 v.kind,.int .i64 v.n,.string t,.int .i64 n] 45);have Z:=Xh ((z.out.step a).step Y);have aA:=Xh (Blk.new g 45 [.int .i64 v.kind,.int .i64 v.n,.string t,.int .i64 n]);have aB:=Xh (Qa (Qa X Xl a) Xl Y);have c3:(g.alloc (.cells #[.int .i64 v.kind,.int .i64 v.n,.string t,.int .i64 n] 45)).cell? ⟨tb,3,none⟩=some (.int .i64 n):=Z.out.cell 3;clear a Y z X S T;generalize hw6:g.alloc (.cells #[.int .i64 v.kind,.int .i64 v.n,.string t,.int .i64 n] 45)=w6 at *;generalize g.heap.size=ub at *;clear hw6;go_upto_region 12 with(go_fit (H3.out _ aB.out);rintro e C⟨rfl,N⟩)
  have J:=(Below.refl C.heap.size C).alloc Xl (.cells #[.int .i64 0,.int .i64 0,.string ⟨#[]⟩,.int .i64 0] 45);have E:=(Z.out.step N).step J;have F:Blk _ ub _ _:=(aA.out.step N).step J;have G:=Blk.new C 45 [.int .i64 0,.int .i64 0,.string ⟨#[]⟩,.int .i64 0];have aC:=Xh (Qa (Qa aB Xl N) Xl J);have k0:(C.alloc (.cells #[.int .i64 0,.int .i64 0,.string ⟨#[]⟩,.int .i64 0] 45)).cell? ⟨tb,0,none⟩=some (.int .i64 v.kind):=E.cell 0;have k1:(C.alloc (.cells #[.int .i64 0,.int .i64 0,.string ⟨#[]⟩,.int .i64 0] 45)).cell? ⟨tb,1,none⟩=some (.int .i64 v.n):=E.cell 1;have k2:(C.alloc (.cells #[.int .i64 0,.int .i64 0,.string ⟨#[]⟩,.int .i64 0] 45)).cell? ⟨tb,2,none⟩=some (.string t):=E.cell 2;have k3:(C.alloc (.cells #[.int .i64 0,.int .i64 0,.string ⟨#[]⟩,.int .i64 0] 45)).cell? ⟨tb,3,none⟩=some (.int .i64 n):=E.cell 3;have l0:(C.alloc (.cells #[.int .i64 0,.int .i64 0,.string ⟨#[]⟩,.int .i64 0] 45)).cell? ⟨ub,0,none⟩=some (.int .i64 v.kind):=F.cell 0;have l1:(C.alloc (.cells #[.int .i64 0,.int .i64 0,.string ⟨#[]⟩,.int .i64 0] 45)).cell? ⟨ub,1,none⟩=some (.int .i64 v.n):=F.cell 1;have l2:(C.alloc (.cells #[.int .i64 0,.int .i64 0,.string ⟨#[]⟩,.int .i64 0] 45)).cell? ⟨ub,2,none⟩=some (.string t):=F.cell 2;have l3:(C.alloc (.cells #[.int .i64 0,.int .i64 0,.string ⟨#[]⟩,.int .i64 0] 45)).cell? ⟨ub,3,none⟩=some (.int .i64 n):=F.cell 3;have m0:(C.alloc (.cells #[.int .i64 0,.int .i64 0,.string ⟨#[]⟩,.int .i64 0] 45)).cell? ⟨C.heap.size,0,none⟩=some (.int .i64 0):=G.cell 0;have m1:(C.alloc (.cells #[.int .i64 0,.int .i64 0,.string ⟨#[]⟩,.int .i64 0] 45)).cell? ⟨C.heap.size,1,none⟩=some (.int .i64 0):=G.cell 1;have m2:(C.alloc (.cells #[.int .i64 0,.int .i64 0,.string ⟨#[]⟩,.int .i64 0] 45)).cell? ⟨C.heap.size,2,none⟩=some (.string ⟨#[]⟩):=G.cell 2;have m3:(C.alloc (.cells #[.int .i64 0,.int .i64 0,.string ⟨#[]⟩,.int .i64 0] 45)).cell? ⟨C.heap.size,3,none⟩=some (.int .i64 0):=G.cell 3;have d1:decide (n<=fuel)=true:=Xj b.out.2.2;have d2:decide ((0:Int)<n)=true:=Xj (by have:=b.out;omega);clear J E F G N Z aA c3 H2 H3 s R;by_cases hn:n=1
  ·have d3:decide ((1:Int)<n)=false:=Xi (by omega);have d4:(n==1)=true:=(by simp;omega);clear hn;go_wp2_with fail;go_ret;exact⟨rfl,aC⟩
  ·have d3:decide ((1:Int)<n)=true:=Xj (by have:=b.out;omega);have d4:(n==1)=false:=(by simp;omega);clear hn;go_wp2_with fail;go_ret;exact⟨rfl,aC⟩
set_option maxRecDepth 512
end Go.Proofs.YtmclocdhcblbiaaGreatDoor
