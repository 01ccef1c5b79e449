/- Two lists of matchers held against each other; bytes as an argument. No condition. -/
import Derived.Test.YtmkmhhjkdaklbaaGreatXMr3v
import Derived.Test.YtmkmhhjkdaklbaaGreatRows
import Derived.Test.YtmkmhhjkdaklbaaGreatXPDoc3v
import Derived.Test.YtmkmhhjkdaklbaaGreatAbArgv
import Derived.Test.YtmkmhhjkdaklbaaGreatRc4v
import Derived.Test.YtmkmhhjkdaklbaaGreatProg
import Derived.Test.YtmkmhhjkdaklbaaGreatAbStepv
import Derived.Test.YtmkmhhjkdaklbaaGreatXVi5v
import Derived.Test.YtmkmhhjkdaklbaaGreatRq2bv
set_option linter.unusedSimpArgs false
set_option linter.unusedVariables false
set_option linter.unusedSectionVars false
namespace Go.Proofs.YtmkmhhjkdaklbaaGreat
open Go Go.Ab Go.Cod Go.ChangeShapes Go.WideShapes Go.ChangeAt Go.RowKit
set_option maxRecDepth 100000
theorem wf8 {n:Int} (h:(Lit.int .u8 n).wf=true):0≤n∧n<256:=by
 simp[Lit.wf,IntKind.min,IntKind.max,IntKind.bits,IntKind.signed]at h;omega
theorem z7D:∀{ys:List (List AV)},(∀y∈ys,QInt .u8 y)→∃b:Byt,ys.map (wrapC false)=byv b
 |[],_=>⟨[],rfl⟩
 |y::ys,h=>by
  obtain⟨m,hm,rfl⟩:=h y List.mem_cons_self;obtain⟨b,hb⟩:=z7D (ys:=ys) (fun z hz=>h z (List.mem_cons_of_mem _ hz))
  obtain⟨h0,h1⟩:=wf8 hm;obtain⟨n,rfl⟩:=Int.eq_ofNat_of_zero_le h0;refine⟨n.toUInt8::b,?_⟩;rw[List.map_cons,hb,z57,←bc_of (show n<256 by omega)]
  rfl
theorem zeQ {H:Type} {enc:TypeId×Value→H} {W:World} {base:Nat} {v:Value} {d:DataW H} {ps:List MemPlace} (hv:Value.okWide Tryz.prog W .any base 29 v)
  (h:DataW.Trod enc Tryz.prog W 0 (fun _=>true) true 29 v d ps):∃b:Byt,Rep noM noR W (.sl 1 (byv b)) v:=by
 obtain⟨sa,len,cap,rfl⟩:=okWide_slice Tryz.underlying29 hv
 obtain⟨x,hx,hq⟩:=Reads.arg (P:=Tryz.prog) (t:=29) (Q:=QSlice 1 false (QInt .u8)) (fun f=>by
  cases f with
  |zero=>exact Reads.zero
  |succ f=>exact Reads.slice false Tryz.underlying29 (by kernel_rfl) (by decide) (Reads.int Tryz.underlying5 f) (fun y hy _=>by obtain⟨n,_,rfl⟩:=hy;rfl)) rfl h
 rcases hq with hq|⟨ys,hys,_,hq⟩
 · simp only[List.cons.injEq,and_true]at hq;subst hq;refine⟨[],?_⟩;have:=hx.nils_inv;rw[this];exact .sl0 _ _ _
 · obtain⟨b,hn⟩:=z7D hys;simp only[List.cons.injEq,and_true]at hq;subst hq;rw[hn]at hx;exact⟨b,hx⟩
end Go.Proofs.YtmkmhhjkdaklbaaGreat
namespace Go.Proofs.YtmkmhhjkdaklbaaGreat
open Go Go.Ab Go.Cod
set_option maxRecDepth 100000
theorem zeR:∀n∈names,nameB n=true:=by decide +kernel
theorem zgI:∀p∈pats,(z2E p).2=true:=by decide +kernel
theorem zeS:∀p∈vals8,p.size≤24:=by decide +kernel
theorem zgJ {x:Mz} (h:MOK x):isB x.1 x.2.1 x.2.2=true:=by
 unfold isB;rw[zeR _ h.nm,Bool.true_and];have h1:=h.lo;have h4:=h.hi;by_cases h3:x.1<3
 · have hl:likeB x.1=false:=by unfold likeB;rw[Bool.or_eq_false_iff];exact⟨by simp;omega,by simp;omega⟩
   rw[hl];simp only[Bool.false_eq_true,if_false,Bool.and_eq_true,Bool.or_eq_true,beq_iff_eq,decide_eq_true_eq];exact⟨by omega,zeS _ (h.low h3)⟩
 · have hl:likeB x.1=true:=by unfold likeB;rw[Bool.or_eq_true];simp only[beq_iff_eq];omega
   rw[hl];simp only[if_true];exact zgI _ (h.high h3)
theorem zgK (x y:Mz):z3c x y=z3B x y:=by
 unfold z3c z3B;have:(x.1 != y.1)= !(x.1==y.1):=rfl;rw[this]
theorem zeT {M:List Mz} (h5:M.length≤5) (ho:∀y∈M,MOK y) (ha:Adj M):listB M=true:=by
 unfold listB;rw[decide_eq_true h5,Bool.true_and];refine List.all_eq_true.2 fun i hi=>?_
 have hi:=List.mem_range.1 hi;have e:M.getD i noM3=M[i]:=by rw[List.getD_eq_getElem?_getD,List.getElem?_eq_getElem hi];rfl
 unfold okL isM;rw[e,zgJ (ho _ (List.getElem_mem hi)),Bool.true_and]
 cases i with
 |zero=>rfl
 |succ i =>
  have e2:M.getD (i+1-1) noM3=M[i]:=by rw[List.getD_eq_getElem?_getD,Nat.add_sub_cancel,List.getElem?_eq_getElem (by omega)];rfl
  rw[e2];have:=ha i M[i] M[i+1] (by simp) (by simp[hi])
  rw[zgK]at this;rw[this];simp
theorem z72 (ds:List (Int×Int×Int)):listB (z0z ds [])=true:=by
 obtain⟨h1,h2,h3⟩:=zd4 ds;exact zeT h1 h2 h3
end Go.Proofs.YtmkmhhjkdaklbaaGreat
namespace Go.Proofs.YtmkmhhjkdaklbaaGreat
open Go Go.Ab Go.Cod Ieee
set_option maxRecDepth 100000
theorem zhY (p q:Int) (h:(some (compare q p)==some Ordering.lt)=false):(some (compare p q)==some Ordering.lt||some (compare p q)==some Ordering.eq)=true:=by
 simp only[compare,compareOfLessAndEq]at h⊢;by_cases h1:q<p
 · rw[if_pos h1]at h;exact absurd h (by decide)
 · by_cases h2:p<q
   · rw[if_pos h2];rfl
   · have:p=q:=by omega
     rw[if_neg h2,if_pos this];rfl
theorem zgL (a b:Nat) (h1:nanF a=false) (h2:nanF b=false) (h3:ltF b a=false):leF a b=true:=by
 unfold nanF at h1 h2;unfold ltF at h3;unfold leF;unfold Format.order at *;generalize FloatKind.f64.format.read a=x at *;generalize FloatKind.f64.format.read b=y at *
 cases x with
 |nan s m=>simp[Datum.order]at h1
 |infinity s =>
  cases y with
  |nan t n=>simp[Datum.order]at h2
  |infinity t=>revert h3;cases s<;>cases t<;>decide
  |number t n j =>
   revert h3;cases s<;>simp[Datum.order]
 |number s m i =>
  cases y with
  |nan t n=>simp[Datum.order]at h2
  |infinity t =>
   revert h3;cases t<;>simp[Datum.order]
  |number t n j =>
   simp only[Datum.order]at h3⊢;rw[show min j i=min i j from Int.min_comm j i]at h3
   exact zhY _ _ h3
theorem z8T:bitsF 0=0:=by decide +kernel
theorem zaL (sel:Int) (lo hi:Nat):mayB (z1a sel lo hi).1 (z1a sel lo hi).2.1 (z1a sel lo hi).2.2=true:=by
 unfold z1a;split
 · simp only[mayB,z8T];rfl
 · rename_i h
   have hn:nanF lo=false∧nanF hi=false:=by
    cases h1:nanF lo<;>cases h2:nanF hi<;>simp_all
   split
   · rename_i h3
     have:leF hi lo=true:=by
      unfold ltF at h3;unfold leF;rw[h3];rfl
     simpa[mayB] using this
   · rename_i h3;have:leF lo hi=true:=zgL lo hi hn.1 hn.2 (by simpa using h3)
     simpa[mayB] using this
theorem zeU:∀n∈names,n.size≤100000:=by decide +kernel
theorem z6c (ds:List (Int×Int×Int)):listB (mustL true (z0z ds []))=true∧((((mustL true (z0z ds [])).length:Nat):Int)==0)=false∧∀x∈mustL true (z0z ds []),x.2.1.size≤100000:=by
 have hd:listB [(1,⟨#[115,101,118]⟩,⟨#[97]⟩)]=true:=by decide +kernel
 cases hm:z0z ds [] with
 |nil =>
  refine⟨hd,by decide,fun x hx=>?_⟩
  have:x=(1,⟨#[115,101,118]⟩,⟨#[97]⟩):=by simpa[mustL] using hx
  subst this
  decide
 |cons y l =>
  have h:=z72 ds;obtain⟨_,h2,_⟩:=zd4 ds;rw[hm]at h h2;refine⟨h,by simp[mustL];omega,fun x hx=>?_⟩
  have hx':x∈y::l:=by simpa[mustL] using hx
  exact zeU _ (h2 x hx').nm
theorem zeV (d:RuD):ruIs (z44 d)=true:=by
 have h1:=z6c d.ds;have h2:=z6c d.es;have h3:=zaL d.sel d.lo d.hi;have h4:=zgH d.ns (List.Sublist.refl _);unfold ruIs z44;simp only;rw[h1.1,h1.2.1,h2.1,h2.2.1,h3,h4];rfl
end Go.Proofs.YtmkmhhjkdaklbaaGreat
namespace Go.Proofs.YtmkmhhjkdaklbaaGreat
open Go Go.Ab
set_option maxRecDepth 100000
def c48:ACode :=
 (sq_ [pr_ 2 (mi_ .u64 0)]
 (.seq (sq_ [mv_ 3 0,
 mv_ 4 0,
 pr_ 5 (bt_ .neq 3 4)]
 (.cond (.tmp 5)
 (sq_ [pr_ 2 (mi_ .u64 9221120237041090561)]
 .ret)
 .skip))
 (sq_ [mv_ 6 0,
 c1_ 7 47 6,
 mv_ 2 7]
 .ret)))
def o48:List Tmp:=[]
def r48:List RV:=[.tmp 2]
theorem t48:Text Tryz.prog 48 o48 c48 r48 8:=.mk_ Tryz.f48 rfl
def c67:ACode :=
 (sq_ [pr_ 1 (.boxr (.tmp 0)),
 pr_ 2 mf_]
 (.seq (sq_ [pr_ 4 (fa_ 0 1),
 pr_ 5 (lf_ 1 4),
 pr_ 6 (.lenv (.tmp 5)),
 pr_ 7 (bk_ .eql 6 .i64 0),
 mv_ 8 7,
 gp_ 9 8 false (fa_ 1 1),
 gp_ 10 8 false (lf_ 1 9),
 gp_ 11 8 false (.lenv (.tmp 10)),
 gp_ 12 8 false (bk_ .eql 11 .i64 0),
 pr_ 13 (po_ 8 12),
 mv_ 14 13,
 gp_ 15 14 false (fa_ 0 1),
 gp_ 16 14 false (lf_ 1 15),
 gc_ 17 14 false 117 [(.tmp 16)],
 gp_ 18 14 false (no_ 17),
 pr_ 19 (po_ 14 18),
 mv_ 20 19,
 gp_ 21 20 false (fa_ 1 1),
 gp_ 22 20 false (lf_ 1 21),
 gc_ 23 20 false 117 [(.tmp 22)],
 gp_ 24 20 false (no_ 23),
 pr_ 25 (po_ 20 24),
 mv_ 26 25,
 gp_ 27 26 false (fa_ 2 1),
 gp_ 28 26 false (lt_ 3 27),
 gc_ 29 26 false 120 [(.tmp 28)],
 gp_ 30 26 false (no_ 29),
 pr_ 31 (po_ 26 30),
 mv_ 32 31,
 gp_ 33 32 false (fa_ 5 1),
 gp_ 34 32 false (lf_ 1 33),
 gp_ 35 32 false (.lenv (.tmp 34)),
 gp_ 36 32 false (bk_ .gtr 35 .i64 4),
 pr_ 37 (po_ 32 36)]
 (.cond (.tmp 37)
 (sq_ [pr_ 2 mf_]
 .ret)
 .skip))
 (.seq (sq_ [pr_ 3 (mi_ .i64 0)]
 (.block 0 (.loop [0,2,4,5,6,7,8,9,10,11,12,13,14,15,16,17,18,19,20,21,22,23,24,25,26,27,28,29,30,31,32,33,34,35,36,37,38,39,40,41,42,43,44,45,46,47,48,49,50,51,52,53,54,55,56,57,58,59,60,61,62,63,64,65,66,67,68,69] (.seq (sq_ [mv_ 38 3,
 pr_ 39 (fa_ 5 1),
 pr_ 40 (lf_ 1 39),
 pr_ 41 (.lenv (.tmp 40)),
 pr_ 42 (bt_ .lss 38 41)]
 (.cond (.tmp 42)
 .skip
 (.exit 0)))
 (.seq (.block 1 (.seq (.draw [⟨pr_ 45 (fa_ 5 1),[],false,0,0⟩,
 ⟨pr_ 46 (lf_ 1 45),[0],false,0,0⟩,
 ⟨mv_ 47 3,[],false,0,0⟩,
 ⟨pr_ 48 (.iadrs 1 (.tmp 46) (.tmp 47)),[0,1,2],false,0,0⟩,
 ⟨pr_ 49 (lf_ 1 48),[0,1,2,3],false,0,0⟩,
 ⟨c1_ 50 121 49,[0,1,2,3,4],true,0,0⟩,
 ⟨pr_ 51 (no_ 50),(List.range 6),false,1,1⟩,
 ⟨mv_ 52 51,(List.range 7),false,1,1⟩,
 ⟨gp_ 53 52 false (mo_ 3),(List.range 8),false,1,1⟩,
 ⟨gp_ 54 52 false (bk_ .gtr 53 .i64 0),(List.range 9),false,1,1⟩,
 ⟨gp_ 55 52 false (mo_ 54),(List.range 10),false,1,1⟩,
 ⟨gp_ 56 55 true (fa_ 5 1),(List.range 11),false,1,1⟩,
 ⟨gp_ 57 55 true (lf_ 1 56),(List.range 12),false,1,1⟩,
 ⟨gp_ 58 55 true (mo_ 3),(List.range 11),false,1,1⟩,
 ⟨gp_ 59 55 true (.iadrs 1 (.tmp 57) (.tmp 58)),(List.range 14),false,1,1⟩,
 ⟨gp_ 60 55 true (lf_ 1 59),(List.range 15),false,1,1⟩,
 ⟨gp_ 61 55 true (fa_ 5 1),(List.range 11),false,1,1⟩,
 ⟨gp_ 62 55 true (lf_ 1 61),[0,1,2,3,4,5,6,7,8,9,10,16],false,1,1⟩,
 ⟨gp_ 63 55 true (mo_ 3),(List.range 11),false,1,1⟩,
 ⟨gp_ 64 55 true (bk_ .sub 63 .i64 1),[0,1,2,3,4,5,6,7,8,9,10,18],false,1,1⟩,
 ⟨gp_ 65 55 true (.iadrs 1 (.tmp 62) (.tmp 64)),[0,1,2,3,4,5,6,7,8,9,10,16,17,18,19],false,1,1⟩,
 ⟨gp_ 66 55 true (lf_ 1 65),[0,1,2,3,4,5,6,7,8,9,10,16,17,18,19,20],false,1,1⟩,
 ⟨gp_ 67 55 true (bt_ .leq 60 66),(List.range 22),false,1,1⟩,
 ⟨gp_ 68 52 false (pa_ 55 67),(List.range 23),false,1,1⟩,
 ⟨pr_ 69 (po_ 52 68),(List.range 24),false,1,1⟩])
 (.cond (.tmp 69)
 (sq_ [pr_ 2 mf_]
 .ret)
 .skip)))
 (.ops [mv_ 43 3,
 pr_ 44 (bk_ .add 43 .i64 1),
 mv_ 3 44]))))))
 (sq_ [pr_ 2 mt_]
 .ret))))
def o67:List Tmp:=[]
def r67:List RV:=[.tmp 2]
theorem t67:Text Tryz.prog 67 o67 c67 r67 70:=.mk_ Tryz.f67 rfl
def c120:ACode :=
 (sq_ [pr_ 1 (.boxr (.tmp 0)),
 pr_ 2 mf_]
 (.seq (sq_ [pr_ 3 (fa_ 0 1),
 pr_ 4 (lf_ 1 3)]
 (.cond (.tmp 4)
 (sq_ [pr_ 5 (fa_ 1 1),
 pr_ 6 (lf_ 1 5),
 c1_ 7 48 6,
 pr_ 8 (bk_ .eql 7 .u64 0),
 mv_ 9 8,
 gp_ 10 9 true (fa_ 2 1),
 gp_ 11 9 true (lf_ 1 10),
 gc_ 12 9 true 48 [(.tmp 11)],
 gp_ 13 9 true (bk_ .eql 12 .u64 0),
 pr_ 14 (pa_ 9 13),
 mv_ 2 14]
 .ret)
 .skip))
 (sq_ [pr_ 15 (fa_ 1 1),
 pr_ 16 (lf_ 1 15),
 pr_ 17 (fa_ 2 1),
 pr_ 18 (lf_ 1 17),
 pr_ 19 (bt_ .leq 16 18),
 mv_ 2 19]
 .ret)))
def o120:List Tmp:=[]
def r120:List RV:=[.tmp 2]
theorem t120:Text Tryz.prog 120 o120 c120 r120 20:=.mk_ Tryz.f120 rfl
end Go.Proofs.YtmkmhhjkdaklbaaGreat
namespace Go.Proofs.YtmkmhhjkdaklbaaGreat
open Go Go.Ab Go.Cod
set_option maxRecDepth 100000
section
variable (σ:St)
theorem z0U (a:Nat):Ans Tryz.prog 48 [Fl a] σ (UN (bitsF a)) σ:=by
 refine Ans.of_run t48 ?_;unfold bitsF;simp -implicitDefEqProofs only[c48,r48,go_sem,z4o]
 cases nanF a with
 |true =>
  simp -implicitDefEqProofs only[go_sem];exact Fini.ret rfl
 |false =>
  simp -implicitDefEqProofs only[go_sem];refine CO.intro (z5Y σ a) ?_;simp -implicitDefEqProofs only[go_sem];exact Fini.ret rfl
theorem z25 (any:Bool) (lo hi:Nat):Ans Tryz.prog 120 [.agg [Bo any,Fl lo,Fl hi]] σ (Bo (mayB any lo hi)) σ:=by
 refine Ans.of_run t120 ?_;unfold mayB
 cases any with
 |true =>
  simp -implicitDefEqProofs only[c120,r120,go_sem];refine CO.intro (z0U σ lo) ?_
  cases h:(((bitsF lo:Nat):Int)==0) with
  |false =>
   simp -implicitDefEqProofs only[go_sem,h];exact Fini.ret rfl
  |true =>
   simp -implicitDefEqProofs only[go_sem,h];refine CO.intro (z0U σ hi) ?_;simp -implicitDefEqProofs only[go_sem,h];exact Fini.ret rfl
 |false =>
  simp -implicitDefEqProofs only[c120,r120,go_sem,zcP];exact Fini.ret rfl
structure RSm (r:RuM):Prop where
 src:∀x∈r.src,x.2.1.size≤100000
 tgt:∀x∈r.tgt,x.2.1.size≤100000
 eq:∀s∈r.eq,s.size≤100000
theorem z1I (r:RuM) (hr:RSm r):Ans Tryz.prog 67 [ruV r] σ (Bo (ruIs r)) σ:=by
 obtain⟨src,tgt,any,lo,hi,eq⟩:=r;obtain⟨hs,ht,he⟩:=hr;simp only at hs ht he;have d4:decide ((4:Int)<eq.length)=decide (4<eq.length):=decNN 4 _;refine Ans.of_run t67 ?_;unfold ruIs ruV;simp only
 cases h1:(((src.length:Nat):Int)==0) with
 |true =>
  simp -implicitDefEqProofs only[c67,r67,go_sem,z0w,h1];exact Fini.ret rfl
 |false =>
 cases h2:(((tgt.length:Nat):Int)==0) with
 |true =>
  simp -implicitDefEqProofs only[c67,r67,go_sem,z0w,h1,h2];exact Fini.ret rfl
 |false =>
 simp -implicitDefEqProofs only[c67,r67,go_sem,z0w,h1,h2];refine CO.intro (z19 σ src hs) ?_
 cases h3:listB src with
 |false =>
  simp -implicitDefEqProofs only[go_sem];exact Fini.ret rfl
 |true =>
 simp -implicitDefEqProofs only[go_sem];refine CO.intro (z19 σ tgt ht) ?_
 cases h4:listB tgt with
 |false =>
  simp -implicitDefEqProofs only[go_sem];exact Fini.ret rfl
 |true =>
 simp -implicitDefEqProofs only[go_sem];refine CO.intro (z25 σ any lo hi) ?_
 cases h5:mayB any lo hi with
 |false =>
  simp -implicitDefEqProofs only[go_sem];exact Fini.ret rfl
 |true =>
 unfold eqB;by_cases h6:eq.length≤4
 · have x4:decide (4<eq.length)=false:=decide_eq_false (by omega)
   rw[decide_eq_true h6];simp -implicitDefEqProofs only[go_sem,z0J,d4,x4];refine Go.Ab.L.scan eq.length (eqOk eq) (fun i=>mkE 70 [(1,.rp [.sl 3 (mvs3 src),.sl 3 (mvs3 tgt),Bo any,Fl lo,Fl hi,.sl 1 (txs eq)]),(3,I i)]) (fun _=>σ) ?_ ?_ rfl rfl
   · intro i hi hp J hJ;have hx:=txs_D eq i hi
     have hsz:(eq.getD i ⟨#[]⟩).size≤100000:=by
      rw[List.getD_eq_getElem?_getD,List.getElem?_eq_getElem hi];exact he _ (List.getElem_mem hi)
     have hF:eqOk eq i=false→(List.range eq.length).all (eqOk eq)=false:=fun h=>List.all_eq_false.2 ⟨i,List.mem_range.2 hi,by rw[h];decide⟩
     have hin:=wrap_succ (i:=i) (by omega)
     have d0:decide ((0:Int)<i)=decide (0<i):=by rw[Bool.eq_iff_iff];simp
     have hO:eqOk eq i=(nameB (eq.getD i ⟨#[]⟩)&& !(decide (0<i)&&leS (eq.getD i ⟨#[]⟩) (eq.getD (i-1) ⟨#[]⟩))):=rfl;rw[hO]at hJ hF;have hnm:=fun σ=>z5W σ (eq.getD i ⟨#[]⟩) hsz
     simp -implicitDefEqProofs only[mkE,go_sem,z0J,z09 hi,dec_lt hi,hx,z00]
     first|refine CD.intro (hnm _) ?_|refine CS.intro hnm ?_
     generalize eq.getD i ⟨#[]⟩=s at hJ hF hx
     cases hb:nameB s with
     |false =>
      rw[hb]at hF;rw[hF rfl];simp -implicitDefEqProofs only[go_sem];exact Fini.ret rfl
     |true =>
      rw[hb]at hJ hF;by_cases hz:i=0
      · subst hz;have hgo:=hJ rfl;simp -implicitDefEqProofs only[go_sem,d0,hin];exact hgo
      · have hpos:decide (0<i)=true:=decide_eq_true (by omega)
        have hx1:=txs_D eq (i-1) (by omega)
        have w1:IntKind.i64.wrap ((i:Int)-1)=((i-1:Nat):Int):=by rw[wrapN (by omega) (by omega)];omega
        have hlt1:(((i-1:Nat):Int)<eq.length)=True:=by simp;omega
        rw[hpos]at hJ hF;generalize eq.getD (i-1) ⟨#[]⟩=s1 at hJ hF hx1;have hle:(Op.bytesLess s.toList s1.toList||s.toList==s1.toList)=leS s s1:=rfl;simp -implicitDefEqProofs only[go_sem,d0,hpos,w1,z0J,hlt1,hx1,hx,z09 hi,hle]
        cases h7:leS s s1 with
        |true =>
         rw[h7]at hF;rw[hF rfl];simp -implicitDefEqProofs only[go_sem];exact Fini.ret rfl
        |false =>
         rw[h7]at hJ;have hgo:=hJ rfl;simp -implicitDefEqProofs only[go_sem,hin];exact hgo
   · intro hp J;have hd:decide ((eq.length:Int)<eq.length)=false:=by simp
     simp -implicitDefEqProofs only[mkE,go_sem,z0J,hd];refine Fini.ret' rfl (z1d ?_);exact(List.all_eq_true.2 fun i hi=>hp i (List.mem_range.1 hi)).symm
 · have x4:decide (4<eq.length)=true:=decide_eq_true (by omega)
   rw[decide_eq_false h6];simp -implicitDefEqProofs only[go_sem,z0J,d4,x4];exact Fini.ret rfl
end
end Go.Proofs.YtmkmhhjkdaklbaaGreat
namespace Go.Proofs.YtmkmhhjkdaklbaaGreat
open Go Go.Ab
set_option maxRecDepth 100000
def c18:ACode :=
 (sq_ [pr_ 2 (.allocm [.nils,.nils,.pl (.bool false),.pl (.float .f64 0),.pl (.float .f64 0),.nils]),
 pr_ 3 (mi_ .i64 0),
 pr_ 4 mf_]
 (sq_ [pr_ 17 (.build [.nils,.nils,.pl (.bool false),.pl (.float .f64 0),.pl (.float .f64 0),.nils] []),
 ⟨some 5,none,.fresh 6 5 (.tmp 17)⟩]
 (sq_ [pr_ 18 (.build [.nils,.nils,.pl (.bool false),.pl (.float .f64 0),.pl (.float .f64 0),.nils] []),
 pr_ 6 (.allocm [.nils,.nils,.pl (.bool false),.pl (.float .f64 0),.pl (.float .f64 0),.nils]),
 st_ (so_ 6 6 18)]
 (sq_ [mv_ 20 0,
 c1_ 21 63 20,
 mv_ 19 21,
 pr_ 22 (ex_ 0 19),
 pr_ 23 (ex_ 1 19),
 pr_ 24 (ex_ 2 19),
 mv_ 7 22,
 mv_ 8 23,
 mv_ 9 24]
 (.seq (sq_ [mv_ 25 9,
 pr_ 26 (no_ 25)]
 (.cond (.tmp 26)
 (sq_ [pr_ 27 (lt_ 6 5),
 st_ (so_ 6 2 27),
 pr_ 3 (mi_ .i64 0),
 pr_ 4 mf_]
 .ret)
 .skip))
 (sq_ [mv_ 28 7,
 pr_ 29 (fa_ 0 6),
 st_ (so_ 1 29 28)]
 (sq_ [mv_ 31 0,
 mv_ 32 8,
 pr_ 33 (.slcv 1 (.tmp 31) (some (.tmp 32)) none),
 c1_ 34 63 33,
 mv_ 30 34,
 pr_ 35 (ex_ 0 30),
 pr_ 36 (ex_ 1 30),
 pr_ 37 (ex_ 2 30),
 mv_ 7 35,
 mv_ 10 36,
 mv_ 9 37]
 (.seq (sq_ [mv_ 38 9,
 pr_ 39 (no_ 38)]
 (.cond (.tmp 39)
 (sq_ [pr_ 40 (lt_ 6 5),
 st_ (so_ 6 2 40),
 pr_ 3 (mi_ .i64 0),
 pr_ 4 mf_]
 .ret)
 .skip))
 (sq_ [mv_ 41 7,
 pr_ 42 (fa_ 1 6),
 st_ (so_ 1 42 41)]
 (sq_ [mv_ 43 8,
 mv_ 44 10,
 pr_ 45 (bt_ .add 43 44),
 mv_ 8 45]
 (sq_ [mv_ 47 0,
 mv_ 48 8,
 pr_ 49 (.slcv 1 (.tmp 47) (some (.tmp 48)) none),
 c1_ 50 64 49,
 mv_ 46 50,
 pr_ 51 (ex_ 0 46),
 pr_ 52 (ex_ 1 46),
 pr_ 53 (ex_ 2 46),
 ⟨some 11,none,.fresh 3 11 (.tmp 51)⟩,
 mv_ 10 52,
 mv_ 9 53]
 (.seq (sq_ [mv_ 54 9,
 pr_ 55 (no_ 54)]
 (.cond (.tmp 55)
 (sq_ [pr_ 56 (lt_ 6 5),
 st_ (so_ 6 2 56),
 pr_ 3 (mi_ .i64 0),
 pr_ 4 mf_]
 .ret)
 .skip))
 (sq_ [pr_ 57 (lt_ 3 11),
 pr_ 58 (fa_ 2 6),
 st_ (so_ 3 58 57)]
 (sq_ [mv_ 59 8,
 mv_ 60 10,
 pr_ 61 (bt_ .add 59 60),
 mv_ 8 61]
 (sq_ [mv_ 63 0,
 mv_ 64 8,
 pr_ 65 (.slcv 1 (.tmp 63) (some (.tmp 64)) none),
 c1_ 66 65 65,
 mv_ 62 66,
 pr_ 67 (ex_ 0 62),
 pr_ 68 (ex_ 1 62),
 pr_ 69 (ex_ 2 62),
 mv_ 12 67,
 mv_ 10 68,
 mv_ 9 69]
 (.seq (sq_ [mv_ 70 9,
 pr_ 71 (no_ 70),
 mv_ 72 71,
 gp_ 73 72 false (mo_ 12),
 gp_ 74 72 false (bk_ .gtr 73 .u64 4),
 pr_ 75 (po_ 72 74)]
 (.cond (.tmp 75)
 (sq_ [pr_ 76 (lt_ 6 5),
 st_ (so_ 6 2 76),
 pr_ 3 (mi_ .i64 0),
 pr_ 4 mf_]
 .ret)
 .skip))
 (sq_ [mv_ 77 8,
 mv_ 78 10,
 pr_ 79 (bt_ .add 77 78),
 mv_ 8 79]
 (.seq (sq_ [pr_ 13 (mi_ .i64 0)]
 (.block 0 (.loop [1,3,4,7,9,10,11,14,15,16,17,18,19,20,21,22,23,24,25,26,27,28,29,30,31,32,33,34,35,36,37,38,39,40,41,42,43,44,45,46,47,48,49,50,51,52,53,54,55,56,57,58,59,60,61,62,63,64,65,66,67,68,69,70,71,72,73,74,75,76,77,78,79,80,81,82,83,84,85,86,87,88,89,90,91,92,93,94,95,96,97,98,99,100,101,102,103,104,105,106,107,108,109,110,111] (.seq (sq_ [mv_ 80 13,
 mv_ 81 12,
 pr_ 82 (.convi .i64 (.tmp 81)),
 pr_ 83 (bt_ .lss 80 82)]
 (.cond (.tmp 83)
 .skip
 (.exit 0)))
 (.seq (.block 1 (sq_ [mv_ 87 0,
 mv_ 88 8,
 pr_ 89 (.slcv 1 (.tmp 87) (some (.tmp 88)) none),
 cl_ 90 66 [(.tmp 89),(.const (.int .i64 12))],
 mv_ 86 90,
 pr_ 91 (ex_ 0 86),
 pr_ 92 (ex_ 1 86),
 pr_ 93 (ex_ 2 86),
 mv_ 14 91,
 mv_ 15 92,
 mv_ 16 93]
 (.seq (sq_ [mv_ 94 16,
 pr_ 95 (no_ 94)]
 (.cond (.tmp 95)
 (sq_ [pr_ 96 (lt_ 6 5),
 st_ (so_ 6 2 96),
 pr_ 3 (mi_ .i64 0),
 pr_ 4 mf_]
 .ret)
 .skip))
 (sq_ [mv_ 97 8,
 mv_ 98 15,
 pr_ 99 (bt_ .add 97 98),
 mv_ 8 99]
 (.ops [pr_ 100 (fa_ 5 6),
 pr_ 101 (lf_ 1 100),
 mv_ 102 14,
 pr_ 103 (.bsl false 1 false 1 [.pl (.string .empty)] [(0,1,(.tmp 102))]),
 pr_ 104 (.app 1 (.tmp 101) (.tmp 103)),
 pr_ 105 (fa_ 5 6),
 st_ (so_ 1 105 104)])))))
 (.ops [mv_ 84 13,
 pr_ 85 (bk_ .add 84 .i64 1),
 mv_ 13 85]))))))
 (.seq (.seq (.ghost (.shutc 6 5 1) (.ops [pr_ 106 (lt_ 6 6),
 c1_ 107 67 106,
 pr_ 108 (no_ 107)]))
 (.cond (.tmp 108)
 (sq_ [pr_ 109 (lt_ 6 5),
 st_ (so_ 6 2 109),
 pr_ 3 (mi_ .i64 0),
 pr_ 4 mf_]
 .ret)
 .skip))
 (sq_ [pr_ 110 (lt_ 6 6),
 mv_ 111 8,
 st_ (so_ 6 2 110),
 mv_ 3 111,
 pr_ 4 mt_]
 .ret))))))))))))))))))))
def o18:List Tmp:=[2,6]
def r18:List RV:=[.cell 2 6 true,.tmp 3,.tmp 4]
theorem t18:Text Tryz.prog 18 o18 c18 r18 112:=.mk_ Tryz.f18 rfl
def c20:ACode :=
 (sq_ [pr_ 1 (.boxr (.tmp 0)),
 pr_ 2 (.mov (.const (.slice none 0 0)))]
 (.seq (sq_ [pr_ 5 (lt_ 6 1),
 c1_ 6 67 5,
 pr_ 7 (no_ 6)]
 (.cond (.tmp 7)
 (sq_ [pr_ 2 (.mov (.const (.slice none 0 0)))]
 (.ghost (.shut 2) .ret))
 .skip))
 (.seq (.draw [⟨pr_ 8 (fa_ 0 1),[],false,0,0⟩,
 ⟨pr_ 9 (lf_ 1 8),[0],false,0,0⟩,
 ⟨c1_ 10 73 9,[0,1],true,0,0⟩,
 ⟨pr_ 11 (fa_ 1 1),[],false,0,1⟩,
 ⟨pr_ 12 (lf_ 1 11),[3],false,0,1⟩,
 ⟨c1_ 13 73 12,[0,1,2,3,4],true,0,0⟩,
 ⟨pr_ 14 (.app 1 (.tmp 10) (.tmp 13)),(List.range 6),true,0,0⟩,
 ⟨pr_ 15 (fa_ 2 1),[],false,0,3⟩,
 ⟨pr_ 16 (lt_ 3 15),[7],false,0,3⟩,
 ⟨c1_ 17 74 16,(List.range 9),true,0,0⟩,
 ⟨pr_ 18 (.app 1 (.tmp 14) (.tmp 17)),(List.range 10),true,0,0⟩,
 ⟨mv_ 3 18,(List.range 11),false,5,5⟩])
 (sq_ [mv_ 19 3,
 pr_ 20 (fa_ 5 1),
 pr_ 21 (lf_ 1 20),
 pr_ 22 (.lenv (.tmp 21)),
 pr_ 23 (.convi .u64 (.tmp 22)),
 c1_ 24 75 23,
 pr_ 25 (.app 1 (.tmp 19) (.tmp 24)),
 mv_ 3 25]
 (.seq (sq_ [pr_ 4 (mi_ .i64 0)]
 (.block 0 (.loop [0,2,5,6,7,8,9,10,11,12,13,14,15,16,17,18,19,20,21,22,23,24,25,26,27,28,29,30,31,32,33,34,35,36,37,38,39,40,41] (.seq (sq_ [mv_ 26 4,
 pr_ 27 (fa_ 5 1),
 pr_ 28 (lf_ 1 27),
 pr_ 29 (.lenv (.tmp 28)),
 pr_ 30 (bt_ .lss 26 29)]
 (.cond (.tmp 30)
 .skip
 (.exit 0)))
 (.seq (.block 1 (.ops [mv_ 33 3,
 pr_ 34 (fa_ 5 1),
 pr_ 35 (lf_ 1 34),
 mv_ 36 4,
 pr_ 37 (.iadrs 1 (.tmp 35) (.tmp 36)),
 pr_ 38 (lf_ 1 37),
 c1_ 39 76 38,
 pr_ 40 (.app 1 (.tmp 33) (.tmp 39)),
 mv_ 3 40]))
 (.ops [mv_ 31 4,
 pr_ 32 (bk_ .add 31 .i64 1),
 mv_ 4 32]))))))
 (sq_ [mv_ 41 3,
 mv_ 2 41]
 (.ghost (.shut 2) .ret)))))))
def o20:List Tmp:=[]
def r20:List RV:=[.tmp 2]
theorem t20:Text Tryz.prog 20 o20 c20 r20 42:=.mk_ Tryz.f20 rfl
def c64:ACode :=
 (sq_ [pr_ 2 (.allocm [.pl (.bool false),.pl (.float .f64 0),.pl (.float .f64 0)]),
 pr_ 3 (mi_ .i64 0),
 pr_ 4 mf_]
 (.seq (sq_ [mv_ 14 0,
 pr_ 15 (.lenv (.tmp 14)),
 pr_ 16 (bk_ .gtr 15 .i64 0),
 mv_ 17 16,
 gp_ 18 17 true (mo_ 0),
 gp_ 19 17 true (.iadrs 1 (.tmp 18) (.const (.int .i64 0))),
 gp_ 20 17 true (lf_ 1 19),
 gp_ 21 17 true (bk_ .eql 20 .u8 1),
 pr_ 22 (pa_ 17 21)]
 (.cond (.tmp 22)
 (sq_ [pr_ 23 (.build [.pl (.bool false),.pl (.float .f64 0),.pl (.float .f64 0)] [(0,1,(.const (.bool true)))]),
 st_ (so_ 3 2 23),
 pr_ 3 (mi_ .i64 1),
 pr_ 4 mt_]
 .ret)
 .skip))
 (.seq (sq_ [mv_ 24 0,
 pr_ 25 (.lenv (.tmp 24)),
 pr_ 26 (bk_ .lss 25 .i64 17),
 mv_ 27 26,
 gp_ 28 27 false (mo_ 0),
 gp_ 29 27 false (.iadrs 1 (.tmp 28) (.const (.int .i64 0))),
 gp_ 30 27 false (lf_ 1 29),
 gp_ 31 27 false (bk_ .neq 30 .u8 0),
 pr_ 32 (po_ 27 31)]
 (.cond (.tmp 32)
 (sq_ [pr_ 33 (.build [.pl (.bool false),.pl (.float .f64 0),.pl (.float .f64 0)] []),
 st_ (so_ 3 2 33),
 pr_ 3 (mi_ .i64 0),
 pr_ 4 mf_]
 .ret)
 .skip))
 (sq_ [mv_ 35 0,
 pr_ 36 (.slcv 1 (.tmp 35) (some (.const (.int .i64 1))) none),
 c1_ 37 118 36,
 mv_ 34 37,
 pr_ 38 (ex_ 0 34),
 pr_ 39 (ex_ 1 34),
 mv_ 5 38,
 mv_ 6 39]
 (sq_ [mv_ 41 0,
 pr_ 42 (.slcv 1 (.tmp 41) (some (.const (.int .i64 9))) none),
 c1_ 43 118 42,
 mv_ 40 43,
 pr_ 44 (ex_ 0 40),
 pr_ 45 (ex_ 1 40),
 mv_ 7 44,
 mv_ 8 45]
 (sq_ [mv_ 47 5,
 c1_ 48 119 47,
 mv_ 46 48,
 pr_ 49 (ex_ 0 46),
 pr_ 50 (ex_ 1 46),
 mv_ 9 49,
 mv_ 10 50]
 (sq_ [mv_ 52 7,
 c1_ 53 119 52,
 mv_ 51 53,
 pr_ 54 (ex_ 0 51),
 pr_ 55 (ex_ 1 51),
 mv_ 11 54,
 mv_ 12 55]
 (sq_ [mv_ 56 9,
 mv_ 57 11,
 pr_ 58 (.build [.pl (.bool false),.pl (.float .f64 0),.pl (.float .f64 0)] [(1,1,(.tmp 56)),(2,1,(.tmp 57))]),
 ⟨some 13,none,.fresh 3 13 (.tmp 58)⟩]
 (.seq (sq_ [mv_ 59 10,
 pr_ 60 (no_ 59),
 mv_ 61 60,
 gp_ 62 61 false (mo_ 12),
 gp_ 63 61 false (no_ 62),
 pr_ 64 (po_ 61 63),
 mv_ 65 64,
 gp_ 66 65 false (lt_ 3 13),
 gc_ 67 65 false 120 [(.tmp 66)],
 gp_ 68 65 false (no_ 67),
 pr_ 69 (po_ 65 68)]
 (.cond (.tmp 69)
 (sq_ [pr_ 70 (.build [.pl (.bool false),.pl (.float .f64 0),.pl (.float .f64 0)] []),
 st_ (so_ 3 2 70),
 pr_ 3 (mi_ .i64 0),
 pr_ 4 mf_]
 .ret)
 .skip))
 (sq_ [pr_ 71 (lt_ 3 13),
 st_ (so_ 3 2 71),
 pr_ 3 (mi_ .i64 17),
 pr_ 4 mt_]
 .ret))))))))))
def o64:List Tmp:=[2]
def r64:List RV:=[.cell 2 3 true,.tmp 3,.tmp 4]
theorem t64:Text Tryz.prog 64 o64 c64 r64 72:=.mk_ Tryz.f64 rfl
def c74:ACode :=
 (sq_ [pr_ 1 (.boxr (.tmp 0)),
 pr_ 2 (.mov (.const (.slice none 0 0)))]
 (.seq (sq_ [pr_ 3 (fa_ 0 1),
 pr_ 4 (lf_ 1 3)]
 (.cond (.tmp 4)
 (sq_ [pr_ 5 (.bsl false 1 false 1 [.pl (.int .u8 0)] [(0,1,(.const (.int .u8 1)))]),
 mv_ 2 5]
 (.ghost (.shut 2) .ret))
 .skip))
 (.seq (.draw [⟨pr_ 6 (.bsl true 1 false 1 [.pl (.int .u8 0)] [(0,1,(.const (.int .u8 0)))]),[],true,0,0⟩,
 ⟨pr_ 7 (fa_ 1 1),[],false,0,1⟩,
 ⟨pr_ 8 (lf_ 1 7),[1],false,0,1⟩,
 ⟨c1_ 9 48 8,[1,2],false,0,1⟩,
 ⟨c1_ 10 97 9,[1,2,3],false,0,1⟩,
 ⟨pr_ 11 (.app 1 (.tmp 6) (.tmp 10)),[0,1,2,3,4],true,0,0⟩,
 ⟨pr_ 12 (fa_ 2 1),[],false,0,2⟩,
 ⟨pr_ 13 (lf_ 1 12),[6],false,0,2⟩,
 ⟨c1_ 14 48 13,(List.range 8),true,0,0⟩,
 ⟨c1_ 15 97 14,(List.range 9),true,0,0⟩,
 ⟨pr_ 16 (.app 1 (.tmp 11) (.tmp 15)),(List.range 10),true,0,0⟩,
 ⟨mv_ 2 16,(List.range 11),false,5,5⟩])
 (.ghost (.shut 2) .ret))))
def o74:List Tmp:=[6]
def r74:List RV:=[.tmp 2]
theorem t74:Text Tryz.prog 74 o74 c74 r74 17:=.mk_ Tryz.f74 rfl
def c97:ACode :=
 (sq_ [pr_ 2 (.mov (.const (.slice none 0 0)))]
 (sq_ [pr_ 5 (.mks 1 false [.pl (.int .u8 0)] (.const (.int .i64 8)) (.const (.int .i64 8))),
 mv_ 3 5]
 (.seq (sq_ [pr_ 4 (mi_ .i64 0)]
 (.block 0 (.loop [1,2,5,6,7,8,9,10,11,12,13,14,15,16,17,18,19,20] (.seq (sq_ [mv_ 6 4,
 pr_ 7 (bk_ .lss 6 .i64 8)]
 (.cond (.tmp 7)
 .skip
 (.exit 0)))
 (.seq (.block 1 (.ops [mv_ 10 3,
 mv_ 11 4,
 mv_ 12 0,
 mv_ 13 4,
 pr_ 14 (.bin false .mul (.const (.int .i64 8)) (.tmp 13)),
 pr_ 15 (.bin false .sub (.const (.int .i64 56)) (.tmp 14)),
 pr_ 16 (.convi .u64 (.tmp 15)),
 pr_ 17 (bt_ .shr 12 16),
 pr_ 18 (.convi .u8 (.tmp 17)),
 pr_ 19 (.iadrs 1 (.tmp 10) (.tmp 11)),
 st_ (so_ 1 19 18)]))
 (.ops [mv_ 8 4,
 pr_ 9 (bk_ .add 8 .i64 1),
 mv_ 4 9]))))))
 (sq_ [mv_ 20 3,
 mv_ 2 20]
 (.ghost (.shut 2) .ret)))))
def o97:List Tmp:=[]
def r97:List RV:=[.tmp 2]
theorem t97:Text Tryz.prog 97 o97 c97 r97 21:=.mk_ Tryz.f97 rfl
def c118:ACode :=
 (sq_ [pr_ 2 (mi_ .u64 0),
 pr_ 3 mf_]
 (.seq (sq_ [mv_ 6 0,
 pr_ 7 (.lenv (.tmp 6)),
 pr_ 8 (bk_ .lss 7 .i64 8)]
 (.cond (.tmp 8)
 (sq_ [pr_ 2 (mi_ .u64 0),
 pr_ 3 mf_]
 .ret)
 .skip))
 (sq_ [pr_ 4 (mi_ .u64 0)]
 (.seq (sq_ [pr_ 5 (mi_ .i64 0)]
 (.block 0 (.loop [1,2,3,6,7,8,9,10,11,12,13,14,15,16,17,18,19,20,21] (.seq (sq_ [mv_ 9 5,
 pr_ 10 (bk_ .lss 9 .i64 8)]
 (.cond (.tmp 10)
 .skip
 (.exit 0)))
 (.seq (.block 1 (.ops [mv_ 13 4,
 pr_ 14 (bk_ .shl 13 .u64 8),
 mv_ 15 0,
 mv_ 16 5,
 pr_ 17 (.iadrs 1 (.tmp 15) (.tmp 16)),
 pr_ 18 (lf_ 1 17),
 pr_ 19 (.convi .u64 (.tmp 18)),
 pr_ 20 (bt_ .or 14 19),
 mv_ 4 20]))
 (.ops [mv_ 11 5,
 pr_ 12 (bk_ .add 11 .i64 1),
 mv_ 5 12]))))))
 (sq_ [mv_ 21 4,
 mv_ 2 21,
 pr_ 3 mt_]
 .ret)))))
def o118:List Tmp:=[]
def r118:List RV:=[.tmp 2,.tmp 3]
theorem t118:Text Tryz.prog 118 o118 c118 r118 22:=.mk_ Tryz.f118 rfl
def c119:ACode :=
 (sq_ [pr_ 2 (.mov (.const (.float Go.FloatKind.f64 0))),
 pr_ 3 mf_]
 (sq_ [mv_ 5 0,
 c1_ 6 151 5,
 mv_ 4 6]
 (.seq (sq_ [mv_ 7 4,
 mv_ 8 4,
 pr_ 9 (bt_ .neq 7 8),
 mv_ 10 9,
 gp_ 11 10 true (mo_ 0),
 gp_ 12 10 true (bk_ .neq 11 .u64 9221120237041090561),
 pr_ 13 (pa_ 10 12)]
 (.cond (.tmp 13)
 (sq_ [pr_ 2 (.mov (.const (.float Go.FloatKind.f64 0))),
 pr_ 3 mf_]
 .ret)
 .skip))
 (sq_ [mv_ 14 4,
 mv_ 2 14,
 pr_ 3 mt_]
 .ret))))
def o119:List Tmp:=[]
def r119:List RV:=[.tmp 2,.tmp 3]
theorem t119:Text Tryz.prog 119 o119 c119 r119 15:=.mk_ Tryz.f119 rfl
end Go.Proofs.YtmkmhhjkdaklbaaGreat
namespace Go.Proofs.YtmkmhhjkdaklbaaGreat
open Go Go.Ab Go.Cod
set_option maxRecDepth 100000
theorem zgM (u:Nat):okV u= !(nanF u&&((u:Int) != 9221120237041090561)):=by
 unfold okV bitsF
 cases nanF u with
 |false=>simp
 |true =>
  rw[Bool.eq_iff_iff];simp only[decide_eq_true_eq,if_true,Bool.true_and,bne,Bool.not_not,beq_iff_eq];omega
theorem val2 (t:Byt):seqR valR valR t=if 16≤t.length then(if okV (wN (t.take 8))&&okV (wN ((t.drop 8).take 8)) then some ((wN (t.take 8),wN ((t.drop 8).take 8)),t.drop 16) else none) else none:=by
 simp only[seqR,valR,onlyR,z3J,List.length_drop];by_cases h:8≤t.length
 · rw[if_pos h];simp only[Option.bind_some]
   cases okV (wN (t.take 8)) with
   |false=>simp
   |true =>
    simp only[if_true,Option.bind_some,Bool.true_and];rw[List.length_drop];by_cases h2:16≤t.length
    · rw[if_pos (by omega),if_pos h2]
      simp only[Option.bind_some]
      cases okV (wN ((t.drop 8).take 8)) with
      |false=>simp
      |true=>simp
    · rw[if_neg (by omega),if_neg h2];rfl
 · rw[if_neg h,if_neg (by omega)];rfl
section
variable (σ:St)
theorem z3D (n:Nat):Ans Tryz.prog 97 [UN n] σ (.sl 1 (byv (wrdB n))) σ:=by
 refine Ans.of_run' t97 (fun hbel _=>?_)
 have z8:Int.toNat 8=8:=rfl;simp -implicitDefEqProofs only[c97,r97,go_sem,mks8,z8,g0,s0,List.length_cons,List.length_nil];refine Go.Ab.L.count 8 (fun i=>mkE 21 [(0,UN n),(3,.osl σ.length 8),(4,I i)]) (fun i=>σ++[.row 1 (fillW n i)]) ?_ ?_ rfl rfl
 · intro i hi J hJ;have hl:=z8C n i (by omega)
   have d0:decide ((i:Int)<8)=true:=by simp;omega
   have w1:IntKind.i64.wrap (8*(i:Int))=((8*i:Nat):Int):=by rw[wrapN (by omega) (by omega)];push_cast;rfl
   have w2:IntKind.i64.wrap (56-((8*i:Nat):Int))=((56-8*i:Nat):Int):=by rw[wrapN (by omega) (by omega)];omega
   have w3:=z1k (n:=56-8*i) (by omega)
   have h3:=shrN n (56-8*i) (by omega)
   rw[Int.toNat_natCast]at h3;have hlt:((i:Int)<((8:Nat):Int))=True:=eq_true (by omega)
   have hget:(fillW n i)[i]?=some Zb:=zcX n i hi;have hin:=wrap_succ (i:=i) (by omega)
   have hset:(fillW n i).set i (.pl (.int .u8 ((n/2^(56-8*i)).toUInt8.toNat:Nat)))=fillW n (i+1):=zcW n i hi;simp -implicitDefEqProofs only[mkE,go_sem,d0,w1,w2,w3,h3,zhH,g0,s0,hl,hin,hset,hlt,hget];exact hJ
 · intro J;have hl:=z8C n 8 (by omega)
   have d0:decide (((8:Nat):Int)<8)=false:=by decide
   have e8:fillW n 8=byv (wrdB n):=by unfold fillW;rw[List.take_of_length_le (by rw[z01,z2f];omega)];simp
   simp -implicitDefEqProofs only[mkE,go_sem,d0,g0,s0,hl,e8];exact Fini.trim2 (σ':=σ) rfl rfl (Nat.le_refl _) (z1Q _ _) hbel
theorem z2R (b:Byt) (hb:b.length≤100000):Ans Tryz.prog 118 [.sl 1 (byv b)] σ (wordV b) σ:=by
 refine Ans.of_run t118 ?_;unfold wordV;rw[z3J];by_cases h8:8≤b.length
 · have d0:decide ((b.length:Int)<8)=false:=by simp;omega
   have z8:Int.toNat 8=8:=rfl;rw[if_pos h8];simp only;simp -implicitDefEqProofs only[c118,r118,go_sem,z01,d0];refine Go.Ab.L.count 8 (fun i=>mkE 22 [(0,.sl 1 (byv b)),(4,UN (wN (b.take i))),(5,I i)]) (fun _=>σ) ?_ ?_ rfl rfl
   · intro i hi J hJ;have hib:i<b.length:=by omega
     have hx:=z5z b i hib;have hs:b.take (i+1)=b.take i++[b[i]]:=List.take_succ_eq_append_getElem hib;rw[hs,zcY]at hJ;have hl:=wN_lt (b.take i);rw[List.length_take]at hl;have hl:wN (b.take i)<2^56:=Nat.lt_of_lt_of_le hl (Nat.pow_le_pow_right (by decide) (by omega))
     have hc:=(b[i]).toNat_lt;generalize b[i]=c at hx hJ hc;generalize wN (b.take i)=w at hl hJ⊢;have hor:=zfQ w c.toNat hc hl;have hwc:=z1k (n:=c.toNat) (by omega)
     have d1:decide ((i:Int)<8)=true:=by simp;omega
     have hin:=wrap_succ (i:=i) (by omega)
     simp -implicitDefEqProofs only[mkE,go_sem,d1,z01,z09 hib,hx,bc,hwc,z8,hin]
     have key:∀v:Int,v=((w*256+c.toNat:Nat):Int)→J (mkE 22 [(0,.sl 1 (byv b)),(4,.pl (.int .u64 v)),(5,I ((i+1:Nat):Int))]) σ:=by
      rintro _ rfl;exact hJ
     exact key _ hor
   · intro J;have d1:decide (((8:Nat):Int)<8)=false:=by decide
     simp -implicitDefEqProofs only[mkE,go_sem,d1];exact Fini.ret rfl
 · have d0:decide ((b.length:Int)<8)=true:=by simp;omega
   rw[if_neg h8];simp -implicitDefEqProofs only[c118,r118,go_sem,z01,d0];exact Fini.ret rfl
theorem z4q (u:Nat):Ans Tryz.prog 119 [UN u] σ (.tup [Fl (if okV u then u else 0),Bo (okV u)]) σ:=by
 have e:=zgM u;refine Ans.of_run t119 ?_;simp -implicitDefEqProofs only[c119,r119,go_sem];refine CO.intro (z4V σ u) ?_;simp -implicitDefEqProofs only[go_sem,z4o]
 cases h:nanF u with
 |false =>
  rw[h]at e;have e:okV u=true:=e;simp -implicitDefEqProofs only[go_sem,e];exact Fini.ret rfl
 |true =>
  rw[h]at e
  cases h2:((u:Int) != 9221120237041090561) with
  |true =>
   rw[h2]at e;have e:okV u=false:=e;simp -implicitDefEqProofs only[go_sem,h2,e];exact Fini.ret rfl
  |false =>
   rw[h2]at e;have e:okV u=true:=e;simp -implicitDefEqProofs only[go_sem,h2,e];exact Fini.ret rfl
theorem z3O (x:Bnd):Ans Tryz.prog 74 [bandV x] σ (.sl 1 (byv (putBd x))) σ:=by
 obtain⟨any,lo,hi⟩:=x;refine Ans.of_run' t74 (fun hbel _=>?_)
 unfold bandV putBd
 cases any with
 |true =>
  simp -implicitDefEqProofs only[c74,r74,go_sem];exact Fini.ret rfl
 |false =>
  have i1:=fun s=>z0U s lo
  have i2:=fun s=>z0U s hi
  have i3:=fun s=>z3D s (bitsF lo)
  have i4:=fun s=>z3D s (bitsF hi)
  have l1:(wrdB (bitsF lo)).length=8:=rfl;have l2:(wrdB (bitsF hi)).length=8:=rfl;unfold putV;generalize wrdB (bitsF lo)=a at i3 l1⊢;generalize wrdB (bitsF hi)=c at i4 l2⊢;have p1:(1+8≤2^32)=True:=eq_true (by decide)
  have p2:(1+8+8≤2^32)=True:=eq_true (by decide)
  simp -implicitDefEqProofs only[c74,r74,go_sem,z00]
  first|refine CD.intro (i1 _) ?_|refine CS.intro i1 ?_
  simp -implicitDefEqProofs only[go_sem,z00]
  first|refine CD.intro (i3 _) ?_|refine CS.intro i3 ?_
  simp -implicitDefEqProofs only[go_sem,z00,g0,s0,z01,z0l,bc,l1,p1,List.length_cons,List.length_nil,List.length_append]
  first|refine CD.intro (i2 _) ?_|refine CS.intro i2 ?_
  simp -implicitDefEqProofs only[go_sem,z00]
  first|refine CD.intro (i4 _) ?_|refine CS.intro i4 ?_
  simp -implicitDefEqProofs only[go_sem,z00,g0,s0,z01,z0l,bc,l1,l2,p2,List.length_cons,List.length_nil,List.length_append];exact Fini.trim2 (σ':=σ) (ex:=[_]) (by rw[z57,z0r];rfl) rfl (Nat.le_refl _) (z1Q _ _) hbel
theorem z3p (b:Byt) (hb:b.length≤50000):Ans Tryz.prog 64 [.sl 1 (byv b)] σ (readV (bandR b) b bandV (bandV (false,0,0))) σ:=by
 have z0:Int.toNat 0=0:=rfl;have key:∀(any:Bool) (lo hi:Nat),Bel σ.length (.agg [Bo any,Fl lo,Fl hi]):=fun any lo hi=>z1G _ (any,lo,hi)
 obtain hbt|⟨c,t,hbt⟩:b=[]∨∃c t,b=c::t:=by
  cases b with
  |nil=>exact .inl rfl
  |cons c t=>exact .inr ⟨c,t,rfl⟩
 · have e:bandR b=none:=by rw[hbt];rfl
   rw[z0G e];refine Ans.of_run' t64 (fun hbel _=>?_)
   unfold bandV;have d0:decide ((0:Int)<(b.length:Nat))=false:=by rw[hbt];decide
   have d1:decide ((b.length:Int)<17)=true:=by rw[hbt];decide
   simp -implicitDefEqProofs only[c64,r64,go_sem,z01,d0,d1,g0,s0];exact tr_ (σ':=σ) (ex:=[_]) rfl (z0b (key _ _ _)) hbel
 · have hbl:b.length=t.length+1:=by rw[hbt];rfl
   have d0:decide ((0:Int)<(b.length:Nat))=true:=by simp;omega
   have hpos:((0:Int)<(b.length:Nat))=True:=eq_true (by omega)
   have hx:(byv b)[0]?=some (bc c):=by rw[hbt];rfl
   by_cases h1:c=1
   · subst h1
     have e:bandR b=some ((true,0,0),t):=by
      rw[hbt];have:mayB true 0 0=true:=by decide +kernel
      simp[bandR,onlyR,bnd0,this]
     have en:b.length-t.length=1:=by omega
     have e1:((((1:UInt8).toNat:Nat):Int)==1)=true:=rfl;rw[z0M e,en];refine Ans.of_run' t64 (fun hbel _=>?_)
     unfold bandV;simp -implicitDefEqProofs only[c64,r64,go_sem,z01,z0,d0,hpos,hx,bc,e1,g0,s0];exact tr_ (σ':=σ) (ex:=[_]) rfl (z0b (key _ _ _)) hbel
   · have e1:(((c.toNat:Nat):Int)==1)=false:=by
      rw[Bool.eq_false_iff];intro h;rw[beq_iff_eq]at h;exact h1 (UInt8.toNat_inj.1 (by rw[show(1:UInt8).toNat=1 from rfl];omega))
     by_cases h17:t.length<16
     · have d1:decide ((b.length:Int)<17)=true:=by simp;omega
       have e:bandR b=none:=by
        rw[hbt];simp only[bandR,onlyR,bnd0,val2,if_neg (show ¬16≤t.length by omega),h1,if_false,Option.map_none]
        split<;>rfl
       rw[z0G e];refine Ans.of_run' t64 (fun hbel _=>?_)
       unfold bandV;simp -implicitDefEqProofs only[c64,r64,go_sem,z01,z0,d0,d1,hpos,hx,bc,e1,g0,s0];exact tr_ (σ':=σ) (ex:=[_]) rfl (z0b (key _ _ _)) hbel
     · have d1:decide ((b.length:Int)<17)=false:=by simp;omega
       by_cases h0:c=0
       · subst h0;have en:((((0:UInt8).toNat:Nat):Int) != 0)=false:=rfl;have l1:((1:Int)≤(b.length:Nat))=True:=eq_true (by omega)
         have l9:((9:Int)≤(b.length:Nat))=True:=eq_true (by omega)
         have z1:Int.toNat 1=1:=rfl;have z9:Int.toNat 9=9:=rfl;have e9:b.drop 9=t.drop 8:=by rw[hbt];rfl
         have ez:b.drop 1=t:=by rw[hbt];rfl
         have w1:=fun s=>z2R s t (by omega)
         have w2:=fun s=>z2R s (t.drop 8) (by rw[List.length_drop];omega)
         have x1:wordR t=some (wN (t.take 8),t.drop 8):=by rw[z3J,if_pos (by omega)]
         have x2:wordR (t.drop 8)=some (wN ((t.drop 8).take 8),(t.drop 8).drop 8):=by rw[z3J,if_pos (by rw[List.length_drop];omega)]
         unfold wordV at w1 w2;rw[x1]at w1;rw[x2]at w2
         have hB:bandR b=(if okV (wN (t.take 8))&&okV (wN ((t.drop 8).take 8)) then some ((wN (t.take 8),wN ((t.drop 8).take 8)),t.drop 16) else none).bind fun x=>if mayB false x.1.1 x.1.2 then some ((false,x.1.1,x.1.2),x.2) else none:=by
          rw[hbt];simp only[bandR,onlyR,bnd0,val2,if_pos (show 16≤t.length by omega),if_true]
          split
          · rfl
          · rfl
         have hlen:b.length-(t.drop 16).length=17:=by rw[List.length_drop];omega
         generalize wN (t.take 8)=u at w1 hB;generalize wN ((t.drop 8).take 8)=v at w2 hB;have f1:=fun s=>z4q s u
         have f2:=fun s=>z4q s v
         refine Ans.of_run' t64 (fun hbel _=>?_)
         unfold bandV;simp -implicitDefEqProofs only[c64,r64,go_sem,z01,z0,d0,d1,hpos,hx,bc,e1,en,l1,l9,z1,z9,z0D,z0E,e9,ez,List.take_length,Int.le_refl,g0,s0];refine CO.intro (w1 _) ?_;simp -implicitDefEqProofs only[go_sem,z01,l1,l9,z1,z9,z0D,z0E,e9,ez,List.take_length,Int.le_refl];refine CO.intro (w2 _) ?_;simp -implicitDefEqProofs only[go_sem];refine CO.intro (f1 _) ?_;simp -implicitDefEqProofs only[go_sem];refine CO.intro (f2 _) ?_;simp -implicitDefEqProofs only[go_sem];have m1:=fun s=>z25 s false u v
         cases ho:okV u with
         |false =>
          rw[ho]at hB;have hB:bandR b=none:=hB;rw[z0G hB];simp -implicitDefEqProofs only[go_sem,g0,s0];exact tr_ (σ':=σ) (ex:=[_]) rfl (z0b (key _ _ _)) hbel
         |true =>
          cases hp:okV v with
          |false =>
           rw[ho,hp]at hB;have hB:bandR b=none:=hB;rw[z0G hB];simp -implicitDefEqProofs only[go_sem,g0,s0];exact tr_ (σ':=σ) (ex:=[_]) rfl (z0b (key _ _ _)) hbel
          |true =>
           rw[ho,hp]at hB;have hB:bandR b=if mayB false u v then some ((false,u,v),t.drop 16) else none:=hB
           simp -implicitDefEqProofs only[go_sem,if_true];refine CO.intro (m1 _) ?_
           cases hm:mayB false u v with
           |false =>
            rw[hm]at hB;have hB:bandR b=none:=hB;rw[z0G hB];simp -implicitDefEqProofs only[go_sem,g0,s0];exact tr_ (σ':=σ) (ex:=[_]) rfl (z0b (key _ _ _)) hbel
           |true =>
            rw[hm]at hB;have hB:bandR b=some ((false,u,v),t.drop 16):=hB;rw[z0M hB,hlen];simp -implicitDefEqProofs only[go_sem,g0,s0];exact tr_ (σ':=σ) (ex:=[_]) rfl (z0b (key _ _ _)) hbel
       · have e0:(((c.toNat:Nat):Int) != 0)=true:=by
          rw[bne,Bool.not_eq_true',Bool.eq_false_iff];intro h;rw[beq_iff_eq]at h;exact h0 (UInt8.toNat_inj.1 (by rw[show(0:UInt8).toNat=0 from rfl];omega))
         have e:bandR b=none:=by rw[hbt];simp only[bandR,onlyR,bnd0,h0,h1,if_false,Option.bind_none]
         rw[z0G e];refine Ans.of_run' t64 (fun hbel _=>?_)
         unfold bandV;simp -implicitDefEqProofs only[c64,r64,go_sem,z01,z0,d0,d1,hpos,hx,bc,e1,e0,g0,s0];exact tr_ (σ':=σ) (ex:=[_]) rfl (z0b (key _ _ _)) hbel
end
end Go.Proofs.YtmkmhhjkdaklbaaGreat
namespace Go.Proofs.YtmkmhhjkdaklbaaGreat
open Go Go.Ab
set_option maxRecDepth 100000
def c38:ACode :=
 (sq_ [pr_ 1 (.boxr (.tmp 0)),
 pr_ 2 (.mov (.const (.slice none 0 0)))]
 (.seq (sq_ [pr_ 6 (lt_ 19 1),
 c1_ 7 89 6,
 pr_ 8 (no_ 7)]
 (.cond (.tmp 8)
 (sq_ [pr_ 2 (.mov (.const (.slice none 0 0)))]
 (.ghost (.shut 2) .ret))
 .skip))
 (sq_ [pr_ 9 (fa_ 1 1),
 pr_ 10 (lf_ 1 9),
 c1_ 11 95 10,
 mv_ 3 11]
 (sq_ [pr_ 12 (fa_ 1 1),
 pr_ 13 (lf_ 1 12),
 pr_ 14 (.convi .u8 (.tmp 13)),
 pr_ 15 (.bsl true 1 false 1 [.pl (.int .u8 0)] [(0,1,(.tmp 14))]),
 mv_ 4 15]
 (.seq (sq_ [pr_ 5 (mi_ .i64 0)]
 (.block 0 (.loop [0,2,6,7,8,9,10,11,12,13,14,15,16,17,18,19,20,21,22,23,24,25,26,27,28,29,30,31,32,33,34,35,36,37,38,39,40,41,42,43,44,45,46,47,48,49,50,51,52,53,54,55,56,57,58,59,60,61,62,63,64,65,66,67,68,69,70,71,72,73,74,75,76,77,78,79,80,81,82,83,84,85,86,87,88,89,90,91,92,93,94,95,96,97,98] (.seq (sq_ [mv_ 16 5,
 mv_ 17 3,
 pr_ 18 (.lens (.tmp 17)),
 pr_ 19 (bt_ .lss 16 18)]
 (.cond (.tmp 19)
 .skip
 (.exit 0)))
 (.seq (.block 1 (sq_ [mv_ 22 3,
 mv_ 23 5,
 pr_ 24 (.idxs (.tmp 22) (.tmp 23))]
 (.block 2 (sq_ [pr_ 26 (bk_ .eql 24 .u8 73),
 mv_ 25 26]
 (.cond (.tmp 25)
 (.ops [mv_ 27 4,
 pr_ 28 (fa_ 2 1),
 pr_ 29 (lf_ 1 28),
 pr_ 30 (.convi .u64 (.tmp 29)),
 c1_ 31 75 30,
 pr_ 32 (.app 1 (.tmp 27) (.tmp 31)),
 mv_ 4 32])
 (sq_ [pr_ 34 (bk_ .eql 24 .u8 84),
 mv_ 33 34]
 (.cond (.tmp 33)
 (.ops [mv_ 35 4,
 pr_ 36 (fa_ 3 1),
 pr_ 37 (lf_ 1 36),
 c1_ 38 76 37,
 pr_ 39 (.app 1 (.tmp 35) (.tmp 38)),
 mv_ 4 39])
 (sq_ [pr_ 41 (bk_ .eql 24 .u8 83),
 mv_ 40 41]
 (.cond (.tmp 40)
 (.ops [mv_ 42 4,
 pr_ 43 (fa_ 4 1),
 pr_ 44 (lf_ 1 43),
 c1_ 45 75 44,
 pr_ 46 (.app 1 (.tmp 42) (.tmp 45)),
 mv_ 4 46])
 (sq_ [pr_ 48 (bk_ .eql 24 .u8 69),
 mv_ 47 48]
 (.cond (.tmp 47)
 (.ops [mv_ 49 4,
 pr_ 50 (fa_ 5 1),
 pr_ 51 (lf_ 1 50),
 c1_ 52 75 51,
 pr_ 53 (.app 1 (.tmp 49) (.tmp 52)),
 mv_ 4 53])
 (sq_ [pr_ 55 (bk_ .eql 24 .u8 90),
 mv_ 54 55]
 (.cond (.tmp 54)
 (.ops [mv_ 56 4,
 pr_ 57 (fa_ 6 1),
 pr_ 58 (lf_ 1 57),
 pr_ 59 (.convi .u8 (.tmp 58)),
 pr_ 60 (.bsl false 1 false 1 [.pl (.int .u8 0)] [(0,1,(.tmp 59))]),
 pr_ 61 (.app 1 (.tmp 56) (.tmp 60)),
 mv_ 4 61])
 (sq_ [pr_ 63 (bk_ .eql 24 .u8 77),
 mv_ 62 63]
 (.cond (.tmp 62)
 (.ops [mv_ 64 4,
 pr_ 65 (fa_ 7 1),
 pr_ 66 (lf_ 1 65),
 c1_ 67 73 66,
 pr_ 68 (.app 1 (.tmp 64) (.tmp 67)),
 mv_ 4 68])
 (sq_ [pr_ 70 (bk_ .eql 24 .u8 66),
 mv_ 69 70]
 (.cond (.tmp 69)
 (.ops [mv_ 71 4,
 pr_ 72 (fa_ 8 1),
 pr_ 73 (lt_ 3 72),
 c1_ 74 74 73,
 pr_ 75 (.app 1 (.tmp 71) (.tmp 74)),
 mv_ 4 75])
 (sq_ [pr_ 77 (bk_ .eql 24 .u8 82),
 mv_ 76 77]
 (.cond (.tmp 76)
 (.ops [mv_ 78 4,
 pr_ 79 (fa_ 11 1),
 pr_ 80 (lt_ 6 79),
 c1_ 81 20 80,
 pr_ 82 (.app 1 (.tmp 78) (.tmp 81)),
 mv_ 4 82])
 (sq_ [pr_ 84 (bk_ .eql 24 .u8 76),
 mv_ 83 84]
 (.cond (.tmp 83)
 (.ops [mv_ 85 4,
 pr_ 86 (fa_ 17 1),
 pr_ 87 (lf_ 1 86),
 c1_ 88 96 87,
 pr_ 89 (.app 1 (.tmp 85) (.tmp 88)),
 mv_ 4 89])
 (sq_ [pr_ 91 (bk_ .eql 24 .u8 86),
 mv_ 90 91]
 (.cond (.tmp 90)
 (.ops [mv_ 92 4,
 pr_ 93 (fa_ 18 1),
 pr_ 94 (lf_ 1 93),
 c1_ 95 48 94,
 c1_ 96 97 95,
 pr_ 97 (.app 1 (.tmp 92) (.tmp 96)),
 mv_ 4 97])
 .skip)))))))))))))))))))))))
 (.ops [mv_ 20 5,
 pr_ 21 (bk_ .add 20 .i64 1),
 mv_ 5 21]))))))
 (sq_ [mv_ 98 4,
 mv_ 2 98]
 (.ghost (.shut 2) .ret)))))))
def o38:List Tmp:=[15]
def r38:List RV:=[.tmp 2]
theorem t38:Text Tryz.prog 38 o38 c38 r38 99:=.mk_ Tryz.f38 rfl
def c46:ACode :=
 (sq_ [pr_ 2 (.allocm z19_),
 pr_ 3 mf_]
 (.seq (sq_ [mv_ 10 0,
 pr_ 11 (.lenv (.tmp 10)),
 pr_ 12 (bk_ .eql 11 .i64 0)]
 (.cond (.tmp 12)
 (sq_ [pr_ 13 (.build z19_ []),
 st_ (so_ 19 2 13),
 pr_ 3 mf_]
 .ret)
 .skip))
 (sq_ [mv_ 14 0,
 pr_ 15 (.iadrs 1 (.tmp 14) (.const (.int .i64 0))),
 pr_ 16 (lf_ 1 15),
 pr_ 17 (.convi .i64 (.tmp 16)),
 pr_ 18 (.build z19_ [(1,1,(.tmp 17))]),
 pr_ 4 (.allocm z19_),
 st_ (so_ 19 4 18)]
 (sq_ [pr_ 19 (fa_ 1 4),
 pr_ 20 (lf_ 1 19),
 c1_ 21 95 20,
 mv_ 5 21]
 (sq_ [pr_ 6 (mi_ .i64 1)]
 (.seq (sq_ [pr_ 7 (mi_ .i64 0)]
 (.block 0 (.loop [1,3,8,9,10,11,12,13,14,15,16,17,18,19,20,21,22,23,24,25,26,27,28,29,30,31,32,33,34,35,36,37,38,39,40,41,42,43,44,45,46,47,48,49,50,51,52,53,54,55,56,57,58] (.seq (sq_ [mv_ 22 7,
 mv_ 23 5,
 pr_ 24 (.lens (.tmp 23)),
 pr_ 25 (bt_ .lss 22 24),
 mv_ 26 25,
 gp_ 27 26 true (mo_ 5),
 gp_ 28 26 true (.bin false .neq (.tmp 27) (.const (.string (ByteArray.mk #[45])))),
 pr_ 29 (pa_ 26 28)]
 (.cond (.tmp 29)
 .skip
 (.exit 0)))
 (.seq (.block 1 (.seq (.draw [⟨mv_ 33 5,[],false,0,0⟩,
 ⟨mv_ 34 7,[],false,0,0⟩,
 ⟨pr_ 35 (.idxs (.tmp 33) (.tmp 34)),[0,1],false,0,0⟩,
 ⟨mv_ 36 0,[],false,0,0⟩,
 ⟨mv_ 37 6,[],false,0,0⟩,
 ⟨pr_ 38 (.slcv 1 (.tmp 36) (some (.tmp 37)) none),[3,4],false,0,0⟩,
 ⟨cl_ 39 105 [(.tmp 4),(.tmp 35),(.tmp 38)],(List.range 6),true,0,0⟩,
 ⟨mv_ 32 39,(List.range 7),false,1,1⟩,
 ⟨pr_ 40 (ex_ 0 32),(List.range 8),false,1,1⟩,
 ⟨pr_ 41 (ex_ 1 32),(List.range 8),false,1,1⟩,
 ⟨mv_ 8 40,(List.range 9),false,1,1⟩,
 ⟨mv_ 9 41,(List.range 11),false,1,1⟩])
 (.seq (sq_ [mv_ 42 9,
 pr_ 43 (no_ 42)]
 (.cond (.tmp 43)
 (sq_ [pr_ 44 (.build z19_ []),
 st_ (so_ 19 2 44),
 pr_ 3 mf_]
 .ret)
 .skip))
 (.ops [mv_ 45 6,
 mv_ 46 8,
 pr_ 47 (bt_ .add 45 46),
 mv_ 6 47]))))
 (.ops [mv_ 30 7,
 pr_ 31 (bk_ .add 30 .i64 1),
 mv_ 7 31]))))))
 (.seq (sq_ [mv_ 48 6,
 mv_ 49 0,
 pr_ 50 (.lenv (.tmp 49)),
 pr_ 51 (bt_ .neq 48 50),
 mv_ 52 51,
 gp_ 53 52 false (lt_ 19 4),
 gc_ 54 52 false 89 [(.tmp 53)],
 gp_ 55 52 false (no_ 54),
 pr_ 56 (po_ 52 55)]
 (.cond (.tmp 56)
 (sq_ [pr_ 57 (.build z19_ []),
 st_ (so_ 19 2 57),
 pr_ 3 mf_]
 .ret)
 .skip))
 (sq_ [pr_ 58 (lt_ 19 4),
 st_ (so_ 19 2 58),
 pr_ 3 mt_]
 .ret))))))))
def o46:List Tmp:=[2,4]
def r46:List RV:=[.cell 2 19 true,.tmp 3]
theorem t46:Text Tryz.prog 46 o46 c46 r46 59:=.mk_ Tryz.f46 rfl
def c88:ACode :=
 (sq_ [pr_ 2 mf_]
 (sq_ [mv_ 3 0,
 pr_ 4 (.lens (.tmp 3)),
 pr_ 5 (bk_ .geq 4 .i64 4),
 mv_ 6 5,
 gp_ 7 6 true (mo_ 0),
 gp_ 8 6 true (.lens (.tmp 7)),
 gp_ 9 6 true (bk_ .leq 8 .i64 16),
 pr_ 10 (pa_ 6 9),
 mv_ 2 10]
 .ret))
def o88:List Tmp:=[]
def r88:List RV:=[.tmp 2]
theorem t88:Text Tryz.prog 88 o88 c88 r88 11:=.mk_ Tryz.f88 rfl
def c89:ACode :=
 (sq_ [pr_ 1 (.boxr (.tmp 0)),
 pr_ 2 mf_]
 (sq_ [pr_ 4 (fa_ 1 1),
 pr_ 5 (lf_ 1 4),
 c1_ 6 95 5,
 mv_ 3 6]
 (.seq (sq_ [mv_ 7 3,
 pr_ 8 (.bin false .eql (.tmp 7) (.const (.string (ByteArray.mk #[]))))]
 (.cond (.tmp 8)
 (sq_ [pr_ 2 mf_]
 .ret)
 .skip))
 (.seq (sq_ [mv_ 9 3,
 cl_ 10 127 [(.tmp 9),(.const (.int .u8 73))],
 pr_ 11 (no_ 10),
 mv_ 12 11,
 gp_ 13 12 true (fa_ 2 1),
 gp_ 14 12 true (lf_ 1 13),
 gp_ 15 12 true (bk_ .neq 14 .i64 0),
 pr_ 16 (pa_ 12 15),
 mv_ 17 16,
 gp_ 18 17 false (fa_ 2 1),
 gp_ 19 17 false (lf_ 1 18),
 gp_ 20 17 false (bk_ .lss 19 .i64 0),
 pr_ 21 (po_ 17 20),
 mv_ 22 21,
 gp_ 23 22 false (fa_ 2 1),
 gp_ 24 22 false (lf_ 1 23),
 gp_ 25 22 false (bk_ .gtr 24 .i64 2147483647),
 pr_ 26 (po_ 22 25)]
 (.cond (.tmp 26)
 (sq_ [pr_ 2 mf_]
 .ret)
 .skip))
 (.seq (sq_ [mv_ 27 3,
 cl_ 28 127 [(.tmp 27),(.const (.int .u8 84))],
 mv_ 29 28,
 gp_ 30 29 true (fa_ 3 1),
 gp_ 31 29 true (lf_ 1 30),
 gc_ 32 29 true 88 [(.tmp 31)],
 gp_ 33 29 true (no_ 32),
 pr_ 34 (pa_ 29 33),
 mv_ 35 34,
 gp_ 36 35 false (mo_ 3),
 gc_ 37 35 false 127 [(.tmp 36),(.const (.int .u8 84))],
 gp_ 38 35 false (no_ 37),
 gp_ 39 35 false (mo_ 38),
 gp_ 40 39 true (fa_ 3 1),
 gp_ 41 39 true (lf_ 1 40),
 gp_ 42 39 true (.bin false .neq (.tmp 41) (.const (.string (ByteArray.mk #[])))),
 gp_ 43 35 false (pa_ 39 42),
 pr_ 44 (po_ 35 43)]
 (.cond (.tmp 44)
 (sq_ [pr_ 2 mf_]
 .ret)
 .skip))
 (.seq (sq_ [mv_ 45 3,
 cl_ 46 127 [(.tmp 45),(.const (.int .u8 83))],
 pr_ 47 (no_ 46),
 mv_ 48 47,
 gp_ 49 48 true (fa_ 4 1),
 gp_ 50 48 true (lf_ 1 49),
 gp_ 51 48 true (bk_ .neq 50 .u64 0),
 gp_ 52 48 true (mo_ 51),
 gp_ 53 52 false (fa_ 5 1),
 gp_ 54 52 false (lf_ 1 53),
 gp_ 55 52 false (bk_ .neq 54 .u64 0),
 gp_ 56 48 true (po_ 52 55),
 pr_ 57 (pa_ 48 56),
 mv_ 58 57,
 gp_ 59 58 false (fa_ 4 1),
 gp_ 60 58 false (lf_ 1 59),
 gp_ 61 58 false (bk_ .gtr 60 .u64 1099511627776),
 pr_ 62 (po_ 58 61),
 mv_ 63 62,
 gp_ 64 63 false (fa_ 5 1),
 gp_ 65 63 false (lf_ 1 64),
 gp_ 66 63 false (bk_ .gtr 65 .u64 1099511627776),
 pr_ 67 (po_ 63 66)]
 (.cond (.tmp 67)
 (sq_ [pr_ 2 mf_]
 .ret)
 .skip))
 (.seq (sq_ [mv_ 68 3,
 cl_ 69 127 [(.tmp 68),(.const (.int .u8 90))],
 pr_ 70 (no_ 69),
 mv_ 71 70,
 gp_ 72 71 true (fa_ 6 1),
 gp_ 73 71 true (lf_ 1 72),
 gp_ 74 71 true (bk_ .neq 73 .i64 0),
 pr_ 75 (pa_ 71 74),
 mv_ 76 75,
 gp_ 77 76 false (fa_ 6 1),
 gp_ 78 76 false (lf_ 1 77),
 gp_ 79 76 false (bk_ .lss 78 .i64 0),
 pr_ 80 (po_ 76 79),
 mv_ 81 80,
 gp_ 82 81 false (fa_ 6 1),
 gp_ 83 81 false (lf_ 1 82),
 gp_ 84 81 false (bk_ .gtr 83 .i64 3),
 pr_ 85 (po_ 81 84)]
 (.cond (.tmp 85)
 (sq_ [pr_ 2 mf_]
 .ret)
 .skip))
 (.seq (sq_ [mv_ 86 3,
 cl_ 87 127 [(.tmp 86),(.const (.int .u8 77))],
 pr_ 88 (no_ 87),
 mv_ 89 88,
 gp_ 90 89 true (fa_ 7 1),
 gp_ 91 89 true (lf_ 1 90),
 gp_ 92 89 true (.lenv (.tmp 91)),
 gp_ 93 89 true (bk_ .gtr 92 .i64 0),
 pr_ 94 (pa_ 89 93),
 mv_ 95 94,
 gp_ 96 95 false (mo_ 3),
 gc_ 97 95 false 127 [(.tmp 96),(.const (.int .u8 83))],
 gp_ 98 95 false (mo_ 97),
 gp_ 99 98 true (fa_ 7 1),
 gp_ 100 98 true (lf_ 1 99),
 gp_ 101 98 true (.lenv (.tmp 100)),
 gp_ 102 98 true (bk_ .eql 101 .i64 0),
 gp_ 103 95 false (pa_ 98 102),
 pr_ 104 (po_ 95 103),
 mv_ 105 104,
 gp_ 106 105 false (fa_ 7 1),
 gp_ 107 105 false (lf_ 1 106),
 gc_ 108 105 false 117 [(.tmp 107)],
 gp_ 109 105 false (no_ 108),
 pr_ 110 (po_ 105 109)]
 (.cond (.tmp 110)
 (sq_ [pr_ 2 mf_]
 .ret)
 .skip))
 (.seq (sq_ [mv_ 111 3,
 cl_ 112 127 [(.tmp 111),(.const (.int .u8 66))],
 pr_ 113 (no_ 112),
 mv_ 114 113,
 gp_ 115 114 true (fa_ 8 1),
 gp_ 116 114 true (lt_ 3 115),
 gc_ 117 114 true 128 [(.tmp 116)],
 gp_ 118 114 true (no_ 117),
 pr_ 119 (pa_ 114 118),
 mv_ 120 119,
 gp_ 121 120 false (fa_ 8 1),
 gp_ 122 120 false (lt_ 3 121),
 gc_ 123 120 false 120 [(.tmp 122)],
 gp_ 124 120 false (no_ 123),
 pr_ 125 (po_ 120 124)]
 (.cond (.tmp 125)
 (sq_ [pr_ 2 mf_]
 .ret)
 .skip))
 (.seq (sq_ [mv_ 126 3,
 cl_ 127 127 [(.tmp 126),(.const (.int .u8 82))],
 mv_ 128 127,
 gp_ 129 128 true (fa_ 11 1),
 gp_ 130 128 true (lt_ 6 129),
 gc_ 131 128 true 67 [(.tmp 130)],
 gp_ 132 128 true (no_ 131),
 pr_ 133 (pa_ 128 132),
 mv_ 134 133,
 gp_ 135 134 false (mo_ 3),
 gc_ 136 134 false 127 [(.tmp 135),(.const (.int .u8 82))],
 gp_ 137 134 false (no_ 136),
 gp_ 138 134 false (mo_ 137),
 gp_ 139 138 true (fa_ 11 1),
 gp_ 140 138 true (lt_ 6 139),
 gc_ 141 138 true 129 [(.tmp 140)],
 gp_ 142 138 true (no_ 141),
 gp_ 143 134 false (pa_ 138 142),
 pr_ 144 (po_ 134 143)]
 (.cond (.tmp 144)
 (sq_ [pr_ 2 mf_]
 .ret)
 .skip))
 (.seq (sq_ [mv_ 145 3,
 cl_ 146 127 [(.tmp 145),(.const (.int .u8 76))]]
 (.cond (.tmp 146)
 (sq_ [pr_ 147 (fa_ 17 1),
 pr_ 148 (lf_ 1 147),
 c1_ 149 130 148,
 mv_ 2 149]
 .ret)
 .skip))
 (sq_ [pr_ 150 (fa_ 17 1),
 pr_ 151 (lf_ 1 150),
 pr_ 152 (.lenv (.tmp 151)),
 pr_ 153 (bk_ .eql 152 .i64 0),
 mv_ 154 153,
 gp_ 155 154 true (fa_ 18 1),
 gp_ 156 154 true (lf_ 1 155),
 gc_ 157 154 true 48 [(.tmp 156)],
 gp_ 158 154 true (bk_ .eql 157 .u64 0),
 pr_ 159 (pa_ 154 158),
 mv_ 2 159]
 .ret))))))))))))
def o89:List Tmp:=[]
def r89:List RV:=[.tmp 2]
theorem t89:Text Tryz.prog 89 o89 c89 r89 160:=.mk_ Tryz.f89 rfl
def c95:ACode :=
 (sq_ [pr_ 2 (.mov (.const (.string (ByteArray.mk #[]))))]
 (.seq (sq_ [mv_ 3 0]
 (.block 0 (.seq (sq_ [pr_ 5 (bk_ .eql 3 .i64 1),
 mv_ 4 5]
 (.cond (.tmp 4)
 .skip
 (sq_ [pr_ 6 (bk_ .eql 3 .i64 14),
 mv_ 4 6]
 (.cond (.tmp 4)
 .skip
 (sq_ [pr_ 7 (bk_ .eql 3 .i64 16),
 mv_ 4 7]
 (.cond (.tmp 4)
 .skip
 (.ops [pr_ 8 (bk_ .eql 3 .i64 17),
 mv_ 4 8])))))))
 (.cond (.tmp 4)
 (sq_ [pr_ 2 (.mov (.const (.string (ByteArray.mk #[45]))))]
 .ret)
 (.seq (sq_ [pr_ 10 (bk_ .eql 3 .i64 2),
 mv_ 9 10]
 (.cond (.tmp 9)
 .skip
 (sq_ [pr_ 11 (bk_ .eql 3 .i64 7),
 mv_ 9 11]
 (.cond (.tmp 9)
 .skip
 (sq_ [pr_ 12 (bk_ .eql 3 .i64 10),
 mv_ 9 12]
 (.cond (.tmp 9)
 .skip
 (sq_ [pr_ 13 (bk_ .eql 3 .i64 12),
 mv_ 9 13]
 (.cond (.tmp 9)
 .skip
 (.ops [pr_ 14 (bk_ .eql 3 .i64 15),
 mv_ 9 14])))))))))
 (.cond (.tmp 9)
 (sq_ [pr_ 2 (.mov (.const (.string (ByteArray.mk #[73]))))]
 .ret)
 (.seq (sq_ [pr_ 16 (bk_ .eql 3 .i64 3),
 mv_ 15 16]
 (.cond (.tmp 15)
 .skip
 (.ops [pr_ 17 (bk_ .eql 3 .i64 4),
 mv_ 15 17])))
 (.cond (.tmp 15)
 (sq_ [pr_ 2 (.mov (.const (.string (ByteArray.mk #[73,84]))))]
 .ret)
 (sq_ [pr_ 19 (bk_ .eql 3 .i64 5),
 mv_ 18 19]
 (.cond (.tmp 18)
 (sq_ [pr_ 2 (.mov (.const (.string (ByteArray.mk #[83,69,77,66]))))]
 .ret)
 (sq_ [pr_ 21 (bk_ .eql 3 .i64 6),
 mv_ 20 21]
 (.cond (.tmp 20)
 (sq_ [pr_ 2 (.mov (.const (.string (ByteArray.mk #[73,83,69,77,66]))))]
 .ret)
 (sq_ [pr_ 23 (bk_ .eql 3 .i64 8),
 mv_ 22 23]
 (.cond (.tmp 22)
 (sq_ [pr_ 2 (.mov (.const (.string (ByteArray.mk #[90]))))]
 .ret)
 (sq_ [pr_ 25 (bk_ .eql 3 .i64 9),
 mv_ 24 25]
 (.cond (.tmp 24)
 (sq_ [pr_ 2 (.mov (.const (.string (ByteArray.mk #[82]))))]
 .ret)
 (sq_ [pr_ 27 (bk_ .eql 3 .i64 11),
 mv_ 26 27]
 (.cond (.tmp 26)
 (sq_ [pr_ 2 (.mov (.const (.string (ByteArray.mk #[76,86]))))]
 .ret)
 (sq_ [pr_ 29 (bk_ .eql 3 .i64 13),
 mv_ 28 29]
 (.cond (.tmp 28)
 (sq_ [pr_ 2 (.mov (.const (.string (ByteArray.mk #[77]))))]
 .ret)
 .skip))))))))))))))))))))
 (sq_ [pr_ 2 (.mov (.const (.string (ByteArray.mk #[]))))]
 .ret)))
def o95:List Tmp:=[]
def r95:List RV:=[.tmp 2]
theorem t95:Text Tryz.prog 95 o95 c95 r95 30:=.mk_ Tryz.f95 rfl
def c96:ACode :=
 (sq_ [pr_ 2 (.mov (.const (.slice none 0 0)))]
 (.seq (sq_ [mv_ 5 0,
 c1_ 6 130 5,
 pr_ 7 (no_ 6)]
 (.cond (.tmp 7)
 (sq_ [pr_ 2 (.mov (.const (.slice none 0 0)))]
 (.ghost (.shut 2) .ret))
 .skip))
 (sq_ [mv_ 8 0,
 pr_ 9 (.lenv (.tmp 8)),
 pr_ 10 (.convi .u64 (.tmp 9)),
 c1_ 11 75 10,
 mv_ 3 11]
 (.seq (sq_ [pr_ 4 (mi_ .i64 0)]
 (.block 0 (.loop [1,2,5,6,7,8,9,10,11,12,13,14,15,16,17,18,19,20,21,22,23,24,25,26,27,28,29,30,31,32,33] (.seq (sq_ [mv_ 12 4,
 mv_ 13 0,
 pr_ 14 (.lenv (.tmp 13)),
 pr_ 15 (bt_ .lss 12 14)]
 (.cond (.tmp 15)
 .skip
 (.exit 0)))
 (.seq (.block 1 (.draw [⟨mv_ 18 3,[],false,0,1⟩,
 ⟨mv_ 19 0,[],false,0,0⟩,
 ⟨mv_ 20 4,[],false,0,0⟩,
 ⟨pr_ 21 (.iadrs 2 (.tmp 19) (.tmp 20)),[1,2],false,0,0⟩,
 ⟨pr_ 22 (fa_ 0 21),[1,2,3],false,0,0⟩,
 ⟨pr_ 23 (lf_ 1 22),[1,2,3,4],false,0,0⟩,
 ⟨c1_ 24 76 23,[1,2,3,4,5],true,0,0⟩,
 ⟨pr_ 25 (.app 1 (.tmp 18) (.tmp 24)),(List.range 7),true,0,0⟩,
 ⟨mv_ 26 0,[],false,0,2⟩,
 ⟨mv_ 27 4,[],false,0,2⟩,
 ⟨pr_ 28 (.iadrs 2 (.tmp 26) (.tmp 27)),[8,9],false,0,2⟩,
 ⟨pr_ 29 (fa_ 1 28),[8,9,10],false,0,2⟩,
 ⟨pr_ 30 (lf_ 1 29),[8,9,10,11],false,0,2⟩,
 ⟨c1_ 31 76 30,(List.range 13),true,0,0⟩,
 ⟨pr_ 32 (.app 1 (.tmp 25) (.tmp 31)),(List.range 14),true,0,0⟩,
 ⟨mv_ 3 32,(List.range 15),false,4,4⟩]))
 (.ops [mv_ 16 4,
 pr_ 17 (bk_ .add 16 .i64 1),
 mv_ 4 17]))))))
 (sq_ [mv_ 33 3,
 mv_ 2 33]
 (.ghost (.shut 2) .ret))))))
def o96:List Tmp:=[]
def r96:List RV:=[.tmp 2]
theorem t96:Text Tryz.prog 96 o96 c96 r96 34:=.mk_ Tryz.f96 rfl
def c105:ACode :=
 (sq_ [pr_ 6 (mi_ .i64 0),
 pr_ 7 mf_]
 (sq_ [pr_ 8 (mi_ .u64 0),
 pr_ 9 (mi_ .i64 0),
 pr_ 10 mt_]
 (.seq (sq_ [mv_ 13 1]
 (.block 0 (.seq (sq_ [pr_ 15 (bk_ .eql 13 .u8 73),
 mv_ 14 15]
 (.cond (.tmp 14)
 .skip
 (sq_ [pr_ 16 (bk_ .eql 13 .u8 83),
 mv_ 14 16]
 (.cond (.tmp 14)
 .skip
 (.ops [pr_ 17 (bk_ .eql 13 .u8 69),
 mv_ 14 17])))))
 (.cond (.tmp 14)
 (sq_ [mv_ 19 2,
 c1_ 20 65 19,
 mv_ 18 20,
 pr_ 21 (ex_ 0 18),
 pr_ 22 (ex_ 1 18),
 pr_ 23 (ex_ 2 18),
 mv_ 8 21,
 mv_ 9 22,
 mv_ 10 23]
 (.seq (sq_ [mv_ 24 8,
 pr_ 25 (bk_ .gtr 24 .u64 1099511627776)]
 (.cond (.tmp 25)
 (sq_ [pr_ 6 (mi_ .i64 0),
 pr_ 7 mf_]
 .ret)
 .skip))
 (sq_ [mv_ 26 1]
 (.block 1 (sq_ [pr_ 32 (bk_ .eql 26 .u8 73),
 mv_ 31 32]
 (.cond (.tmp 31)
 (.ops [mv_ 33 0,
 mv_ 34 8,
 pr_ 35 (.convi .i64 (.tmp 34)),
 pr_ 36 (nc_ 33),
 pr_ 37 (fa_ 2 36),
 st_ (so_ 1 37 35)])
 (sq_ [pr_ 39 (bk_ .eql 26 .u8 83),
 mv_ 38 39]
 (.cond (.tmp 38)
 (.ops [mv_ 40 0,
 mv_ 41 8,
 pr_ 42 (nc_ 40),
 pr_ 43 (fa_ 4 42),
 st_ (so_ 1 43 41)])
 (.ops [mv_ 27 0,
 mv_ 28 8,
 pr_ 29 (nc_ 27),
 pr_ 30 (fa_ 5 29),
 st_ (so_ 1 30 28)])))))))))
 (sq_ [pr_ 45 (bk_ .eql 13 .u8 84),
 mv_ 44 45]
 (.cond (.tmp 44)
 (.ops [mv_ 47 0,
 mv_ 48 2,
 cl_ 49 66 [(.tmp 48),(.const (.int .i64 16))],
 mv_ 46 49,
 pr_ 50 (ex_ 0 46),
 pr_ 51 (ex_ 1 46),
 pr_ 52 (ex_ 2 46),
 pr_ 53 (nc_ 47),
 pr_ 54 (fa_ 3 53),
 st_ (so_ 1 54 50),
 mv_ 9 51,
 mv_ 10 52])
 (sq_ [pr_ 56 (bk_ .eql 13 .u8 90),
 mv_ 55 56]
 (.cond (.tmp 55)
 (.seq (sq_ [mv_ 57 2,
 pr_ 58 (.lenv (.tmp 57)),
 pr_ 59 (bk_ .eql 58 .i64 0)]
 (.cond (.tmp 59)
 (sq_ [pr_ 6 (mi_ .i64 0),
 pr_ 7 mf_]
 .ret)
 .skip))
 (.ops [mv_ 60 0,
 mv_ 61 2,
 pr_ 62 (.iadrs 1 (.tmp 61) (.const (.int .i64 0))),
 pr_ 63 (lf_ 1 62),
 pr_ 64 (.convi .i64 (.tmp 63)),
 pr_ 65 (nc_ 60),
 pr_ 66 (fa_ 6 65),
 st_ (so_ 1 66 64),
 pr_ 9 (mi_ .i64 1)]))
 (sq_ [pr_ 68 (bk_ .eql 13 .u8 77),
 mv_ 67 68]
 (.cond (.tmp 67)
 (.ops [mv_ 70 0,
 mv_ 71 2,
 c1_ 72 63 71,
 mv_ 69 72,
 pr_ 73 (ex_ 0 69),
 pr_ 74 (ex_ 1 69),
 pr_ 75 (ex_ 2 69),
 pr_ 76 (nc_ 70),
 pr_ 77 (fa_ 7 76),
 st_ (so_ 1 77 73),
 mv_ 9 74,
 mv_ 10 75])
 (sq_ [pr_ 79 (bk_ .eql 13 .u8 66),
 mv_ 78 79]
 (.cond (.tmp 78)
 (.ops [mv_ 81 0,
 mv_ 82 2,
 c1_ 83 64 82,
 mv_ 80 83,
 pr_ 84 (ex_ 0 80),
 pr_ 85 (ex_ 1 80),
 pr_ 86 (ex_ 2 80),
 pr_ 87 (nc_ 81),
 pr_ 88 (fa_ 8 87),
 st_ (so_ 3 88 84),
 mv_ 9 85,
 mv_ 10 86])
 (sq_ [pr_ 90 (bk_ .eql 13 .u8 82),
 mv_ 89 90]
 (.cond (.tmp 89)
 (.ops [mv_ 92 0,
 mv_ 93 2,
 c1_ 94 18 93,
 mv_ 91 94,
 pr_ 95 (ex_ 0 91),
 pr_ 96 (ex_ 1 91),
 pr_ 97 (ex_ 2 91),
 pr_ 98 (nc_ 92),
 pr_ 99 (fa_ 11 98),
 st_ (so_ 6 99 95),
 mv_ 9 96,
 mv_ 10 97])
 (sq_ [pr_ 101 (bk_ .eql 13 .u8 76),
 mv_ 100 101]
 (.cond (.tmp 100)
 (.ops [mv_ 103 0,
 mv_ 104 2,
 c1_ 105 141 104,
 mv_ 102 105,
 pr_ 106 (ex_ 0 102),
 pr_ 107 (ex_ 1 102),
 pr_ 108 (ex_ 2 102),
 pr_ 109 (nc_ 103),
 pr_ 110 (fa_ 17 109),
 st_ (so_ 1 110 106),
 mv_ 9 107,
 mv_ 10 108])
 (sq_ [pr_ 112 (bk_ .eql 13 .u8 86),
 mv_ 111 112]
 (.cond (.tmp 111)
 (sq_ [mv_ 114 2,
 c1_ 115 118 114,
 mv_ 113 115,
 pr_ 116 (ex_ 0 113),
 pr_ 117 (ex_ 1 113),
 mv_ 8 116,
 mv_ 10 117]
 (sq_ [mv_ 119 8,
 c1_ 120 119 119,
 mv_ 118 120,
 pr_ 121 (ex_ 0 118),
 pr_ 122 (ex_ 1 118),
 mv_ 11 121,
 mv_ 12 122]
 (.ops [mv_ 123 0,
 mv_ 124 11,
 mv_ 125 10,
 mv_ 126 125,
 gp_ 127 126 true (mo_ 12),
 pr_ 128 (pa_ 126 127),
 pr_ 129 (nc_ 123),
 pr_ 130 (fa_ 18 129),
 st_ (so_ 1 130 124),
 pr_ 9 (mi_ .i64 8),
 mv_ 10 128])))
 .skip))))))))))))))))))
 (sq_ [mv_ 131 9,
 mv_ 132 10,
 mv_ 6 131,
 mv_ 7 132]
 .ret))))
def o105:List Tmp:=[]
def r105:List RV:=[.tmp 6,.tmp 7]
theorem t105:Text Tryz.prog 105 o105 c105 r105 133:=.mk_ Tryz.f105 rfl
def c127:ACode :=
 (sq_ [pr_ 4 mf_]
 (.seq (sq_ [pr_ 5 (mi_ .i64 0)]
 (.block 0 (.loop [2,3,4,6,7,8,9,10,11,12,13,14,15,16] (.seq (sq_ [mv_ 6 5,
 mv_ 7 0,
 pr_ 8 (.lens (.tmp 7)),
 pr_ 9 (bt_ .lss 6 8)]
 (.cond (.tmp 9)
 .skip
 (.exit 0)))
 (.seq (.block 1 (sq_ [mv_ 12 0,
 mv_ 13 5,
 pr_ 14 (.idxs (.tmp 12) (.tmp 13)),
 mv_ 15 1,
 pr_ 16 (bt_ .eql 14 15)]
 (.cond (.tmp 16)
 (sq_ [pr_ 4 mt_]
 .ret)
 .skip)))
 (.ops [mv_ 10 5,
 pr_ 11 (bk_ .add 10 .i64 1),
 mv_ 5 11]))))))
 (sq_ [pr_ 4 mf_]
 .ret)))
def o127:List Tmp:=[]
def r127:List RV:=[.tmp 4]
theorem t127:Text Tryz.prog 127 o127 c127 r127 17:=.mk_ Tryz.f127 rfl
def c128:ACode :=
 (sq_ [pr_ 1 (.boxr (.tmp 0)),
 pr_ 2 mf_]
 (sq_ [pr_ 3 (fa_ 0 1),
 pr_ 4 (lf_ 1 3),
 pr_ 5 (no_ 4),
 mv_ 6 5,
 gp_ 7 6 true (fa_ 1 1),
 gp_ 8 6 true (lf_ 1 7),
 gc_ 9 6 true 48 [(.tmp 8)],
 gp_ 10 6 true (bk_ .eql 9 .u64 0),
 pr_ 11 (pa_ 6 10),
 mv_ 12 11,
 gp_ 13 12 true (fa_ 2 1),
 gp_ 14 12 true (lf_ 1 13),
 gc_ 15 12 true 48 [(.tmp 14)],
 gp_ 16 12 true (bk_ .eql 15 .u64 0),
 pr_ 17 (pa_ 12 16),
 mv_ 2 17]
 .ret))
def o128:List Tmp:=[]
def r128:List RV:=[.tmp 2]
theorem t128:Text Tryz.prog 128 o128 c128 r128 18:=.mk_ Tryz.f128 rfl
def c129:ACode :=
 (sq_ [pr_ 1 (.boxr (.tmp 0)),
 pr_ 2 mf_]
 (sq_ [pr_ 3 (fa_ 0 1),
 pr_ 4 (lf_ 1 3),
 pr_ 5 (.lenv (.tmp 4)),
 pr_ 6 (bk_ .eql 5 .i64 0),
 mv_ 7 6,
 gp_ 8 7 true (fa_ 1 1),
 gp_ 9 7 true (lf_ 1 8),
 gp_ 10 7 true (.lenv (.tmp 9)),
 gp_ 11 7 true (bk_ .eql 10 .i64 0),
 pr_ 12 (pa_ 7 11),
 mv_ 13 12,
 gp_ 14 13 true (fa_ 2 1),
 gp_ 15 13 true (lt_ 3 14),
 gc_ 16 13 true 128 [(.tmp 15)],
 pr_ 17 (pa_ 13 16),
 mv_ 18 17,
 gp_ 19 18 true (fa_ 5 1),
 gp_ 20 18 true (lf_ 1 19),
 gp_ 21 18 true (.lenv (.tmp 20)),
 gp_ 22 18 true (bk_ .eql 21 .i64 0),
 pr_ 23 (pa_ 18 22),
 mv_ 2 23]
 .ret))
def o129:List Tmp:=[]
def r129:List RV:=[.tmp 2]
theorem t129:Text Tryz.prog 129 o129 c129 r129 24:=.mk_ Tryz.f129 rfl
def c141:ACode :=
 (sq_ [pr_ 2 (.mov (.const (.slice none 0 0))),
 pr_ 3 (mi_ .i64 0),
 pr_ 4 mf_]
 (sq_ [mv_ 17 0,
 c1_ 18 65 17,
 mv_ 16 18,
 pr_ 19 (ex_ 0 16),
 pr_ 20 (ex_ 1 16),
 pr_ 21 (ex_ 2 16),
 mv_ 5 19,
 mv_ 6 20,
 mv_ 7 21]
 (.seq (sq_ [mv_ 22 7,
 pr_ 23 (no_ 22),
 mv_ 24 23,
 gp_ 25 24 false (mo_ 5),
 gp_ 26 24 false (bk_ .gtr 25 .u64 6),
 pr_ 27 (po_ 24 26)]
 (.cond (.tmp 27)
 (sq_ [pr_ 2 (.mov (.const (.slice none 0 0))),
 pr_ 3 (mi_ .i64 0),
 pr_ 4 mf_]
 (.ghost (.shut 2) .ret))
 .skip))
 (.seq (.after (.ops [pr_ 8 (.mov (.const (.slice none 0 0)))]) (.own 8 2))
 (.seq (sq_ [pr_ 9 (mi_ .i64 0)]
 (.block 0 (.loop [1,2,3,4,7,10,11,12,13,14,15,16,17,18,19,20,21,22,23,24,25,26,27,28,29,30,31,32,33,34,35,36,37,38,39,40,41,42,43,44,45,46,47,48,49,50,51,52,53,54,55,56,57,58,59,60,61,62,63,64,65,66,67,68,69,70] (.seq (sq_ [mv_ 28 9,
 mv_ 29 5,
 pr_ 30 (.convi .i64 (.tmp 29)),
 pr_ 31 (bt_ .lss 28 30)]
 (.cond (.tmp 31)
 .skip
 (.exit 0)))
 (.seq (.block 1 (sq_ [mv_ 35 0,
 mv_ 36 6,
 pr_ 37 (.slcv 1 (.tmp 35) (some (.tmp 36)) none),
 cl_ 38 66 [(.tmp 37),(.const (.int .i64 12))],
 mv_ 34 38,
 pr_ 39 (ex_ 0 34),
 pr_ 40 (ex_ 1 34),
 pr_ 41 (ex_ 2 34),
 mv_ 10 39,
 mv_ 11 40,
 mv_ 12 41]
 (.seq (sq_ [mv_ 42 12,
 pr_ 43 (no_ 42)]
 (.cond (.tmp 43)
 (sq_ [pr_ 2 (.mov (.const (.slice none 0 0))),
 pr_ 3 (mi_ .i64 0),
 pr_ 4 mf_]
 (.ghost (.shut 2) .ret))
 .skip))
 (sq_ [mv_ 44 6,
 mv_ 45 11,
 pr_ 46 (bt_ .add 44 45),
 mv_ 6 46]
 (sq_ [mv_ 48 0,
 mv_ 49 6,
 pr_ 50 (.slcv 1 (.tmp 48) (some (.tmp 49)) none),
 cl_ 51 66 [(.tmp 50),(.const (.int .i64 24))],
 mv_ 47 51,
 pr_ 52 (ex_ 0 47),
 pr_ 53 (ex_ 1 47),
 pr_ 54 (ex_ 2 47),
 mv_ 13 52,
 mv_ 14 53,
 mv_ 15 54]
 (.seq (sq_ [mv_ 55 15,
 pr_ 56 (no_ 55)]
 (.cond (.tmp 56)
 (sq_ [pr_ 2 (.mov (.const (.slice none 0 0))),
 pr_ 3 (mi_ .i64 0),
 pr_ 4 mf_]
 (.ghost (.shut 2) .ret))
 .skip))
 (sq_ [mv_ 57 6,
 mv_ 58 14,
 pr_ 59 (bt_ .add 57 58),
 mv_ 6 59]
 (.ops [mv_ 60 8,
 mv_ 61 10,
 mv_ 62 13,
 pr_ 63 (.build [.pl (.string .empty),.pl (.string .empty)] [(0,1,(.tmp 61)),(1,1,(.tmp 62))]),
 pr_ 64 (.bsl false 2 true 1 [.pl (.string .empty),.pl (.string .empty)] [(0,2,(.tmp 63))]),
 pr_ 65 (.app 2 (.tmp 60) (.tmp 64)),
 mv_ 8 65]))))))))
 (.ops [mv_ 32 9,
 pr_ 33 (bk_ .add 32 .i64 1),
 mv_ 9 33]))))))
 (.seq (.seq (.ghost (.shut 8) (.ops [mv_ 66 8,
 c1_ 67 130 66,
 pr_ 68 (no_ 67)]))
 (.cond (.tmp 68)
 (sq_ [pr_ 2 (.mov (.const (.slice none 0 0))),
 pr_ 3 (mi_ .i64 0),
 pr_ 4 mf_]
 (.ghost (.shut 2) .ret))
 .skip))
 (sq_ [mv_ 69 8,
 mv_ 70 6,
 mv_ 2 69,
 mv_ 3 70,
 pr_ 4 mt_]
 (.ghost (.shut 2) .ret))))))))
def o141:List Tmp:=[]
def r141:List RV:=[.tmp 2,.tmp 3,.tmp 4]
theorem t141:Text Tryz.prog 141 o141 c141 r141 71:=.mk_ Tryz.f141 rfl
end Go.Proofs.YtmkmhhjkdaklbaaGreat
namespace Go.Proofs.YtmkmhhjkdaklbaaGreat
open Go Go.Ab Go.Cod
set_option maxRecDepth 100000
def dTab:List ByteArray:=[⟨#[45]⟩,⟨#[73]⟩,⟨#[73,84]⟩,⟨#[73,84]⟩,⟨#[83,69,77,66]⟩,⟨#[73,83,69,77,66]⟩,⟨#[73]⟩,⟨#[90]⟩,⟨#[82]⟩,⟨#[73]⟩,⟨#[76,86]⟩,⟨#[73]⟩,⟨#[77]⟩,⟨#[45]⟩,⟨#[73]⟩,⟨#[45]⟩,⟨#[45]⟩]
def dOf (op:Int):ByteArray:=if 1≤op∧op≤17 then dTab.getD (op.toNat-1) ⟨#[]⟩ else⟨#[]⟩
theorem zdn {op:Int} (h:op<1∨17<op):dOf op=⟨#[]⟩:=by unfold dOf;rw[if_neg (by omega)]
def hasC (s:ByteArray) (c:Nat):Bool:=!((List.range s.size).all fun i=>!((byteAt s i:Int)==(c:Int)))
section
variable (σ:St)
theorem z0o (op:Int):Ans Tryz.prog 95 [I op] σ (Sx (dOf op)) σ:=by
 refine Ans.of_run t95 ?_;rcases ops17 op with rfl|rfl|rfl|rfl|rfl|rfl|rfl|rfl|rfl|rfl|rfl|rfl|rfl|rfl|rfl|rfl|rfl|h
 all_goals first
  |(rw[zdn h]
    simp -implicitDefEqProofs only[c95,r95,go_sem,neI (op:=op) (k:=1) (by omega),neI (op:=op) (k:=2) (by omega),neI (op:=op) (k:=3) (by omega),neI (op:=op) (k:=4) (by omega),neI (op:=op) (k:=5) (by omega),neI (op:=op) (k:=6) (by omega),neI (op:=op) (k:=7) (by omega),neI (op:=op) (k:=8) (by omega),neI (op:=op) (k:=9) (by omega),neI (op:=op) (k:=10) (by omega),neI (op:=op) (k:=11) (by omega),neI (op:=op) (k:=12) (by omega),neI (op:=op) (k:=13) (by omega),neI (op:=op) (k:=14) (by omega),neI (op:=op) (k:=15) (by omega),neI (op:=op) (k:=16) (by omega),neI (op:=op) (k:=17) (by omega)]
    exact Fini.ret rfl)
  |(simp -implicitDefEqProofs only[c95,r95,go_sem]
    exact Fini.ret rfl)
theorem z2t (s:ByteArray):Ans Tryz.prog 88 [Sx s] σ (Bo (tokB s)) σ:=by
 have d1:decide ((4:Int)≤(s.size:Nat))=decide (4≤s.size):=intle 4 s.size;have d2:decide (((s.size:Nat):Int)≤16)=decide (s.size≤16):=intle s.size 16;refine Ans.of_run t88 ?_;unfold tokB
 cases h:decide (4≤s.size) with
 |false =>
  simp -implicitDefEqProofs only[c88,r88,go_sem,d1,h];exact Fini.ret rfl
 |true =>
  simp -implicitDefEqProofs only[c88,r88,go_sem,d1,d2,h];exact Fini.ret rfl
theorem z1y (x:Bnd):Ans Tryz.prog 128 [bandV x] σ (Bo (noBd x)) σ:=by
 obtain⟨a,lo,hi⟩:=x;refine Ans.of_run t128 ?_;unfold bandV noBd;simp only
 cases a with
 |true =>
  simp -implicitDefEqProofs only[c128,r128,go_sem];exact Fini.ret rfl
 |false =>
  simp -implicitDefEqProofs only[c128,r128,go_sem];refine CO.intro (z0U σ lo) ?_;unfold zF
  cases h:(((bitsF lo:Nat):Int)==0) with
  |false =>
   simp -implicitDefEqProofs only[go_sem,h];exact Fini.ret rfl
  |true =>
   simp -implicitDefEqProofs only[go_sem,h];refine CO.intro (z0U σ hi) ?_;simp -implicitDefEqProofs only[go_sem];exact Fini.ret rfl
theorem z1O (r:RuM):Ans Tryz.prog 129 [ruV r] σ (Bo (noRl r)) σ:=by
 have hb:=z1y σ (r.any,r.lo,r.hi)
 have e:noRl r=(emI r.src.length&&(emI r.tgt.length&&(noBd (r.any,r.lo,r.hi)&&emI r.eq.length))):=by
  unfold noRl;cases emI r.src.length<;>cases emI r.tgt.length<;>cases emI r.eq.length<;>cases noBd (r.any,r.lo,r.hi)<;>rfl
 rw[e];refine Ans.of_run t129 ?_;unfold ruV emI;unfold bandV at hb
 cases h1:(((r.src.length:Nat):Int)==0) with
 |false =>
  simp -implicitDefEqProofs only[c129,r129,go_sem,z0w,h1];exact Fini.ret rfl
 |true =>
 cases h2:(((r.tgt.length:Nat):Int)==0) with
 |false =>
  simp -implicitDefEqProofs only[c129,r129,go_sem,z0w,h1,h2];exact Fini.ret rfl
 |true =>
  simp -implicitDefEqProofs only[c129,r129,go_sem,z0w,z0J,h1,h2];refine CO.intro hb ?_
  cases noBd (r.any,r.lo,r.hi) with
  |false =>
   simp -implicitDefEqProofs only[go_sem];exact Fini.ret rfl
  |true =>
   simp -implicitDefEqProofs only[go_sem,z0J];exact Fini.ret rfl
theorem z2u (s:ByteArray) (c:Nat) (hs:s.size≤100000):Ans Tryz.prog 127 [Sx s,.pl (.int .u8 c)] σ (Bo (hasC s c)) σ:=by
 refine Ans.of_run t127 ?_;simp -implicitDefEqProofs only[c127,r127,go_sem];unfold hasC;refine Go.Ab.L.scan s.size (fun i=>!((byteAt s i:Int)==(c:Int))) (fun i=>mkE 17 [(0,Sx s),(1,.pl (.int .u8 c)),(5,I i)]) (fun _=>σ) ?_ ?_ rfl rfl
 · intro i hi hp J hJ;have hlt:((i:Int)<s.size)=True:=by simp;omega
   have hin:=wrap_succ (i:=i) (by omega)
   have hF:(!((byteAt s i:Int)==(c:Int)))=false→((List.range s.size).all fun i=>!((byteAt s i:Int)==(c:Int)))=false:=fun h=>List.all_eq_false.2 ⟨i,List.mem_range.2 hi,by rw[h];decide⟩
   cases h:((byteAt s i:Int)==(c:Int)) with
   |true =>
    rw[hF (by rw[h];rfl)]
    simp -implicitDefEqProofs only[mkE,go_sem,hlt,dec_lt hi,z06,h];exact Fini.ret rfl
   |false =>
    rw[h]at hJ;have hgo:=hJ rfl;simp -implicitDefEqProofs only[mkE,go_sem,hlt,dec_lt hi,z06,h,hin];exact hgo
 · intro hp J;have hd:decide ((s.size:Int)<s.size)=false:=by simp
   simp -implicitDefEqProofs only[mkE,go_sem,hd];refine Fini.ret' rfl (z1d ?_);rw[List.all_eq_true.2 fun i hi=>hp i (List.mem_range.1 hi)];rfl
end
theorem zgN (b:Byt):labR b=(textR 12 b).bind fun p=>(textR 24 p.2).map fun q=>((p.1,q.1),q.2):=rfl
section
variable (σ:St)
theorem zeW (v:ByteArray):Ans Tryz.prog 156 [Sx v] σ (Bo (valB v)) σ:=by
 have d1:decide ((1:Int)≤(v.size:Nat))=decide (1≤v.size):=intle 1 v.size;have d2:decide (((v.size:Nat):Int)≤24)=decide (v.size≤24):=intle v.size 24;refine Ans.of_run t156 ?_;unfold valB
 cases h:decide (1≤v.size) with
 |false =>
  simp -implicitDefEqProofs only[c156,r156,go_sem,d1,h];exact Fini.ret rfl
 |true =>
  simp -implicitDefEqProofs only[c156,r156,go_sem,d1,d2,h];exact Fini.ret rfl
theorem z27 (L:List Lab) (hs:∀x∈L,x.1.size≤100000):Ans Tryz.prog 130 [.sl 2 (lvs L)] σ (Bo (setB L)) σ:=by
 have e1:decide ((L.length:Int)<1)= !decide (1≤L.length):=by
  by_cases h:1≤L.length
  · rw[decide_eq_true h,decide_eq_false (by omega)];rfl
  · rw[decide_eq_false h,decide_eq_true (by omega)];rfl
 have e2:decide ((6:Int)<L.length)= !decide (L.length≤6):=by
  by_cases h:L.length≤6
  · rw[decide_eq_true h,decide_eq_false (by omega)];rfl
  · rw[decide_eq_false h,decide_eq_true (by omega)];rfl
 refine Ans.of_run t130 ?_;unfold setB
 cases h1:decide (1≤L.length) with
 |false =>
  simp -implicitDefEqProofs only[c130,r130,go_sem,z0m,e1,h1];exact Fini.ret rfl
 |true =>
 cases h2:decide (L.length≤6) with
 |false =>
  simp -implicitDefEqProofs only[c130,r130,go_sem,z0m,e1,e2,h1,h2];exact Fini.ret rfl
 |true =>
 have hl6:L.length≤6:=of_decide_eq_true h2;simp -implicitDefEqProofs only[c130,r130,go_sem,z0m,e1,e2,h1,h2];refine Go.Ab.L.scan L.length (labOk L) (fun i=>mkE 52 [(0,.sl 2 (lvs L)),(3,I i)]) (fun _=>σ) ?_ ?_ rfl rfl
 · intro i hi hp J hJ;have hx:=lvs_D L i hi;have hF:labOk L i=false→(List.range L.length).all (labOk L)=false:=fun h=>List.all_eq_false.2 ⟨i,List.mem_range.2 hi,by rw[h];decide⟩
   have hin:=wrap_succ (i:=i) (by omega)
   have d0:decide ((0:Int)<i)=decide (0<i):=by rw[Bool.eq_iff_iff];simp
   have hO:labOk L i=(nameB (L.getD i noLb).1&&(valB (L.getD i noLb).2&& !(decide (0<i)&&leS (L.getD i noLb).1 (L.getD (i-1) noLb).1))):=rfl
   have hsz:(L.getD i noLb).1.size≤100000:=by
    rw[List.getD_eq_getElem?_getD,List.getElem?_eq_getElem hi];exact hs _ (List.getElem_mem hi)
   rw[hO]at hJ hF;generalize L.getD i noLb=x at hJ hF hx hsz;obtain⟨nm,v⟩:=x;simp only at hJ hF hx hsz;have n1:=fun s=>z5W s nm hsz
   have n2:=fun s=>zeW s v
   simp -implicitDefEqProofs only[mkE,go_sem,z00,z0m,z09 hi,dec_lt hi,hx]
   first|refine CD.intro (n1 _) ?_|refine CS.intro n1 ?_
   cases hb1:nameB nm with
   |false =>
    rw[hb1]at hF;rw[hF rfl];simp -implicitDefEqProofs only[go_sem,z00];exact Fini.ret rfl
   |true =>
    rw[hb1]at hF hJ;simp -implicitDefEqProofs only[go_sem,z00,z0m,z09 hi,hx]
    first|refine CD.intro (n2 _) ?_|refine CS.intro n2 ?_
    cases hb2:valB v with
    |false =>
     rw[hb2]at hF;rw[hF rfl];simp -implicitDefEqProofs only[go_sem,z00];exact Fini.ret rfl
    |true =>
     rw[hb2]at hF hJ;by_cases hz:i=0
     · subst hz;have hgo:=hJ rfl;simp -implicitDefEqProofs only[go_sem,z00,d0,hin];exact hgo
     · have hpos:decide (0<i)=true:=decide_eq_true (by omega)
       have hx1:=lvs_D L (i-1) (by omega)
       have w1:IntKind.i64.wrap ((i:Int)-1)=((i-1:Nat):Int):=by rw[wrapN (by omega) (by omega)];omega
       have hlt1:(((i-1:Nat):Int)<L.length)=True:=by simp;omega
       rw[hpos]at hJ hF;generalize L.getD (i-1) noLb=x1 at hJ hF hx1;obtain⟨nm1,v1⟩:=x1;simp only at hJ hF hx1;have hle:(Op.bytesLess nm.toList nm1.toList||nm.toList==nm1.toList)=leS nm nm1:=rfl;simp -implicitDefEqProofs only[go_sem,z00,d0,hpos,w1,z0m,z09 hi,hx,hlt1,hx1,hle]
       cases h7:leS nm nm1 with
       |true =>
        rw[h7]at hF;rw[hF rfl];simp -implicitDefEqProofs only[go_sem];exact Fini.ret rfl
       |false =>
        rw[h7]at hJ;have hgo:=hJ rfl;simp -implicitDefEqProofs only[go_sem,hin];exact hgo
 · intro hp J;have hd:decide ((L.length:Int)<L.length)=false:=by simp
   simp -implicitDefEqProofs only[mkE,go_sem,z0m,hd];refine Fini.ret' rfl (z1d ?_);exact(List.all_eq_true.2 fun i hi=>hp i (List.mem_range.1 hi)).symm
end
theorem z6d (σ:St) (b:Byt) (hb:b.length≤50000):Ans Tryz.prog 141 [.sl 1 (byv b)] σ (readV (setR b) b lsV .nils) σ:=by
 refine Ans.of_run' t141 (fun hbel _=>?_)
 simp -implicitDefEqProofs only[c141,r141,go_sem];refine CO.intro (z1r σ b (by omega)) ?_
 cases hg:getN 0 b with
 |none =>
  have hR:setR b=none:=by simp only[setR,onlyR,rowR,numR,hg,Option.bind_none]
  rw[z0N hg,hR];simp -implicitDefEqProofs only[go_sem];exact Fini.ret rfl
 |some p =>
  obtain⟨n,t⟩:=p;rw[z0S hg];have e1:decide ((6:Int)<n)=decide (6<n):=decNN 6 n;by_cases h5:6<n
  · have hR:setR b=none:=by simp only[setR,onlyR,rowR,numR,hg,Option.bind_some,show ¬n≤6 by omega,if_false,Option.bind_none]
    rw[hR];simp -implicitDefEqProofs only[go_sem,e1,decide_eq_true h5];exact Fini.ret rfl
  · have hN:numR 6 b=some (n,t):=by simp only[numR,hg,Option.bind_some,show n≤6 by omega,if_true]
    have hR:setR b=(manyR labR n t).bind fun x=>if setB x.1 then some x else none:=by simp only[setR,onlyR,rowR,hN,Option.bind_some]
    obtain⟨hd0,_,hl0⟩:=(ends_num 6).drop (b:=b) (a:=0) (Nat.zero_le _) hN;have hwn:=wrapI (a:=n) (by omega)
    simp -implicitDefEqProofs only[go_sem,e1,decide_eq_false h5]
    refine Go.Ab.L.intro (α:={ p:Nat×List Lab×Nat // p.1≤n∧p.2.1.length=p.1∧p.2.2≤b.length∧(∀x∈p.2.1,x.1.size≤100000)∧manyR labR n t=(manyR labR (n-p.1) (b.drop p.2.2)).map fun r=>(p.2.1++r.1,r.2) }) (fun p=>n-p.1.1)
     (fun p=>mkE 71 [(0,.sl 1 (byv b)),(5,UN n),(6,I p.1.2.2),(8,.osl σ.length p.1.1),(9,I p.1.1)]) (fun p=>σ++[.row 2 (lvs p.1.2.1)]) ?_ ⟨(0,[],b.length-t.length),Nat.zero_le _,rfl,Nat.sub_le _ _,by simp,by rw[hd0];cases manyR labR n t<;>simp⟩ rfl rfl
    rintro⟨⟨i,l,at_⟩,hi,hll,hat,hsz,hm⟩ J hJ;simp only at hi hll hat hsz hm hJ;have hlm:(lvs l).length=i:=by rw[z0m,hll]
    have hbm:∀k,Bel k (.sl 2 (lvs l)):=fun k=>z0d _ _
    by_cases hlt:i<n
    · obtain⟨m,hmm⟩:∃m,n-i=m+1:=⟨n-i-1,by omega⟩
      rw[hmm,z6b,zgN]at hm;have d0:decide ((i:Int)<n)=true:=dec_lt hlt;have leA:(((at_:Nat):Int)≤(b.length:Nat))=True:=eq_true (by omega)
      simp -implicitDefEqProofs only[mkE,go_sem,hwn,d0,z01,leA,z0D,z0E,List.take_length,Int.le_refl];refine CO.intro (z1q _ (b.drop at_) 12 (by rw[List.length_drop];omega) (by decide)) ?_
      cases ht1:textR 12 (b.drop at_) with
      |none =>
       rw[ht1]at hm;simp only[Option.bind_none,Option.map_none]at hm;rw[hm]at hR;simp only[Option.bind_none]at hR;rw[z0Q ht1,hR];simp -implicitDefEqProofs only[go_sem];exact Fini.trim2 (σ':=σ) rfl rfl (Nat.le_refl _) (by unfold readV;exact z0b .nils) hbel
      |some x1 =>
       obtain⟨nm,u2⟩:=x1;obtain⟨q1,q2,q3⟩:=(z0T 12).drop (b:=b) (a:=at_) hat ht1;have hs1:=((z1s (most:=12) (by decide)).bwd _ _ _ ht1).1
       have a1:=addN (a:=at_) (b:=(b.drop at_).length-u2.length) (by rw[List.length_drop];omega)
       have e2:at_+((b.drop at_).length-u2.length)=b.length-u2.length:=by rw[List.length_drop];omega
       rw[e2]at a1;have hle2:(((b.length-u2.length:Nat):Int)≤(b.length:Nat))=True:=eq_true (by omega)
       rw[z1v ht1];simp -implicitDefEqProofs only[go_sem,a1,z01,hle2,z0D,z0E,List.take_length,Int.le_refl,q1];refine CO.intro (z1q _ u2 24 (by omega) (by decide)) ?_
       rw[ht1]at hm;simp only[Option.bind_some]at hm
       cases ht2:textR 24 u2 with
       |none =>
        rw[ht2]at hm;simp only[Option.bind_none,Option.map_none]at hm;rw[hm]at hR;simp only[Option.bind_none]at hR;rw[z0Q ht2,hR];simp -implicitDefEqProofs only[go_sem];exact Fini.trim2 (σ':=σ) rfl rfl (Nat.le_refl _) (by unfold readV;exact z0b .nils) hbel
       |some x2 =>
        obtain⟨v,u3⟩:=x2;have ht2':textR 24 (b.drop (b.length-u2.length))=some (v,u3):=by rw[q1];exact ht2
        obtain⟨z1,z2,z3⟩:=(z0T 24).drop (b:=b) (a:=b.length-u2.length) (by omega) ht2'
        have a2:=addN (a:=b.length-u2.length) (b:=u2.length-u3.length) (by omega)
        have e3:b.length-u2.length+(u2.length-u3.length)=b.length-u3.length:=by omega
        rw[e3]at a2;rw[ht2]at hm;simp only[Option.bind_some,Option.map_some]at hm;have hin:=wrap_succ (i:=i) (by omega)
        have hle:i+1≤4294967296:=by omega
        have hgo:=hJ ⟨(i+1,l++[(nm,v)],b.length-u3.length),by simp only;omega,by simp[hll],by simp only;omega,(by
         intro y hy;simp only[List.mem_append,List.mem_singleton]at hy;rcases hy with hy|rfl
         · exact hsz y hy
         · simp only;omega),(by
         simp only;rw[hm,z1,show n-(i+1)=m by omega]
         cases manyR labR m u3<;>simp)⟩ (by simp only;omega)
        have hsn:=z8I l (nm,v);rw[z1v ht2];simp -implicitDefEqProofs only[go_sem,a2,g0,s0,hlm,List.length_singleton,hle,hin];simp only[←hsn]at hgo;exact hgo
    · have hie:i=n:=by omega
      subst hie;have d0:decide ((i:Int)<i)=false:=by simp
      rw[Nat.sub_self]at hm;simp only[manyR,Option.map_some,List.append_nil]at hm;rw[hm]at hR;simp only[Option.bind_some]at hR;simp -implicitDefEqProofs only[mkE,go_sem,hwn,d0,g0,s0,hlm];refine CO.intro (z27 _ l hsz) ?_
      cases hlb:setB l with
      |false =>
       rw[hlb]at hR;simp only[Bool.false_eq_true,if_false]at hR;rw[hR];simp -implicitDefEqProofs only[go_sem];exact Fini.trim2 (σ':=σ) rfl rfl (Nat.le_refl _) (by unfold readV;exact z0b .nils) hbel
      |true =>
       rw[hlb]at hR;simp only[if_true]at hR;have hlen:b.length-(b.drop at_).length=at_:=by rw[List.length_drop];omega
       rw[hR];unfold readV;simp only[hlen];simp -implicitDefEqProofs only[go_sem];exact Fini.trim2 (σ':=σ) rfl rfl (Nat.le_refl _) (z0b (hbm _)) hbel
structure ReSm (r:ReM):Prop where
 mt:∀x∈r.mt,x.2.1.size≤100000
 ru:RSm r.ru
 ls:∀x∈r.ls,x.1.size≤100000
def docB (r:ReM) (s:ByteArray):Bool :=
 (hasC s 73||r.id==0)&&(decide (0≤r.id)&&(decide (r.id≤2147483647)&&((!hasC s 84||tokB r.txt)&&((hasC s 84||emS r.txt)&&((hasC s 83||emU r.st)&&((hasC s 83||emU r.en)&&(clkB r.st&&(clkB r.en&&((hasC s 90||r.sta==0)&&(decide (0≤r.sta)&&(decide (r.sta≤3)&&((hasC s 77||emI r.mt.length)&&((!hasC s 83|| !emI r.mt.length)&&(listB r.mt&&((hasC s 66||noBd (r.any,r.lo,r.hi))&&(mayB r.any r.lo r.hi&&((!hasC s 82||ruIs r.ru)&&((hasC s 82||noRl r.ru)&&(if hasC s 76 then setB r.ls else emI r.ls.length&&zF r.val)))))))))))))))))))
theorem ne_of {x:Int} {v:Bool} (h:(x==0)=v):(x != 0)= !v:=by rw[bne,h]
theorem lt_of {x:Int} {v:Bool} (h:decide (0≤x)=v):decide (x<0)= !v:=by
 rw[←h,Bool.eq_iff_iff];simp
theorem gt_of {x c:Int} {v:Bool} (h:decide (x≤c)=v):decide (c<x)= !v:=by
 rw[←h,Bool.eq_iff_iff];simp
abbrev S0:ByteArray:=⟨#[45]⟩
theorem hc_0:hasC S0 73=false∧hasC S0 84=false∧hasC S0 83=false∧hasC S0 90=false∧hasC S0 77=false∧hasC S0 66=false∧hasC S0 82=false∧hasC S0 76=false:=by decide +kernel
theorem hn_0:(S0.toList==(⟨#[]⟩:ByteArray).toList)=false:=by decide +kernel
abbrev S1:ByteArray:=⟨#[73]⟩
theorem hc_1:hasC S1 73=true∧hasC S1 84=false∧hasC S1 83=false∧hasC S1 90=false∧hasC S1 77=false∧hasC S1 66=false∧hasC S1 82=false∧hasC S1 76=false:=by decide +kernel
theorem hn_1:(S1.toList==(⟨#[]⟩:ByteArray).toList)=false:=by decide +kernel
abbrev S3:ByteArray:=⟨#[73,84]⟩
theorem hc_3:hasC S3 73=true∧hasC S3 84=true∧hasC S3 83=false∧hasC S3 90=false∧hasC S3 77=false∧hasC S3 66=false∧hasC S3 82=false∧hasC S3 76=false:=by decide +kernel
theorem hn_3:(S3.toList==(⟨#[]⟩:ByteArray).toList)=false:=by decide +kernel
abbrev S116:ByteArray:=⟨#[83,69,77,66]⟩
theorem zdo:hasC S116 73=false∧hasC S116 84=false∧hasC S116 83=true∧hasC S116 90=false∧hasC S116 77=true∧hasC S116 66=true∧hasC S116 82=false∧hasC S116 76=false:=by decide +kernel
theorem zhZ:(S116.toList==(⟨#[]⟩:ByteArray).toList)=false:=by decide +kernel
abbrev S117:ByteArray:=⟨#[73,83,69,77,66]⟩
theorem zdp:hasC S117 73=true∧hasC S117 84=false∧hasC S117 83=true∧hasC S117 90=false∧hasC S117 77=true∧hasC S117 66=true∧hasC S117 82=false∧hasC S117 76=false:=by decide +kernel
theorem zi0:(S117.toList==(⟨#[]⟩:ByteArray).toList)=false:=by decide +kernel
abbrev S8:ByteArray:=⟨#[90]⟩
theorem hc_8:hasC S8 73=false∧hasC S8 84=false∧hasC S8 83=false∧hasC S8 90=true∧hasC S8 77=false∧hasC S8 66=false∧hasC S8 82=false∧hasC S8 76=false:=by decide +kernel
theorem hn_8:(S8.toList==(⟨#[]⟩:ByteArray).toList)=false:=by decide +kernel
abbrev S128:ByteArray:=⟨#[82]⟩
theorem zdq:hasC S128 73=false∧hasC S128 84=false∧hasC S128 83=false∧hasC S128 90=false∧hasC S128 77=false∧hasC S128 66=false∧hasC S128 82=true∧hasC S128 76=false:=by decide +kernel
theorem zi1:(S128.toList==(⟨#[]⟩:ByteArray).toList)=false:=by decide +kernel
abbrev S768:ByteArray:=⟨#[76,86]⟩
theorem zdr:hasC S768 73=false∧hasC S768 84=false∧hasC S768 83=false∧hasC S768 90=false∧hasC S768 77=false∧hasC S768 66=false∧hasC S768 82=false∧hasC S768 76=true:=by decide +kernel
theorem zi2:(S768.toList==(⟨#[]⟩:ByteArray).toList)=false:=by decide +kernel
abbrev S16:ByteArray:=⟨#[77]⟩
theorem hc_16:hasC S16 73=false∧hasC S16 84=false∧hasC S16 83=false∧hasC S16 90=false∧hasC S16 77=true∧hasC S16 66=false∧hasC S16 82=false∧hasC S16 76=false:=by decide +kernel
theorem hn_16:(S16.toList==(⟨#[]⟩:ByteArray).toList)=false:=by decide +kernel
attribute [go_sem] Bool.not_false Bool.not_true hn_0 hn_1 hn_3 zhZ zi0 hn_8 zi1 zi2 hn_16
end Go.Proofs.YtmkmhhjkdaklbaaGreat
