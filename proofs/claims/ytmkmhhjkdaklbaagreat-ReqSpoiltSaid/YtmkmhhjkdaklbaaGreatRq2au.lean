/- What the functions do, over abstract values: printed by a program, checked by the kernel. No condition. -/
import Derived.Test.YtmkmhhjkdaklbaaGreatProg
import Derived.Test.YtmkmhhjkdaklbaaGreatAbStepu
import Derived.Test.YtmkmhhjkdaklbaaGreatXRu8u
import Derived.Test.YtmkmhhjkdaklbaaGreatXRu3u
import Derived.Test.YtmkmhhjkdaklbaaGreatXRu4u
import Derived.Test.YtmkmhhjkdaklbaaGreatXLs2u
set_option linter.unusedSimpArgs false
set_option linter.unusedVariables false
set_option linter.unusedSectionVars false
namespace Go.Proofs.YtmkmhhjkdaklbaaGreat
open Go Go.Ab
set_option maxRecDepth 100000
def c48:ACode :=
 (sq_ [pr_ 2 (mi_ .u64 0)]
 (.seq (sq_ [mv_ 3 0,
 mv_ 4 0,
 pr_ 5 (bt_ .neq 3 4)]
 (.cond (.tmp 5)
 (sq_ [pr_ 2 (mi_ .u64 9221120237041090561)]
 .ret)
 .skip))
 (sq_ [mv_ 6 0,
 c1_ 7 47 6,
 mv_ 2 7]
 .ret)))
def o48:List Tmp:=[]
def r48:List RV:=[.tmp 2]
theorem t48:Text Tryz.prog 48 o48 c48 r48 8:=.mk_ Tryz.f48 rfl
def c67:ACode :=
 (sq_ [pr_ 1 (.boxr (.tmp 0)),
 pr_ 2 mf_]
 (.seq (sq_ [pr_ 4 (fa_ 0 1),
 pr_ 5 (lf_ 1 4),
 pr_ 6 (.lenv (.tmp 5)),
 pr_ 7 (bk_ .eql 6 .i64 0),
 mv_ 8 7,
 gp_ 9 8 false (fa_ 1 1),
 gp_ 10 8 false (lf_ 1 9),
 gp_ 11 8 false (.lenv (.tmp 10)),
 gp_ 12 8 false (bk_ .eql 11 .i64 0),
 pr_ 13 (po_ 8 12),
 mv_ 14 13,
 gp_ 15 14 false (fa_ 0 1),
 gp_ 16 14 false (lf_ 1 15),
 gc_ 17 14 false 117 [(.tmp 16)],
 gp_ 18 14 false (no_ 17),
 pr_ 19 (po_ 14 18),
 mv_ 20 19,
 gp_ 21 20 false (fa_ 1 1),
 gp_ 22 20 false (lf_ 1 21),
 gc_ 23 20 false 117 [(.tmp 22)],
 gp_ 24 20 false (no_ 23),
 pr_ 25 (po_ 20 24),
 mv_ 26 25,
 gp_ 27 26 false (fa_ 2 1),
 gp_ 28 26 false (lt_ 3 27),
 gc_ 29 26 false 120 [(.tmp 28)],
 gp_ 30 26 false (no_ 29),
 pr_ 31 (po_ 26 30),
 mv_ 32 31,
 gp_ 33 32 false (fa_ 5 1),
 gp_ 34 32 false (lf_ 1 33),
 gp_ 35 32 false (.lenv (.tmp 34)),
 gp_ 36 32 false (bk_ .gtr 35 .i64 4),
 pr_ 37 (po_ 32 36)]
 (.cond (.tmp 37)
 (sq_ [pr_ 2 mf_]
 .ret)
 .skip))
 (.seq (sq_ [pr_ 3 (mi_ .i64 0)]
 (.block 0 (.loop [0,2,4,5,6,7,8,9,10,11,12,13,14,15,16,17,18,19,20,21,22,23,24,25,26,27,28,29,30,31,32,33,34,35,36,37,38,39,40,41,42,43,44,45,46,47,48,49,50,51,52,53,54,55,56,57,58,59,60,61,62,63,64,65,66,67,68,69] (.seq (sq_ [mv_ 38 3,
 pr_ 39 (fa_ 5 1),
 pr_ 40 (lf_ 1 39),
 pr_ 41 (.lenv (.tmp 40)),
 pr_ 42 (bt_ .lss 38 41)]
 (.cond (.tmp 42)
 .skip
 (.exit 0)))
 (.seq (.block 1 (.seq (.draw [⟨pr_ 45 (fa_ 5 1),[],false,0,0⟩,
 ⟨pr_ 46 (lf_ 1 45),[0],false,0,0⟩,
 ⟨mv_ 47 3,[],false,0,0⟩,
 ⟨pr_ 48 (.iadrs 1 (.tmp 46) (.tmp 47)),[0,1,2],false,0,0⟩,
 ⟨pr_ 49 (lf_ 1 48),[0,1,2,3],false,0,0⟩,
 ⟨c1_ 50 121 49,[0,1,2,3,4],true,0,0⟩,
 ⟨pr_ 51 (no_ 50),(List.range 6),false,1,1⟩,
 ⟨mv_ 52 51,(List.range 7),false,1,1⟩,
 ⟨gp_ 53 52 false (mo_ 3),(List.range 8),false,1,1⟩,
 ⟨gp_ 54 52 false (bk_ .gtr 53 .i64 0),(List.range 9),false,1,1⟩,
 ⟨gp_ 55 52 false (mo_ 54),(List.range 10),false,1,1⟩,
 ⟨gp_ 56 55 true (fa_ 5 1),(List.range 11),false,1,1⟩,
 ⟨gp_ 57 55 true (lf_ 1 56),(List.range 12),false,1,1⟩,
 ⟨gp_ 58 55 true (mo_ 3),(List.range 11),false,1,1⟩,
 ⟨gp_ 59 55 true (.iadrs 1 (.tmp 57) (.tmp 58)),(List.range 14),false,1,1⟩,
 ⟨gp_ 60 55 true (lf_ 1 59),(List.range 15),false,1,1⟩,
 ⟨gp_ 61 55 true (fa_ 5 1),(List.range 11),false,1,1⟩,
 ⟨gp_ 62 55 true (lf_ 1 61),[0,1,2,3,4,5,6,7,8,9,10,16],false,1,1⟩,
 ⟨gp_ 63 55 true (mo_ 3),(List.range 11),false,1,1⟩,
 ⟨gp_ 64 55 true (bk_ .sub 63 .i64 1),[0,1,2,3,4,5,6,7,8,9,10,18],false,1,1⟩,
 ⟨gp_ 65 55 true (.iadrs 1 (.tmp 62) (.tmp 64)),[0,1,2,3,4,5,6,7,8,9,10,16,17,18,19],false,1,1⟩,
 ⟨gp_ 66 55 true (lf_ 1 65),[0,1,2,3,4,5,6,7,8,9,10,16,17,18,19,20],false,1,1⟩,
 ⟨gp_ 67 55 true (bt_ .leq 60 66),(List.range 22),false,1,1⟩,
 ⟨gp_ 68 52 false (pa_ 55 67),(List.range 23),false,1,1⟩,
 ⟨pr_ 69 (po_ 52 68),(List.range 24),false,1,1⟩])
 (.cond (.tmp 69)
 (sq_ [pr_ 2 mf_]
 .ret)
 .skip)))
 (.ops [mv_ 43 3,
 pr_ 44 (bk_ .add 43 .i64 1),
 mv_ 3 44]))))))
 (sq_ [pr_ 2 mt_]
 .ret))))
def o67:List Tmp:=[]
def r67:List RV:=[.tmp 2]
theorem t67:Text Tryz.prog 67 o67 c67 r67 70:=.mk_ Tryz.f67 rfl
def c120:ACode :=
 (sq_ [pr_ 1 (.boxr (.tmp 0)),
 pr_ 2 mf_]
 (.seq (sq_ [pr_ 3 (fa_ 0 1),
 pr_ 4 (lf_ 1 3)]
 (.cond (.tmp 4)
 (sq_ [pr_ 5 (fa_ 1 1),
 pr_ 6 (lf_ 1 5),
 c1_ 7 48 6,
 pr_ 8 (bk_ .eql 7 .u64 0),
 mv_ 9 8,
 gp_ 10 9 true (fa_ 2 1),
 gp_ 11 9 true (lf_ 1 10),
 gc_ 12 9 true 48 [(.tmp 11)],
 gp_ 13 9 true (bk_ .eql 12 .u64 0),
 pr_ 14 (pa_ 9 13),
 mv_ 2 14]
 .ret)
 .skip))
 (sq_ [pr_ 15 (fa_ 1 1),
 pr_ 16 (lf_ 1 15),
 pr_ 17 (fa_ 2 1),
 pr_ 18 (lf_ 1 17),
 pr_ 19 (bt_ .leq 16 18),
 mv_ 2 19]
 .ret)))
def o120:List Tmp:=[]
def r120:List RV:=[.tmp 2]
theorem t120:Text Tryz.prog 120 o120 c120 r120 20:=.mk_ Tryz.f120 rfl
end Go.Proofs.YtmkmhhjkdaklbaaGreat
namespace Go.Proofs.YtmkmhhjkdaklbaaGreat
open Go Go.Ab Go.Cod
set_option maxRecDepth 100000
section
variable (σ:St)
theorem z0D (a:Nat):Ans Tryz.prog 48 [Fl a] σ (UN (bitsF a)) σ:=by
 refine Ans.of_run t48 ?_;unfold bitsF;simp -implicitDefEqProofs only[c48,r48,go_sem,z4E]
 cases nanF a with
 |true =>
  simp -implicitDefEqProofs only[go_sem];exact Fini.ret rfl
 |false =>
  simp -implicitDefEqProofs only[go_sem];refine CO.intro (z6b σ a) ?_;simp -implicitDefEqProofs only[go_sem];exact Fini.ret rfl
theorem z29 (any:Bool) (lo hi:Nat):Ans Tryz.prog 120 [.agg [Bo any,Fl lo,Fl hi]] σ (Bo (mayB any lo hi)) σ:=by
 refine Ans.of_run t120 ?_;unfold mayB
 cases any with
 |true =>
  simp -implicitDefEqProofs only[c120,r120,go_sem];refine CO.intro (z0D σ lo) ?_
  cases h:(((bitsF lo:Nat):Int)==0) with
  |false =>
   simp -implicitDefEqProofs only[go_sem,h];exact Fini.ret rfl
  |true =>
   simp -implicitDefEqProofs only[go_sem,h];refine CO.intro (z0D σ hi) ?_;simp -implicitDefEqProofs only[go_sem,h];exact Fini.ret rfl
 |false =>
  simp -implicitDefEqProofs only[c120,r120,go_sem,zd0];exact Fini.ret rfl
structure RSm (r:RuM):Prop where
 src:∀x∈r.src,x.2.1.size≤100000
 tgt:∀x∈r.tgt,x.2.1.size≤100000
 eq:∀s∈r.eq,s.size≤100000
theorem z1U (r:RuM) (hr:RSm r):Ans Tryz.prog 67 [ruV r] σ (Bo (ruIs r)) σ:=by
 obtain⟨src,tgt,any,lo,hi,eq⟩:=r;obtain⟨hs,ht,he⟩:=hr;simp only at hs ht he;have d4:decide ((4:Int)<eq.length)=decide (4<eq.length):=decNN 4 _;refine Ans.of_run t67 ?_;unfold ruIs ruV;simp only
 cases h1:(((src.length:Nat):Int)==0) with
 |true =>
  simp -implicitDefEqProofs only[c67,r67,go_sem,z0n,h1];exact Fini.ret rfl
 |false =>
 cases h2:(((tgt.length:Nat):Int)==0) with
 |true =>
  simp -implicitDefEqProofs only[c67,r67,go_sem,z0n,h1,h2];exact Fini.ret rfl
 |false =>
 simp -implicitDefEqProofs only[c67,r67,go_sem,z0n,h1,h2];refine CO.intro (z1o σ src hs) ?_
 cases h3:listB src with
 |false =>
  simp -implicitDefEqProofs only[go_sem];exact Fini.ret rfl
 |true =>
 simp -implicitDefEqProofs only[go_sem];refine CO.intro (z1o σ tgt ht) ?_
 cases h4:listB tgt with
 |false =>
  simp -implicitDefEqProofs only[go_sem];exact Fini.ret rfl
 |true =>
 simp -implicitDefEqProofs only[go_sem];refine CO.intro (z29 σ any lo hi) ?_
 cases h5:mayB any lo hi with
 |false =>
  simp -implicitDefEqProofs only[go_sem];exact Fini.ret rfl
 |true =>
 unfold eqB;by_cases h6:eq.length≤4
 · have x4:decide (4<eq.length)=false:=decide_eq_false (by omega)
   rw[decide_eq_true h6];simp -implicitDefEqProofs only[go_sem,z0A,d4,x4];refine Go.Ab.L.scan eq.length (eqOk eq) (fun i=>mkE 70 [(1,.rp [.sl 3 (mvs3 src),.sl 3 (mvs3 tgt),Bo any,Fl lo,Fl hi,.sl 1 (txs eq)]),(3,I i)]) (fun _=>σ) ?_ ?_ rfl rfl
   · intro i hi hp J hJ;have hx:=txs_D eq i hi
     have hsz:(eq.getD i ⟨#[]⟩).size≤100000:=by
      rw[List.getD_eq_getElem?_getD,List.getElem?_eq_getElem hi];exact he _ (List.getElem_mem hi)
     have hF:eqOk eq i=false→(List.range eq.length).all (eqOk eq)=false:=fun h=>List.all_eq_false.2 ⟨i,List.mem_range.2 hi,by rw[h];decide⟩
     have hin:=wrap_succ (i:=i) (by omega)
     have d0:decide ((0:Int)<i)=decide (0<i):=by rw[Bool.eq_iff_iff];simp
     have hO:eqOk eq i=(nameB (eq.getD i ⟨#[]⟩)&& !(decide (0<i)&&leS (eq.getD i ⟨#[]⟩) (eq.getD (i-1) ⟨#[]⟩))):=rfl;rw[hO]at hJ hF;have hnm:=fun σ=>z63 σ (eq.getD i ⟨#[]⟩) hsz
     simp -implicitDefEqProofs only[mkE,go_sem,z0A,z0f hi,dec_lt hi,hx,z00]
     first|refine CD.intro (hnm _) ?_|refine CS.intro hnm ?_
     generalize eq.getD i ⟨#[]⟩=s at hJ hF hx
     cases hb:nameB s with
     |false =>
      rw[hb]at hF;rw[hF rfl];simp -implicitDefEqProofs only[go_sem];exact Fini.ret rfl
     |true =>
      rw[hb]at hJ hF;by_cases hz:i=0
      · subst hz;have hgo:=hJ rfl;simp -implicitDefEqProofs only[go_sem,d0,hin];exact hgo
      · have hpos:decide (0<i)=true:=decide_eq_true (by omega)
        have hx1:=txs_D eq (i-1) (by omega)
        have w1:IntKind.i64.wrap ((i:Int)-1)=((i-1:Nat):Int):=by rw[wrapN (by omega) (by omega)];omega
        have hlt1:(((i-1:Nat):Int)<eq.length)=True:=by simp;omega
        rw[hpos]at hJ hF;generalize eq.getD (i-1) ⟨#[]⟩=s1 at hJ hF hx1;have hle:(Op.bytesLess s.toList s1.toList||s.toList==s1.toList)=leS s s1:=rfl;simp -implicitDefEqProofs only[go_sem,d0,hpos,w1,z0A,hlt1,hx1,hx,z0f hi,hle]
        cases h7:leS s s1 with
        |true =>
         rw[h7]at hF;rw[hF rfl];simp -implicitDefEqProofs only[go_sem];exact Fini.ret rfl
        |false =>
         rw[h7]at hJ;have hgo:=hJ rfl;simp -implicitDefEqProofs only[go_sem,hin];exact hgo
   · intro hp J;have hd:decide ((eq.length:Int)<eq.length)=false:=by simp
     simp -implicitDefEqProofs only[mkE,go_sem,z0A,hd];refine Fini.ret' rfl (z0U ?_);exact(List.all_eq_true.2 fun i hi=>hp i (List.mem_range.1 hi)).symm
 · have x4:decide (4<eq.length)=true:=decide_eq_true (by omega)
   rw[decide_eq_false h6];simp -implicitDefEqProofs only[go_sem,z0A,d4,x4];exact Fini.ret rfl
end
end Go.Proofs.YtmkmhhjkdaklbaaGreat
namespace Go.Proofs.YtmkmhhjkdaklbaaGreat
open Go Go.Ab
set_option maxRecDepth 100000
def c18:ACode :=
 (sq_ [pr_ 2 (.allocm [.nils,.nils,.pl (.bool false),.pl (.float .f64 0),.pl (.float .f64 0),.nils]),
 pr_ 3 (mi_ .i64 0),
 pr_ 4 mf_]
 (sq_ [pr_ 17 (.build [.nils,.nils,.pl (.bool false),.pl (.float .f64 0),.pl (.float .f64 0),.nils] []),
 ⟨some 5,none,.fresh 6 5 (.tmp 17)⟩]
 (sq_ [pr_ 18 (.build [.nils,.nils,.pl (.bool false),.pl (.float .f64 0),.pl (.float .f64 0),.nils] []),
 pr_ 6 (.allocm [.nils,.nils,.pl (.bool false),.pl (.float .f64 0),.pl (.float .f64 0),.nils]),
 st_ (so_ 6 6 18)]
 (sq_ [mv_ 20 0,
 c1_ 21 63 20,
 mv_ 19 21,
 pr_ 22 (ex_ 0 19),
 pr_ 23 (ex_ 1 19),
 pr_ 24 (ex_ 2 19),
 mv_ 7 22,
 mv_ 8 23,
 mv_ 9 24]
 (.seq (sq_ [mv_ 25 9,
 pr_ 26 (no_ 25)]
 (.cond (.tmp 26)
 (sq_ [pr_ 27 (lt_ 6 5),
 st_ (so_ 6 2 27),
 pr_ 3 (mi_ .i64 0),
 pr_ 4 mf_]
 .ret)
 .skip))
 (sq_ [mv_ 28 7,
 pr_ 29 (fa_ 0 6),
 st_ (so_ 1 29 28)]
 (sq_ [mv_ 31 0,
 mv_ 32 8,
 pr_ 33 (.slcv 1 (.tmp 31) (some (.tmp 32)) none),
 c1_ 34 63 33,
 mv_ 30 34,
 pr_ 35 (ex_ 0 30),
 pr_ 36 (ex_ 1 30),
 pr_ 37 (ex_ 2 30),
 mv_ 7 35,
 mv_ 10 36,
 mv_ 9 37]
 (.seq (sq_ [mv_ 38 9,
 pr_ 39 (no_ 38)]
 (.cond (.tmp 39)
 (sq_ [pr_ 40 (lt_ 6 5),
 st_ (so_ 6 2 40),
 pr_ 3 (mi_ .i64 0),
 pr_ 4 mf_]
 .ret)
 .skip))
 (sq_ [mv_ 41 7,
 pr_ 42 (fa_ 1 6),
 st_ (so_ 1 42 41)]
 (sq_ [mv_ 43 8,
 mv_ 44 10,
 pr_ 45 (bt_ .add 43 44),
 mv_ 8 45]
 (sq_ [mv_ 47 0,
 mv_ 48 8,
 pr_ 49 (.slcv 1 (.tmp 47) (some (.tmp 48)) none),
 c1_ 50 64 49,
 mv_ 46 50,
 pr_ 51 (ex_ 0 46),
 pr_ 52 (ex_ 1 46),
 pr_ 53 (ex_ 2 46),
 ⟨some 11,none,.fresh 3 11 (.tmp 51)⟩,
 mv_ 10 52,
 mv_ 9 53]
 (.seq (sq_ [mv_ 54 9,
 pr_ 55 (no_ 54)]
 (.cond (.tmp 55)
 (sq_ [pr_ 56 (lt_ 6 5),
 st_ (so_ 6 2 56),
 pr_ 3 (mi_ .i64 0),
 pr_ 4 mf_]
 .ret)
 .skip))
 (sq_ [pr_ 57 (lt_ 3 11),
 pr_ 58 (fa_ 2 6),
 st_ (so_ 3 58 57)]
 (sq_ [mv_ 59 8,
 mv_ 60 10,
 pr_ 61 (bt_ .add 59 60),
 mv_ 8 61]
 (sq_ [mv_ 63 0,
 mv_ 64 8,
 pr_ 65 (.slcv 1 (.tmp 63) (some (.tmp 64)) none),
 c1_ 66 65 65,
 mv_ 62 66,
 pr_ 67 (ex_ 0 62),
 pr_ 68 (ex_ 1 62),
 pr_ 69 (ex_ 2 62),
 mv_ 12 67,
 mv_ 10 68,
 mv_ 9 69]
 (.seq (sq_ [mv_ 70 9,
 pr_ 71 (no_ 70),
 mv_ 72 71,
 gp_ 73 72 false (mo_ 12),
 gp_ 74 72 false (bk_ .gtr 73 .u64 4),
 pr_ 75 (po_ 72 74)]
 (.cond (.tmp 75)
 (sq_ [pr_ 76 (lt_ 6 5),
 st_ (so_ 6 2 76),
 pr_ 3 (mi_ .i64 0),
 pr_ 4 mf_]
 .ret)
 .skip))
 (sq_ [mv_ 77 8,
 mv_ 78 10,
 pr_ 79 (bt_ .add 77 78),
 mv_ 8 79]
 (.seq (sq_ [pr_ 13 (mi_ .i64 0)]
 (.block 0 (.loop [1,3,4,7,9,10,11,14,15,16,17,18,19,20,21,22,23,24,25,26,27,28,29,30,31,32,33,34,35,36,37,38,39,40,41,42,43,44,45,46,47,48,49,50,51,52,53,54,55,56,57,58,59,60,61,62,63,64,65,66,67,68,69,70,71,72,73,74,75,76,77,78,79,80,81,82,83,84,85,86,87,88,89,90,91,92,93,94,95,96,97,98,99,100,101,102,103,104,105,106,107,108,109,110,111] (.seq (sq_ [mv_ 80 13,
 mv_ 81 12,
 pr_ 82 (.convi .i64 (.tmp 81)),
 pr_ 83 (bt_ .lss 80 82)]
 (.cond (.tmp 83)
 .skip
 (.exit 0)))
 (.seq (.block 1 (sq_ [mv_ 87 0,
 mv_ 88 8,
 pr_ 89 (.slcv 1 (.tmp 87) (some (.tmp 88)) none),
 cl_ 90 66 [(.tmp 89),(.const (.int .i64 12))],
 mv_ 86 90,
 pr_ 91 (ex_ 0 86),
 pr_ 92 (ex_ 1 86),
 pr_ 93 (ex_ 2 86),
 mv_ 14 91,
 mv_ 15 92,
 mv_ 16 93]
 (.seq (sq_ [mv_ 94 16,
 pr_ 95 (no_ 94)]
 (.cond (.tmp 95)
 (sq_ [pr_ 96 (lt_ 6 5),
 st_ (so_ 6 2 96),
 pr_ 3 (mi_ .i64 0),
 pr_ 4 mf_]
 .ret)
 .skip))
 (sq_ [mv_ 97 8,
 mv_ 98 15,
 pr_ 99 (bt_ .add 97 98),
 mv_ 8 99]
 (.ops [pr_ 100 (fa_ 5 6),
 pr_ 101 (lf_ 1 100),
 mv_ 102 14,
 pr_ 103 (.bsl false 1 false 1 [.pl (.string .empty)] [(0,1,(.tmp 102))]),
 pr_ 104 (.app 1 (.tmp 101) (.tmp 103)),
 pr_ 105 (fa_ 5 6),
 st_ (so_ 1 105 104)])))))
 (.ops [mv_ 84 13,
 pr_ 85 (bk_ .add 84 .i64 1),
 mv_ 13 85]))))))
 (.seq (.seq (.ghost (.shutc 6 5 1) (.ops [pr_ 106 (lt_ 6 6),
 c1_ 107 67 106,
 pr_ 108 (no_ 107)]))
 (.cond (.tmp 108)
 (sq_ [pr_ 109 (lt_ 6 5),
 st_ (so_ 6 2 109),
 pr_ 3 (mi_ .i64 0),
 pr_ 4 mf_]
 .ret)
 .skip))
 (sq_ [pr_ 110 (lt_ 6 6),
 mv_ 111 8,
 st_ (so_ 6 2 110),
 mv_ 3 111,
 pr_ 4 mt_]
 .ret))))))))))))))))))))
def o18:List Tmp:=[2,6]
def r18:List RV:=[.cell 2 6 true,.tmp 3,.tmp 4]
theorem t18:Text Tryz.prog 18 o18 c18 r18 112:=.mk_ Tryz.f18 rfl
def c21:ACode :=
 (sq_ [pr_ 2 (.boxr (.tmp 0)),
 pr_ 3 (.boxr (.tmp 1)),
 pr_ 4 mf_]
 (.seq (sq_ [pr_ 6 (fa_ 5 2),
 pr_ 7 (lf_ 1 6),
 pr_ 8 (.lenv (.tmp 7)),
 pr_ 9 (fa_ 5 3),
 pr_ 10 (lf_ 1 9),
 pr_ 11 (.lenv (.tmp 10)),
 pr_ 12 (bt_ .neq 8 11),
 mv_ 13 12,
 gp_ 14 13 false (fa_ 0 2),
 gp_ 15 13 false (lf_ 1 14),
 gp_ 16 13 false (fa_ 0 3),
 gp_ 17 13 false (lf_ 1 16),
 gc_ 18 13 false 77 [(.tmp 15),(.tmp 17)],
 gp_ 19 13 false (no_ 18),
 pr_ 20 (po_ 13 19),
 mv_ 21 20,
 gp_ 22 21 false (fa_ 1 2),
 gp_ 23 21 false (lf_ 1 22),
 gp_ 24 21 false (fa_ 1 3),
 gp_ 25 21 false (lf_ 1 24),
 gc_ 26 21 false 77 [(.tmp 23),(.tmp 25)],
 gp_ 27 21 false (no_ 26),
 pr_ 28 (po_ 21 27),
 mv_ 29 28,
 gp_ 30 29 false (fa_ 2 2),
 gp_ 31 29 false (lt_ 3 30),
 gp_ 32 29 false (fa_ 2 3),
 gp_ 33 29 false (lt_ 3 32),
 gc_ 34 29 false 78 [(.tmp 31),(.tmp 33)],
 gp_ 35 29 false (no_ 34),
 pr_ 36 (po_ 29 35)]
 (.cond (.tmp 36)
 (sq_ [pr_ 4 mf_]
 .ret)
 .skip))
 (.seq (sq_ [pr_ 5 (mi_ .i64 0)]
 (.block 0 (.loop [0,1,4,6,7,8,9,10,11,12,13,14,15,16,17,18,19,20,21,22,23,24,25,26,27,28,29,30,31,32,33,34,35,36,37,38,39,40,41,42,43,44,45,46,47,48,49,50,51,52,53,54] (.seq (sq_ [mv_ 37 5,
 pr_ 38 (fa_ 5 2),
 pr_ 39 (lf_ 1 38),
 pr_ 40 (.lenv (.tmp 39)),
 pr_ 41 (bt_ .lss 37 40)]
 (.cond (.tmp 41)
 .skip
 (.exit 0)))
 (.seq (.block 1 (.seq (.draw [⟨pr_ 44 (fa_ 5 2),[],false,0,0⟩,
 ⟨pr_ 45 (lf_ 1 44),[0],false,0,0⟩,
 ⟨mv_ 46 5,[],false,0,0⟩,
 ⟨pr_ 47 (.iadrs 1 (.tmp 45) (.tmp 46)),[0,1,2],false,0,0⟩,
 ⟨pr_ 48 (lf_ 1 47),[0,1,2,3],false,0,0⟩,
 ⟨pr_ 49 (fa_ 5 3),[],false,0,0⟩,
 ⟨pr_ 50 (lf_ 1 49),[5],false,0,0⟩,
 ⟨mv_ 51 5,[],false,0,0⟩,
 ⟨pr_ 52 (.iadrs 1 (.tmp 50) (.tmp 51)),[5,6,7],false,0,0⟩,
 ⟨pr_ 53 (lf_ 1 52),[5,6,7,8],false,0,0⟩,
 ⟨pr_ 54 (bt_ .neq 48 53),(List.range 10),false,0,0⟩])
 (.cond (.tmp 54)
 (sq_ [pr_ 4 mf_]
 .ret)
 .skip)))
 (.ops [mv_ 42 5,
 pr_ 43 (bk_ .add 42 .i64 1),
 mv_ 5 43]))))))
 (sq_ [pr_ 4 mt_]
 .ret))))
def o21:List Tmp:=[]
def r21:List RV:=[.tmp 4]
theorem t21:Text Tryz.prog 21 o21 c21 r21 55:=.mk_ Tryz.f21 rfl
def c64:ACode :=
 (sq_ [pr_ 2 (.allocm [.pl (.bool false),.pl (.float .f64 0),.pl (.float .f64 0)]),
 pr_ 3 (mi_ .i64 0),
 pr_ 4 mf_]
 (.seq (sq_ [mv_ 14 0,
 pr_ 15 (.lenv (.tmp 14)),
 pr_ 16 (bk_ .gtr 15 .i64 0),
 mv_ 17 16,
 gp_ 18 17 true (mo_ 0),
 gp_ 19 17 true (.iadrs 1 (.tmp 18) (.const (.int .i64 0))),
 gp_ 20 17 true (lf_ 1 19),
 gp_ 21 17 true (bk_ .eql 20 .u8 1),
 pr_ 22 (pa_ 17 21)]
 (.cond (.tmp 22)
 (sq_ [pr_ 23 (.build [.pl (.bool false),.pl (.float .f64 0),.pl (.float .f64 0)] [(0,1,(.const (.bool true)))]),
 st_ (so_ 3 2 23),
 pr_ 3 (mi_ .i64 1),
 pr_ 4 mt_]
 .ret)
 .skip))
 (.seq (sq_ [mv_ 24 0,
 pr_ 25 (.lenv (.tmp 24)),
 pr_ 26 (bk_ .lss 25 .i64 17),
 mv_ 27 26,
 gp_ 28 27 false (mo_ 0),
 gp_ 29 27 false (.iadrs 1 (.tmp 28) (.const (.int .i64 0))),
 gp_ 30 27 false (lf_ 1 29),
 gp_ 31 27 false (bk_ .neq 30 .u8 0),
 pr_ 32 (po_ 27 31)]
 (.cond (.tmp 32)
 (sq_ [pr_ 33 (.build [.pl (.bool false),.pl (.float .f64 0),.pl (.float .f64 0)] []),
 st_ (so_ 3 2 33),
 pr_ 3 (mi_ .i64 0),
 pr_ 4 mf_]
 .ret)
 .skip))
 (sq_ [mv_ 35 0,
 pr_ 36 (.slcv 1 (.tmp 35) (some (.const (.int .i64 1))) none),
 c1_ 37 118 36,
 mv_ 34 37,
 pr_ 38 (ex_ 0 34),
 pr_ 39 (ex_ 1 34),
 mv_ 5 38,
 mv_ 6 39]
 (sq_ [mv_ 41 0,
 pr_ 42 (.slcv 1 (.tmp 41) (some (.const (.int .i64 9))) none),
 c1_ 43 118 42,
 mv_ 40 43,
 pr_ 44 (ex_ 0 40),
 pr_ 45 (ex_ 1 40),
 mv_ 7 44,
 mv_ 8 45]
 (sq_ [mv_ 47 5,
 c1_ 48 119 47,
 mv_ 46 48,
 pr_ 49 (ex_ 0 46),
 pr_ 50 (ex_ 1 46),
 mv_ 9 49,
 mv_ 10 50]
 (sq_ [mv_ 52 7,
 c1_ 53 119 52,
 mv_ 51 53,
 pr_ 54 (ex_ 0 51),
 pr_ 55 (ex_ 1 51),
 mv_ 11 54,
 mv_ 12 55]
 (sq_ [mv_ 56 9,
 mv_ 57 11,
 pr_ 58 (.build [.pl (.bool false),.pl (.float .f64 0),.pl (.float .f64 0)] [(1,1,(.tmp 56)),(2,1,(.tmp 57))]),
 ⟨some 13,none,.fresh 3 13 (.tmp 58)⟩]
 (.seq (sq_ [mv_ 59 10,
 pr_ 60 (no_ 59),
 mv_ 61 60,
 gp_ 62 61 false (mo_ 12),
 gp_ 63 61 false (no_ 62),
 pr_ 64 (po_ 61 63),
 mv_ 65 64,
 gp_ 66 65 false (lt_ 3 13),
 gc_ 67 65 false 120 [(.tmp 66)],
 gp_ 68 65 false (no_ 67),
 pr_ 69 (po_ 65 68)]
 (.cond (.tmp 69)
 (sq_ [pr_ 70 (.build [.pl (.bool false),.pl (.float .f64 0),.pl (.float .f64 0)] []),
 st_ (so_ 3 2 70),
 pr_ 3 (mi_ .i64 0),
 pr_ 4 mf_]
 .ret)
 .skip))
 (sq_ [pr_ 71 (lt_ 3 13),
 st_ (so_ 3 2 71),
 pr_ 3 (mi_ .i64 17),
 pr_ 4 mt_]
 .ret))))))))))
def o64:List Tmp:=[2]
def r64:List RV:=[.cell 2 3 true,.tmp 3,.tmp 4]
theorem t64:Text Tryz.prog 64 o64 c64 r64 72:=.mk_ Tryz.f64 rfl
def c78:ACode :=
 (sq_ [pr_ 2 (.boxr (.tmp 0)),
 pr_ 3 (.boxr (.tmp 1)),
 pr_ 4 mf_]
 (.seq (.draw [⟨pr_ 5 (fa_ 0 2),[],false,0,0⟩,
 ⟨pr_ 6 (lf_ 1 5),[0],false,0,0⟩,
 ⟨pr_ 7 (fa_ 0 3),[],false,0,0⟩,
 ⟨pr_ 8 (lf_ 1 7),[2],false,0,0⟩,
 ⟨pr_ 9 (.bin true .eql (.tmp 6) (.tmp 8)),[0,1,2,3],false,0,0⟩,
 ⟨mv_ 10 9,[0,1,2,3,4],false,0,0⟩,
 ⟨gp_ 11 10 true (fa_ 1 2),(List.range 6),false,0,0⟩,
 ⟨gp_ 12 10 true (lf_ 1 11),(List.range 7),false,0,0⟩,
 ⟨gc_ 13 10 true 48 [(.tmp 12)],(List.range 8),true,0,0⟩,
 ⟨gp_ 14 10 true (fa_ 1 3),(List.range 6),false,0,1⟩,
 ⟨gp_ 15 10 true (lf_ 1 14),[0,1,2,3,4,5,9],false,0,1⟩,
 ⟨gc_ 16 10 true 48 [(.tmp 15)],(List.range 11),true,0,0⟩,
 ⟨gp_ 17 10 true (bt_ .eql 13 16),(List.range 12),false,2,2⟩,
 ⟨pr_ 18 (pa_ 10 17),(List.range 13),false,2,2⟩,
 ⟨mv_ 19 18,(List.range 14),false,2,2⟩,
 ⟨gp_ 20 19 true (fa_ 2 2),(List.range 15),false,2,2⟩,
 ⟨gp_ 21 19 true (lf_ 1 20),(List.range 16),false,2,2⟩,
 ⟨gc_ 22 19 true 48 [(.tmp 21)],(List.range 17),true,0,0⟩,
 ⟨gp_ 23 19 true (fa_ 2 3),(List.range 15),false,2,3⟩,
 ⟨gp_ 24 19 true (lf_ 1 23),[0,1,2,3,4,5,6,7,8,9,10,11,12,13,14,18],false,2,3⟩,
 ⟨gc_ 25 19 true 48 [(.tmp 24)],(List.range 20),true,0,0⟩,
 ⟨gp_ 26 19 true (bt_ .eql 22 25),(List.range 21),false,4,4⟩,
 ⟨pr_ 27 (pa_ 19 26),(List.range 22),false,4,4⟩,
 ⟨mv_ 4 27,(List.range 23),false,4,4⟩])
 .ret))
def o78:List Tmp:=[]
def r78:List RV:=[.tmp 4]
theorem t78:Text Tryz.prog 78 o78 c78 r78 28:=.mk_ Tryz.f78 rfl
def c118:ACode :=
 (sq_ [pr_ 2 (mi_ .u64 0),
 pr_ 3 mf_]
 (.seq (sq_ [mv_ 6 0,
 pr_ 7 (.lenv (.tmp 6)),
 pr_ 8 (bk_ .lss 7 .i64 8)]
 (.cond (.tmp 8)
 (sq_ [pr_ 2 (mi_ .u64 0),
 pr_ 3 mf_]
 .ret)
 .skip))
 (sq_ [pr_ 4 (mi_ .u64 0)]
 (.seq (sq_ [pr_ 5 (mi_ .i64 0)]
 (.block 0 (.loop [1,2,3,6,7,8,9,10,11,12,13,14,15,16,17,18,19,20,21] (.seq (sq_ [mv_ 9 5,
 pr_ 10 (bk_ .lss 9 .i64 8)]
 (.cond (.tmp 10)
 .skip
 (.exit 0)))
 (.seq (.block 1 (.ops [mv_ 13 4,
 pr_ 14 (bk_ .shl 13 .u64 8),
 mv_ 15 0,
 mv_ 16 5,
 pr_ 17 (.iadrs 1 (.tmp 15) (.tmp 16)),
 pr_ 18 (lf_ 1 17),
 pr_ 19 (.convi .u64 (.tmp 18)),
 pr_ 20 (bt_ .or 14 19),
 mv_ 4 20]))
 (.ops [mv_ 11 5,
 pr_ 12 (bk_ .add 11 .i64 1),
 mv_ 5 12]))))))
 (sq_ [mv_ 21 4,
 mv_ 2 21,
 pr_ 3 mt_]
 .ret)))))
def o118:List Tmp:=[]
def r118:List RV:=[.tmp 2,.tmp 3]
theorem t118:Text Tryz.prog 118 o118 c118 r118 22:=.mk_ Tryz.f118 rfl
def c119:ACode :=
 (sq_ [pr_ 2 (.mov (.const (.float Go.FloatKind.f64 0))),
 pr_ 3 mf_]
 (sq_ [mv_ 5 0,
 c1_ 6 151 5,
 mv_ 4 6]
 (.seq (sq_ [mv_ 7 4,
 mv_ 8 4,
 pr_ 9 (bt_ .neq 7 8),
 mv_ 10 9,
 gp_ 11 10 true (mo_ 0),
 gp_ 12 10 true (bk_ .neq 11 .u64 9221120237041090561),
 pr_ 13 (pa_ 10 12)]
 (.cond (.tmp 13)
 (sq_ [pr_ 2 (.mov (.const (.float Go.FloatKind.f64 0))),
 pr_ 3 mf_]
 .ret)
 .skip))
 (sq_ [mv_ 14 4,
 mv_ 2 14,
 pr_ 3 mt_]
 .ret))))
def o119:List Tmp:=[]
def r119:List RV:=[.tmp 2,.tmp 3]
theorem t119:Text Tryz.prog 119 o119 c119 r119 15:=.mk_ Tryz.f119 rfl
end Go.Proofs.YtmkmhhjkdaklbaaGreat
namespace Go.Proofs.YtmkmhhjkdaklbaaGreat
open Go Go.Ab Go.Cod
set_option maxRecDepth 100000
theorem zh8 (u:Nat):okV u= !(nanF u&&((u:Int) != 9221120237041090561)):=by
 unfold okV bitsF
 cases nanF u with
 |false=>simp
 |true =>
  rw[Bool.eq_iff_iff];simp only[decide_eq_true_eq,if_true,Bool.true_and,bne,Bool.not_not,beq_iff_eq];omega
theorem val2 (t:Byt):seqR valR valR t=if 16≤t.length then(if okV (wN (t.take 8))&&okV (wN ((t.drop 8).take 8)) then some ((wN (t.take 8),wN ((t.drop 8).take 8)),t.drop 16) else none) else none:=by
 simp only[seqR,valR,onlyR,z3W,List.length_drop];by_cases h:8≤t.length
 · rw[if_pos h];simp only[Option.bind_some]
   cases okV (wN (t.take 8)) with
   |false=>simp
   |true =>
    simp only[if_true,Option.bind_some,Bool.true_and];rw[List.length_drop];by_cases h2:16≤t.length
    · rw[if_pos (by omega),if_pos h2]
      simp only[Option.bind_some]
      cases okV (wN ((t.drop 8).take 8)) with
      |false=>simp
      |true=>simp
    · rw[if_neg (by omega),if_neg h2];rfl
 · rw[if_neg h,if_neg (by omega)];rfl
section
variable (σ:St)
theorem z2U (b:Byt) (hb:b.length≤100000):Ans Tryz.prog 118 [.sl 1 (byv b)] σ (wordV b) σ:=by
 refine Ans.of_run t118 ?_;unfold wordV;rw[z3W];by_cases h8:8≤b.length
 · have d0:decide ((b.length:Int)<8)=false:=by simp;omega
   have z8:Int.toNat 8=8:=rfl;rw[if_pos h8];simp only;simp -implicitDefEqProofs only[c118,r118,go_sem,z03,d0];refine Go.Ab.L.count 8 (fun i=>mkE 22 [(0,.sl 1 (byv b)),(4,UN (wN (b.take i))),(5,I i)]) (fun _=>σ) ?_ ?_ rfl rfl
   · intro i hi J hJ;have hib:i<b.length:=by omega
     have hx:=z4U b i hib;have hs:b.take (i+1)=b.take i++[b[i]]:=List.take_succ_eq_append_getElem hib;rw[hs,zdf]at hJ;have hl:=wN_lt (b.take i);rw[List.length_take]at hl;have hl:wN (b.take i)<2^56:=Nat.lt_of_lt_of_le hl (Nat.pow_le_pow_right (by decide) (by omega))
     have hc:=(b[i]).toNat_lt;generalize b[i]=c at hx hJ hc;generalize wN (b.take i)=w at hl hJ⊢;have hor:=zgk w c.toNat hc hl;have hwc:=z1T (n:=c.toNat) (by omega)
     have d1:decide ((i:Int)<8)=true:=by simp;omega
     have hin:=wrap_succ (i:=i) (by omega)
     simp -implicitDefEqProofs only[mkE,go_sem,d1,z03,z0f hib,hx,bc,hwc,z8,hin]
     have key:∀v:Int,v=((w*256+c.toNat:Nat):Int)→J (mkE 22 [(0,.sl 1 (byv b)),(4,.pl (.int .u64 v)),(5,I ((i+1:Nat):Int))]) σ:=by
      rintro _ rfl;exact hJ
     exact key _ hor
   · intro J;have d1:decide (((8:Nat):Int)<8)=false:=by decide
     simp -implicitDefEqProofs only[mkE,go_sem,d1];exact Fini.ret rfl
 · have d0:decide ((b.length:Int)<8)=true:=by simp;omega
   rw[if_neg h8];simp -implicitDefEqProofs only[c118,r118,go_sem,z03,d0];exact Fini.ret rfl
theorem z4G (u:Nat):Ans Tryz.prog 119 [UN u] σ (.tup [Fl (if okV u then u else 0),Bo (okV u)]) σ:=by
 have e:=zh8 u;refine Ans.of_run t119 ?_;simp -implicitDefEqProofs only[c119,r119,go_sem];refine CO.intro (z58 σ u) ?_;simp -implicitDefEqProofs only[go_sem,z4E]
 cases h:nanF u with
 |false =>
  rw[h]at e;have e:okV u=true:=e;simp -implicitDefEqProofs only[go_sem,e];exact Fini.ret rfl
 |true =>
  rw[h]at e
  cases h2:((u:Int) != 9221120237041090561) with
  |true =>
   rw[h2]at e;have e:okV u=false:=e;simp -implicitDefEqProofs only[go_sem,h2,e];exact Fini.ret rfl
  |false =>
   rw[h2]at e;have e:okV u=true:=e;simp -implicitDefEqProofs only[go_sem,h2,e];exact Fini.ret rfl
theorem z3y (b:Byt) (hb:b.length≤50000):Ans Tryz.prog 64 [.sl 1 (byv b)] σ (readV (bandR b) b bandV (bandV (false,0,0))) σ:=by
 have z0:Int.toNat 0=0:=rfl;have key:∀(any:Bool) (lo hi:Nat),Bel σ.length (.agg [Bo any,Fl lo,Fl hi]):=fun any lo hi=>z1C _ (any,lo,hi)
 obtain hbt|⟨c,t,hbt⟩:b=[]∨∃c t,b=c::t:=by
  cases b with
  |nil=>exact .inl rfl
  |cons c t=>exact .inr ⟨c,t,rfl⟩
 · have e:bandR b=none:=by rw[hbt];rfl
   rw[z0B e];refine Ans.of_run' t64 (fun hbel _=>?_)
   unfold bandV;have d0:decide ((0:Int)<(b.length:Nat))=false:=by rw[hbt];decide
   have d1:decide ((b.length:Int)<17)=true:=by rw[hbt];decide
   simp -implicitDefEqProofs only[c64,r64,go_sem,z03,d0,d1,g0,s0];exact tr_ (σ':=σ) (ex:=[_]) rfl (z0b (key _ _ _)) hbel
 · have hbl:b.length=t.length+1:=by rw[hbt];rfl
   have d0:decide ((0:Int)<(b.length:Nat))=true:=by simp;omega
   have hpos:((0:Int)<(b.length:Nat))=True:=eq_true (by omega)
   have hx:(byv b)[0]?=some (bc c):=by rw[hbt];rfl
   by_cases h1:c=1
   · subst h1
     have e:bandR b=some ((true,0,0),t):=by
      rw[hbt];have:mayB true 0 0=true:=by decide +kernel
      simp[bandR,onlyR,bnd0,this]
     have en:b.length-t.length=1:=by omega
     have e1:((((1:UInt8).toNat:Nat):Int)==1)=true:=rfl;rw[z0K e,en];refine Ans.of_run' t64 (fun hbel _=>?_)
     unfold bandV;simp -implicitDefEqProofs only[c64,r64,go_sem,z03,z0,d0,hpos,hx,bc,e1,g0,s0];exact tr_ (σ':=σ) (ex:=[_]) rfl (z0b (key _ _ _)) hbel
   · have e1:(((c.toNat:Nat):Int)==1)=false:=by
      rw[Bool.eq_false_iff];intro h;rw[beq_iff_eq]at h;exact h1 (UInt8.toNat_inj.1 (by rw[show(1:UInt8).toNat=1 from rfl];omega))
     by_cases h17:t.length<16
     · have d1:decide ((b.length:Int)<17)=true:=by simp;omega
       have e:bandR b=none:=by
        rw[hbt];simp only[bandR,onlyR,bnd0,val2,if_neg (show ¬16≤t.length by omega),h1,if_false,Option.map_none]
        split<;>rfl
       rw[z0B e];refine Ans.of_run' t64 (fun hbel _=>?_)
       unfold bandV;simp -implicitDefEqProofs only[c64,r64,go_sem,z03,z0,d0,d1,hpos,hx,bc,e1,g0,s0];exact tr_ (σ':=σ) (ex:=[_]) rfl (z0b (key _ _ _)) hbel
     · have d1:decide ((b.length:Int)<17)=false:=by simp;omega
       by_cases h0:c=0
       · subst h0;have en:((((0:UInt8).toNat:Nat):Int) != 0)=false:=rfl;have l1:((1:Int)≤(b.length:Nat))=True:=eq_true (by omega)
         have l9:((9:Int)≤(b.length:Nat))=True:=eq_true (by omega)
         have z1:Int.toNat 1=1:=rfl;have z9:Int.toNat 9=9:=rfl;have e9:b.drop 9=t.drop 8:=by rw[hbt];rfl
         have ez:b.drop 1=t:=by rw[hbt];rfl
         have w1:=fun s=>z2U s t (by omega)
         have w2:=fun s=>z2U s (t.drop 8) (by rw[List.length_drop];omega)
         have x1:wordR t=some (wN (t.take 8),t.drop 8):=by rw[z3W,if_pos (by omega)]
         have x2:wordR (t.drop 8)=some (wN ((t.drop 8).take 8),(t.drop 8).drop 8):=by rw[z3W,if_pos (by rw[List.length_drop];omega)]
         unfold wordV at w1 w2;rw[x1]at w1;rw[x2]at w2
         have hB:bandR b=(if okV (wN (t.take 8))&&okV (wN ((t.drop 8).take 8)) then some ((wN (t.take 8),wN ((t.drop 8).take 8)),t.drop 16) else none).bind fun x=>if mayB false x.1.1 x.1.2 then some ((false,x.1.1,x.1.2),x.2) else none:=by
          rw[hbt];simp only[bandR,onlyR,bnd0,val2,if_pos (show 16≤t.length by omega),if_true]
          split
          · rfl
          · rfl
         have hlen:b.length-(t.drop 16).length=17:=by rw[List.length_drop];omega
         generalize wN (t.take 8)=u at w1 hB;generalize wN ((t.drop 8).take 8)=v at w2 hB;have f1:=fun s=>z4G s u
         have f2:=fun s=>z4G s v
         refine Ans.of_run' t64 (fun hbel _=>?_)
         unfold bandV;simp -implicitDefEqProofs only[c64,r64,go_sem,z03,z0,d0,d1,hpos,hx,bc,e1,en,l1,l9,z1,z9,z0O,z0P,e9,ez,List.take_length,Int.le_refl,g0,s0];refine CO.intro (w1 _) ?_;simp -implicitDefEqProofs only[go_sem,z03,l1,l9,z1,z9,z0O,z0P,e9,ez,List.take_length,Int.le_refl];refine CO.intro (w2 _) ?_;simp -implicitDefEqProofs only[go_sem];refine CO.intro (f1 _) ?_;simp -implicitDefEqProofs only[go_sem];refine CO.intro (f2 _) ?_;simp -implicitDefEqProofs only[go_sem];have m1:=fun s=>z29 s false u v
         cases ho:okV u with
         |false =>
          rw[ho]at hB;have hB:bandR b=none:=hB;rw[z0B hB];simp -implicitDefEqProofs only[go_sem,g0,s0];exact tr_ (σ':=σ) (ex:=[_]) rfl (z0b (key _ _ _)) hbel
         |true =>
          cases hp:okV v with
          |false =>
           rw[ho,hp]at hB;have hB:bandR b=none:=hB;rw[z0B hB];simp -implicitDefEqProofs only[go_sem,g0,s0];exact tr_ (σ':=σ) (ex:=[_]) rfl (z0b (key _ _ _)) hbel
          |true =>
           rw[ho,hp]at hB;have hB:bandR b=if mayB false u v then some ((false,u,v),t.drop 16) else none:=hB
           simp -implicitDefEqProofs only[go_sem,if_true];refine CO.intro (m1 _) ?_
           cases hm:mayB false u v with
           |false =>
            rw[hm]at hB;have hB:bandR b=none:=hB;rw[z0B hB];simp -implicitDefEqProofs only[go_sem,g0,s0];exact tr_ (σ':=σ) (ex:=[_]) rfl (z0b (key _ _ _)) hbel
           |true =>
            rw[hm]at hB;have hB:bandR b=some ((false,u,v),t.drop 16):=hB;rw[z0K hB,hlen];simp -implicitDefEqProofs only[go_sem,g0,s0];exact tr_ (σ':=σ) (ex:=[_]) rfl (z0b (key _ _ _)) hbel
       · have e0:(((c.toNat:Nat):Int) != 0)=true:=by
          rw[bne,Bool.not_eq_true',Bool.eq_false_iff];intro h;rw[beq_iff_eq]at h;exact h0 (UInt8.toNat_inj.1 (by rw[show(0:UInt8).toNat=0 from rfl];omega))
         have e:bandR b=none:=by rw[hbt];simp only[bandR,onlyR,bnd0,h0,h1,if_false,Option.bind_none]
         rw[z0B e];refine Ans.of_run' t64 (fun hbel _=>?_)
         unfold bandV;simp -implicitDefEqProofs only[c64,r64,go_sem,z03,z0,d0,d1,hpos,hx,bc,e1,e0,g0,s0];exact tr_ (σ':=σ) (ex:=[_]) rfl (z0b (key _ _ _)) hbel
end
theorem zie (b:Byt):ruR b=(listR b).bind fun p1=>(listR p1.2).bind fun p2=>(bandR p2.2).bind fun p3=>(rowR 4 (textR 12) p3.2).bind fun p4 =>
  if ruIs (mkRu (p1.1,p2.1,p3.1,p4.1)) then some (mkRu (p1.1,p2.1,p3.1,p4.1),p4.2) else none:=by
 simp only[ruR,ruR0,onlyR,z0Y,seqR]
 cases listR b with
 |none=>rfl
 |some p1 =>
 simp only[Option.bind_some]
 cases listR p1.2 with
 |none=>rfl
 |some p2 =>
 simp only[Option.bind_some]
 cases bandR p2.2 with
 |none=>rfl
 |some p3 =>
 simp only[Option.bind_some]
 cases rowR 4 (textR 12) p3.2 with
 |none=>rfl
 |some p4=>rfl
theorem z1Z {M:List Mtr} (h:listB M=true):∀x∈M,x.2.1.size≤100000:=fun x hx=>by have:=(z2T h).2 x hx;omega
section
variable (σ:St)
set_option maxHeartbeats 4000000 in
theorem z5a (b:Byt) (hb:b.length≤50000):Ans Tryz.prog 18 [.sl 1 (byv b)] σ (readV (ruR b) b ruV noRuV) σ:=by
 have hR:=zie b;have r1:=fun s=>z8T s b hb
 cases h1:listR b with
 |none =>
  rw[h1]at hR;have hR:ruR b=none:=hR;simp only[z0B h1]at r1;refine Ans.of_run' t18 (fun hbel _=>?_)
  rw[hR];simp -implicitDefEqProofs only[c18,r18,go_sem,List.append_assoc,List.length_append,g0,g1,s0,s1];refine CO.intro (r1 _) ?_;simp -implicitDefEqProofs only[go_sem,g0,g1,s0,s1];exact tr_ (σ':=σ) rfl (by unfold readV;exact z0b (z1q _)) hbel
 |some p1 =>
 obtain⟨m1,t1⟩:=p1;rw[h1]at hR;simp only[Option.bind_some]at hR;simp only[z0K h1]at r1;obtain⟨d1,l1,k1⟩:=ends_list.drop (b:=b) (a:=0) (Nat.zero_le _) h1;have v1:=(listB_fits.bwd b m1 t1 h1).1;have r2:=fun s=>z8T s t1 (by omega)
 have le1:(((b.length-t1.length:Nat):Int)≤(b.length:Nat))=True:=eq_true (by omega)
 cases h2:listR t1 with
 |none =>
  rw[h2]at hR;have hR:ruR b=none:=hR;simp only[z0B h2]at r2;refine Ans.of_run' t18 (fun hbel _=>?_)
  rw[hR];simp -implicitDefEqProofs only[c18,r18,go_sem,List.append_assoc,List.length_append,g0,g1,s0,s1];refine CO.intro (r1 _) ?_;simp -implicitDefEqProofs only[go_sem,g0,g1,s0,s1,z03,le1,z0O,z0P,d1,List.take_length,Int.le_refl];refine CO.intro (r2 _) ?_;simp -implicitDefEqProofs only[go_sem,g0,g1,s0,s1];exact tr_ (σ':=σ) rfl (by unfold readV;exact z0b (z1q _)) hbel
 |some p2 =>
 obtain⟨m2,t2⟩:=p2;rw[h2]at hR;simp only[Option.bind_some]at hR;simp only[z0K h2]at r2;obtain⟨d2,l2,k2⟩:=ends_list.drop (b:=b) (a:=b.length-t1.length) (by omega) (by rw[d1];exact h2)
 have v2:=(listB_fits.bwd t1 m2 t2 h2).1;have kk2:t2.length≤t1.length:=(listB_fits.rest h2).1;have r3:=fun s=>z3y s t2 (by omega)
 have a2:=addN (a:=b.length-t1.length) (b:=t1.length-t2.length) (by omega)
 rw[show b.length-t1.length+(t1.length-t2.length)=b.length-t2.length by omega]at a2
 have le2:(((b.length-t2.length:Nat):Int)≤(b.length:Nat))=True:=eq_true (by omega)
 cases h3:bandR t2 with
 |none =>
  rw[h3]at hR;have hR:ruR b=none:=hR;simp only[z0B h3]at r3;unfold bandV at r3;refine Ans.of_run' t18 (fun hbel _=>?_)
  rw[hR];simp -implicitDefEqProofs only[c18,r18,go_sem,List.append_assoc,List.length_append,g0,g1,s0,s1];refine CO.intro (r1 _) ?_;simp -implicitDefEqProofs only[go_sem,g0,g1,s0,s1,z03,le1,z0O,z0P,d1,List.take_length,Int.le_refl];refine CO.intro (r2 _) ?_;simp -implicitDefEqProofs only[go_sem,g0,g1,s0,s1,z03,a2,le2,z0O,z0P,d2,List.take_length,Int.le_refl];refine CO.intro (r3 _) ?_;simp -implicitDefEqProofs only[go_sem,g0,g1,s0,s1];exact tr_ (σ':=σ) rfl (by unfold readV;exact z0b (z1q _)) hbel
 |some p3 =>
 obtain⟨⟨any,lo,hi⟩,t3⟩:=p3;rw[h3]at hR;simp only[Option.bind_some]at hR;simp only[z0K h3]at r3;unfold bandV at r3;obtain⟨d3,l3,k3⟩:=ends_band.drop (b:=b) (a:=b.length-t2.length) (by omega) (by rw[d2];exact h3)
 have kk3:t3.length≤t2.length:=(band_fits.rest h3).1;have r4:=fun s=>z1I s t3 (by omega)
 have a3:=addN (a:=b.length-t2.length) (b:=t2.length-t3.length) (by omega)
 rw[show b.length-t2.length+(t2.length-t3.length)=b.length-t3.length by omega]at a3
 have le3:(((b.length-t3.length:Nat):Int)≤(b.length:Nat))=True:=eq_true (by omega)
 refine Ans.of_run' t18 (fun hbel _=>?_)
 simp -implicitDefEqProofs only[c18,r18,go_sem,List.append_assoc,List.length_append,g0,g1,s0,s1];refine CO.intro (r1 _) ?_;simp -implicitDefEqProofs only[go_sem,g0,g1,s0,s1,z03,le1,z0O,z0P,d1,List.take_length,Int.le_refl];refine CO.intro (r2 _) ?_;simp -implicitDefEqProofs only[go_sem,g0,g1,s0,s1,z03,a2,le2,z0O,z0P,d2,List.take_length,Int.le_refl];refine CO.intro (r3 _) ?_;simp -implicitDefEqProofs only[go_sem,g0,g1,s0,s1,z03,a3,le3,z0O,z0P,d3,List.take_length,Int.le_refl];refine CO.intro (r4 _) ?_
 cases hg:getN 0 t3 with
 |none =>
  have hN:rowR 4 (textR 12) t3=none:=by simp only[rowR,numR,hg,Option.bind_none]
  rw[hN]at hR;have hR:ruR b=none:=hR;rw[z13 hg,hR];simp -implicitDefEqProofs only[go_sem,g0,g1,s0,s1];exact tr_ (σ':=σ) rfl (by unfold readV;exact z0b (z1q _)) hbel
 |some p4 =>
 obtain⟨n,t4⟩:=p4;rw[z1a hg];have e4:decide ((4:Int)<n)=decide (4<n):=decNN 4 n;by_cases h4:4<n
 · have hN:rowR 4 (textR 12) t3=none:=by simp only[rowR,numR,hg,Option.bind_some,show ¬n≤4 by omega,if_false,Option.bind_none]
   rw[hN]at hR;have hR:ruR b=none:=hR;rw[hR];simp -implicitDefEqProofs only[go_sem,g0,g1,s0,s1,e4,decide_eq_true h4];exact tr_ (σ':=σ) rfl (by unfold readV;exact z0b (z1q _)) hbel
 · have hN:numR 4 t3=some (n,t4):=by simp only[numR,hg,Option.bind_some,show n≤4 by omega,if_true]
   obtain⟨d4,l4,k4⟩:=(ends_num 4).drop (b:=b) (a:=b.length-t3.length) (by omega) (by rw[d3];exact hN)
   have kk4:t4.length<t3.length:=zaz hg;have hrow:rowR 4 (textR 12) t3=manyR (textR 12) n t4:=by simp only[rowR,hN,Option.bind_some]
   rw[hrow]at hR;have a4:=addN (a:=b.length-t3.length) (b:=t3.length-t4.length) (by omega)
   rw[show b.length-t3.length+(t3.length-t4.length)=b.length-t4.length by omega]at a4
   have hwn:=wrapI (a:=n) (by omega)
   simp -implicitDefEqProofs only[go_sem,e4,decide_eq_false h4,a4]
   refine Go.Ab.L.intro (α:={ p:Nat×List ByteArray×Nat // p.1≤n∧p.2.1.length=p.1∧p.2.2≤b.length∧(∀x∈p.2.1,x.size≤12)∧manyR (textR 12) n t4=(manyR (textR 12) (n-p.1) (b.drop p.2.2)).map fun r=>(p.2.1++r.1,r.2) }) (fun p=>n-p.1.1)
    (fun p=>mkE 112 [(0,.sl 1 (byv b)),(2,.ptr σ.length 0),(5,.rp [.nils,.nils,Bo false,Fl 0,Fl 0,.nils]),(6,.ptr (σ.length+1) 0),(8,I p.1.2.2),(12,UN n),(13,I p.1.1)])
    (fun p=>σ++Z6::.box [mlV m1,mlV m2,Bo any,Fl lo,Fl hi,txC (σ.length+2) p.1.2.1]::txS p.1.2.1) ?_ ⟨(0,[],b.length-t4.length),Nat.zero_le _,rfl,Nat.sub_le _ _,by simp,by rw[d4];cases manyR (textR 12) n t4<;>simp⟩ rfl rfl
   rintro⟨⟨i,l,at_⟩,hi',hll,hat,hsz,hm⟩ J hJ;simp only at hi' hll hat hsz hm hJ;by_cases hlt:i<n
   · obtain⟨m,hmm⟩:∃m,n-i=m+1:=⟨n-i-1,by omega⟩
     rw[hmm,z6l]at hm;have d0:decide ((i:Int)<n)=true:=dec_lt hlt;have leA:(((at_:Nat):Int)≤(b.length:Nat))=True:=eq_true (by omega)
     have hst:∀ex:St,ex=ex:=fun _=>rfl
     simp -implicitDefEqProofs only[mkE,go_sem,hwn,d0,z03,leA,z0O,z0P,List.take_length,Int.le_refl];refine CO.intro (z1m _ (b.drop at_) 12 (by rw[List.length_drop];omega) (by decide)) ?_
     cases ht:textR 12 (b.drop at_) with
     |none =>
      rw[ht]at hm;simp only[Option.bind_none,Option.map_none]at hm;rw[hm]at hR;have hR:ruR b=none:=hR;rw[z0R ht,hR];simp -implicitDefEqProofs only[go_sem,g0,g1,s0,s1];exact tr_ (σ':=σ) rfl (by unfold readV;exact z0b (z1q _)) hbel
     |some x =>
      obtain⟨s,u⟩:=x;obtain⟨z1,z2,z3⟩:=(z0T 12).drop (b:=b) (a:=at_) hat ht;have hs:=((z1B (most:=12) (by decide)).bwd _ _ _ ht).1
      have aa:=addN (a:=at_) (b:=(b.drop at_).length-u.length) (by rw[List.length_drop];omega)
      rw[show at_+((b.drop at_).length-u.length)=b.length-u.length by rw[List.length_drop];omega]at aa
      have hin:=wrap_succ (i:=i) (by omega)
      rw[ht]at hm;simp only[Option.bind_some]at hm
      have hgo:=hJ ⟨(i+1,l++[s],b.length-u.length),by simp only;omega,by simp[hll],by simp only;omega,(by
       intro y hy;simp only[List.mem_append,List.mem_singleton]at hy;rcases hy with hy|rfl
       · exact hsz y hy
       · exact hs),(by
       simp only;rw[hm,z1,show n-(i+1)=m by omega]
       cases manyR (textR 12) m u<;>simp)⟩ (by simp only;omega)
      simp only at hgo;rw[z71 _ (z5r l s),z72 (z5r l s),z5p]at hgo;rw[List.length_append,List.length_singleton]at hgo;rw[z1t ht]
      cases hem:l.isEmpty with
      |true =>
       have hle:l=[]:=List.isEmpty_iff.1 hem;subst hle;unfold txC txS;simp only[List.isEmpty_nil,if_true];have p32:((1:Nat)≤2^32)=True:=eq_true (by decide)
       simp -implicitDefEqProofs only[go_sem,g0,g1,s0,s1,aa,hin,p32,List.length_append,List.append_assoc,List.length_cons,List.length_nil];exact hgo
      |false =>
       rw[z71 _ hem,z72 hem];have hle:l.length+1≤4294967296:=by omega
       simp -implicitDefEqProofs only[go_sem,g0,g1,g2,s0,s1,s2,aa,hin,z0A,hle,List.length_singleton];exact hgo
   · have hie:i=n:=by omega
     subst hie;have d0:decide ((i:Int)<i)=false:=by simp
     rw[Nat.sub_self]at hm;simp only[manyR,Option.map_some,List.append_nil]at hm;rw[hm]at hR;simp only[Option.bind_some]at hR;have hsm:RSm (mkRu (m1,m2,(any,lo,hi),l)):=⟨z1Z v1,z1Z v2,fun s hs=>by have:=hsz s hs;omega⟩
     have hru:=fun s=>z1U s (mkRu (m1,m2,(any,lo,hi),l)) hsm
     have hlen:b.length-(b.drop at_).length=at_:=by rw[List.length_drop];omega
     have fin:(ruIs (mkRu (m1,m2,(any,lo,hi),l))=false→ruR b=none)∧(ruIs (mkRu (m1,m2,(any,lo,hi),l))=true→ruR b=some (mkRu (m1,m2,(any,lo,hi),l),b.drop at_)):=by
      refine⟨fun h=>?_,fun h=>?_⟩
      · rw[hR,h];rfl
      · rw[hR,h];rfl
     generalize ruIs (mkRu (m1,m2,(any,lo,hi),l))=ok at hru fin
     cases hem:l.isEmpty with
     |true =>
      have hle:l=[]:=List.isEmpty_iff.1 hem;subst hle;unfold txC txS;simp only[List.isEmpty_nil,if_true];simp -implicitDefEqProofs only[mkE,go_sem,hwn,d0,z37,g0,g1,g2,s0,s1,s2];refine CO.intro (hru _) ?_
      cases ok with
      |false =>
       rw[fin.1 rfl];simp -implicitDefEqProofs only[go_sem,g0,g1,g2,s0,s1,s2];exact tr_ (σ':=σ) rfl (by unfold readV;exact z0b (z1q _)) hbel
      |true =>
       rw[z0K (fin.2 rfl),hlen];simp -implicitDefEqProofs only[go_sem,g0,g1,g2,s0,s1,s2];exact tr_ (σ':=σ) rfl (z0b (z6i _ _)) hbel
     |false =>
      have ne32:(σ.length+2≠σ.length+1)=True:=eq_true (by omega)
      rw[z71 _ hem,z72 hem];simp -implicitDefEqProofs only[mkE,go_sem,hwn,d0,z0A,ne32,g0,g1,g2,s0,s1,s2];refine CO.intro (hru _) ?_
      cases ok with
      |false =>
       rw[fin.1 rfl];simp -implicitDefEqProofs only[go_sem,g0,g1,g2,s0,s1,s2];exact tr_ (σ':=σ) rfl (by unfold readV;exact z0b (z1q _)) hbel
      |true =>
       rw[z0K (fin.2 rfl),hlen];simp -implicitDefEqProofs only[go_sem,g0,g1,g2,s0,s1,s2];exact tr_ (σ':=σ) rfl (z0b (z6i _ _)) hbel
end
def eqT (a b:ByteArray):Bool:=a.toList==b.toList
def eqBf (a b:Nat):Bool:=((bitsF a:Nat):Int)==((bitsF b:Nat):Int)
def z41 (x y:Bnd):Bool:=(x.1==y.1)&&(eqBf x.2.1 y.2.1&&eqBf x.2.2 y.2.2)
def eqTs (a b:List ByteArray):Bool:=(List.range a.length).all fun i=>eqT (a.getD i ⟨#[]⟩) (b.getD i ⟨#[]⟩)
def z5b (x y:RuM):Bool:=decide (x.eq.length=y.eq.length)&&(sameM x.src y.src&&(sameM x.tgt y.tgt&&(z41 (x.any,x.lo,x.hi) (y.any,y.lo,y.hi)&&eqTs x.eq y.eq)))
theorem zdn (a:List ByteArray):eqTs a a=true:=by simp[eqTs,eqT]
theorem z6o (x:Bnd):z41 x x=true:=by simp[z41,eqBf]
theorem z9V (x:RuM):z5b x x=true:=by simp[z5b,z75,z6o,zdn]
section
variable (σ:St)
theorem z5c (x y:Bnd):Ans Tryz.prog 78 [bandV x,bandV y] σ (Bo (z41 x y)) σ:=by
 obtain⟨a,lo,hi⟩:=x;obtain⟨c,lo',hi'⟩:=y;have i1:=fun s=>z0D s lo
 have i2:=fun s=>z0D s lo'
 have i3:=fun s=>z0D s hi
 have i4:=fun s=>z0D s hi'
 refine Ans.of_run t78 ?_;unfold bandV z41 eqBf;simp only
 cases h1:(a==c) with
 |false =>
  simp -implicitDefEqProofs only[c78,r78,go_sem,h1];exact Fini.ret rfl
 |true =>
  simp -implicitDefEqProofs only[c78,r78,go_sem,h1];refine CD.intro (i1 _) ?_;simp -implicitDefEqProofs only[go_sem];refine CD.intro (i2 _) ?_
  cases h2:(((bitsF lo:Nat):Int)==((bitsF lo':Nat):Int)) with
  |false =>
   simp -implicitDefEqProofs only[go_sem,h2];exact Fini.ret rfl
  |true =>
   simp -implicitDefEqProofs only[go_sem,h2];refine CD.intro (i3 _) ?_;simp -implicitDefEqProofs only[go_sem];refine CD.intro (i4 _) ?_;simp -implicitDefEqProofs only[go_sem];exact Fini.ret rfl
theorem zdo (x y:RuM) (h1:x.src.length≤1000) (h2:x.tgt.length≤1000) (h3:x.eq.length≤100000):Ans Tryz.prog 21 [ruV x,ruV y] σ (Bo (z5b x y)) σ:=by
 have i1:=fun s=>z6m s x.src y.src h1
 have i2:=fun s=>z6m s x.tgt y.tgt h2
 have i3:=fun s=>z5c s (x.any,x.lo,x.hi) (y.any,y.lo,y.hi)
 unfold bandV at i3
 have e1:(((x.eq.length:Nat):Int) != ((y.eq.length:Nat):Int))= !decide (x.eq.length=y.eq.length):=by
  rw[bne];congr 1
  rw[Bool.eq_iff_iff];simp only[beq_iff_eq,decide_eq_true_eq];omega
 refine Ans.of_run t21 ?_;unfold ruV z5b;by_cases hl:x.eq.length=y.eq.length
 · have e2:(((x.eq.length:Nat):Int) != ((y.eq.length:Nat):Int))=false:=by rw[e1,decide_eq_true hl];rfl
   rw[decide_eq_true hl];simp -implicitDefEqProofs only[c21,r21,go_sem,z0A,e2];refine CO.intro (i1 _) ?_
   cases sameM x.src y.src with
   |false =>
    simp -implicitDefEqProofs only[go_sem];exact Fini.ret rfl
   |true =>
   simp -implicitDefEqProofs only[go_sem];refine CO.intro (i2 _) ?_
   cases sameM x.tgt y.tgt with
   |false =>
    simp -implicitDefEqProofs only[go_sem];exact Fini.ret rfl
   |true =>
   simp -implicitDefEqProofs only[go_sem];refine CO.intro (i3 _) ?_
   cases z41 (x.any,x.lo,x.hi) (y.any,y.lo,y.hi) with
   |false =>
    simp -implicitDefEqProofs only[go_sem];exact Fini.ret rfl
   |true =>
   simp -implicitDefEqProofs only[go_sem,Bool.true_and];unfold eqTs;refine Go.Ab.L.scan x.eq.length (fun i=>eqT (x.eq.getD i ⟨#[]⟩) (y.eq.getD i ⟨#[]⟩)) (fun i=>mkE 55 [(2,.rp [.sl 3 (mvs3 x.src),.sl 3 (mvs3 x.tgt),Bo x.any,Fl x.lo,Fl x.hi,.sl 1 (txs x.eq)]),(3,.rp [.sl 3 (mvs3 y.src),.sl 3 (mvs3 y.tgt),Bo y.any,Fl y.lo,Fl y.hi,.sl 1 (txs y.eq)]),(5,I i)]) (fun _=>σ) ?_ ?_ rfl rfl
   · intro i hi hp J hJ;have hx:=txs_D x.eq i hi;have hy:=txs_D y.eq i (by omega)
     have hin:=wrap_succ (i:=i) (by omega)
     have hF:eqT (x.eq.getD i ⟨#[]⟩) (y.eq.getD i ⟨#[]⟩)=false→((List.range x.eq.length).all fun i=>eqT (x.eq.getD i ⟨#[]⟩) (y.eq.getD i ⟨#[]⟩))=false:=fun h=>List.all_eq_false.2 ⟨i,List.mem_range.2 hi,by rw[h];decide⟩
     have n1:=z0f hi;have n2:=z0f (show i<y.eq.length by omega)
     simp -implicitDefEqProofs only[mkE,go_sem,z0A,n1,n2,dec_lt hi,hx,hy]
     cases hb:eqT (x.eq.getD i ⟨#[]⟩) (y.eq.getD i ⟨#[]⟩) with
     |false =>
      rw[hF hb];unfold eqT at hb;simp -implicitDefEqProofs only[go_sem,hb];exact Fini.ret rfl
     |true =>
      have hgo:=hJ hb;unfold eqT at hb;simp -implicitDefEqProofs only[go_sem,hb,hin];exact hgo
   · intro hp J;have hd:decide ((x.eq.length:Int)<x.eq.length)=false:=by simp
     simp -implicitDefEqProofs only[mkE,go_sem,z0A,hd];refine Fini.ret' rfl (z0U ?_);exact(List.all_eq_true.2 fun i hi=>hp i (List.mem_range.1 hi)).symm
 · have e2:(((x.eq.length:Nat):Int) != ((y.eq.length:Nat):Int))=true:=by rw[e1,decide_eq_false hl];rfl
   rw[decide_eq_false hl];simp -implicitDefEqProofs only[c21,r21,go_sem,z0A,e2];exact Fini.ret rfl
end
end Go.Proofs.YtmkmhhjkdaklbaaGreat
namespace Go.Ab
open Go Go.ChangeShapes Go.WideShapes
def z7J:List AV→Prop:=fun xs=>∃n:Nat,n<2^64∧xs=[.pl (.float .f64 n)]
theorem Reads.floatW {P:Program} {t:TypeId} (ht:P.underlying t=some (.float .f64)) (f:Nat):Reads P t f z7J:=by
 intro H enc W cs x h
 have:∃n,n<2^64∧cs=[.float .f64 n]:=by
  cases f with
  |zero=>simp[DataW.trod]at h
  |succ n =>
   unfold DataW.trod at h;rw[ht]at h;split at h<;>simp_all [Lit.wf]
   rename_i heq;subst heq;simp only at h;have h:=(Option.ite_none_right_eq_some.1 h).1;exact⟨of_decide_eq_true h.2,h.1⟩
 obtain⟨n,hn,rfl⟩:=this;exact⟨_,z3s (.pl _),n,hn,rfl⟩
end Go.Ab
namespace Go.Proofs.YtmkmhhjkdaklbaaGreat
open Go Go.Ab Go.Cod Go.ChangeShapes Go.WideShapes Go.ChangeAt Go.RowKit
set_option maxRecDepth 100000
theorem toList_inj {a b:ByteArray} (h:a.toList=b.toList):a=b:=by
 rw[ByteArray.toList_eq,ByteArray.toList_eq]at h;cases a;cases b;simpa using h
theorem zh9 (a b:ByteArray):eqT a b=true↔a=b:=by
 unfold eqT;rw[beq_iff_eq];exact⟨toList_inj,fun h=>by rw[h]⟩
theorem zdp {α:Type} {a b:List α} {z:α} (h:a.length=b.length) (h2:∀i,i<a.length→a.getD i z=b.getD i z):a=b:=by
 refine List.ext_getElem h fun i h1 h3=>?_
 have:=h2 i h1;rw[List.getD_eq_getElem?_getD,List.getD_eq_getElem?_getD,List.getElem?_eq_getElem h1,List.getElem?_eq_getElem h3]at this;exact this
theorem zha {a b:List ByteArray} (h:a.length=b.length) (h2:eqTs a b=true):a=b :=
 zdp h fun i hi=>(zh9 _ _).1 (List.all_eq_true.1 h2 i (List.mem_range.2 hi))
theorem zhb {x y:Mtr} (h:eqMt x y=true):x=y:=by
 unfold eqMt at h;simp only[Bool.and_eq_true,beq_iff_eq,and_true]at h;obtain⟨h1,h2,h3⟩:=h;obtain⟨a,b,c⟩:=x;obtain⟨a',b',c'⟩:=y;simp only at h1 h2 h3;rw[h1,toList_inj h2,toList_inj h3]
theorem z7K {A B:List Mtr} (h:sameM A B=true):A=B:=by
 unfold sameM at h;simp only[Bool.and_eq_true,decide_eq_true_eq]at h;exact zdp h.1 fun i hi=>zhb (List.all_eq_true.1 h.2 i (List.mem_range.2 hi))
theorem zdq {x:Bnd} (h:bMay x=true) (w:bSz x):bitsF x.2.1=x.2.1∧bitsF x.2.2=x.2.2:=by
 have:=zgi h w;obtain⟨any,lo,hi⟩:=x
 cases any with
 |true =>
  obtain⟨rfl,rfl⟩:lo=0∧hi=0:=this;exact⟨z1r,z1r⟩
 |false =>
  have:(lo<2^64∧bitsF lo=lo)∧(hi<2^64∧bitsF hi=hi):=this;exact⟨this.1.2,this.2.2⟩
theorem z8U {x y:Bnd} (hx:bMay x=true) (wx:bSz x) (hy:bMay y=true) (wy:bSz y) (h:z41 x y=true):x=y:=by
 obtain⟨b1,b2⟩:=zdq hx wx;obtain⟨b3,b4⟩:=zdq hy wy;unfold z41 eqBf at h;rw[b1,b2,b3,b4]at h;simp only[Bool.and_eq_true,beq_iff_eq]at h;obtain⟨a,lo,hi⟩:=x;obtain⟨c,lo',hi'⟩:=y;simp only at h;obtain⟨h1,h2,h3⟩:=h;rw[h1,Int.ofNat.inj h2,Int.ofNat.inj h3]
section
variable (σ:St)
end
def z9W:List AV→Prop:=fun xs=>∃(b:Int) (lo hi:Nat),lo<2^64∧hi<2^64∧xs=[I b,Fl lo,Fl hi]
def QDRuW:List AV→Prop:=fun xs=>∃d:RuD,d.lo<2^64∧d.hi<2^64∧xs=duC d
theorem z5d (f:Nat):Reads Tryz.prog 39 f z9W:=by
 cases f with
 |zero=>exact Reads.zero
 |succ f =>
  have h:=Reads.struct (P:=Tryz.prog) (t:=39) (f:=f) (Qs:=[QInt .i64,z7J,z7J]) Tryz.underlying39 (by kernel_rfl) rfl (by
   intro p hp;simp only[List.zip_cons_cons,List.zip_nil_right,List.mem_cons,List.not_mem_nil,or_false]at hp;rcases hp with rfl|rfl|rfl
   · exact Reads.int Tryz.underlying3 f
   · exact Reads.floatW Tryz.underlying23 f
   · exact Reads.floatW Tryz.underlying23 f)
  refine h.mono fun xs hq=>?_
  obtain⟨_,_,rfl,⟨k,_,rfl⟩,_,_,rfl,⟨n,hn,rfl⟩,_,_,rfl,⟨v,hv,rfl⟩,rfl⟩:=hq;exact⟨k,n,v,hn,hv,rfl⟩
theorem z8V (f:Nat):Reads Tryz.prog 42 f QDRuW:=by
 cases f with
 |zero=>exact Reads.zero
 |succ f =>
  have h:=Reads.struct (P:=Tryz.prog) (t:=42) (f:=f) (Qs:=[QMats,QMats,z9W,QInts]) Tryz.underlying42 (by kernel_rfl) rfl (by
   intro p hp;simp only[List.zip_cons_cons,List.zip_nil_right,List.mem_cons,List.not_mem_nil,or_false]at hp;rcases hp with rfl|rfl|rfl|rfl
   · exact z4X f
   · exact z4X f
   · exact z5d f
   · exact z74 f)
  refine h.mono fun xs hq=>?_
  obtain⟨_,_,rfl,⟨M,hM,rfl⟩,_,_,rfl,⟨N,hN,rfl⟩,_,_,rfl,⟨b,lo,hi,h1,h2,rfl⟩,_,_,rfl,⟨e,rfl⟩,rfl⟩:=hq;exact⟨⟨M,N,b,lo,hi,e,hM,hN⟩,h1,h2,rfl⟩
theorem zfe {d:RuD} (h1:d.lo<2^64) (h2:d.hi<2^64):ruSz (z38 d):=by
 unfold ruSz z38 z0H;simp only;split
 · exact⟨by decide,by decide⟩
 · split
   · exact⟨h2,h1⟩
   · exact⟨h1,h2⟩
end Go.Proofs.YtmkmhhjkdaklbaaGreat
namespace Go.Proofs.YtmkmhhjkdaklbaaGreat
open Go Go.Ab Go.Cod
set_option maxRecDepth 100000
abbrev ltS (a b:ByteArray):Bool:=Op.bytesLess a.toList b.toList
theorem zhc:∀a∈names,∀b∈names,((a.toList==b.toList)||(ltS a b||ltS b a))=true:=by decide +kernel
theorem zif:∀a∈names,∀b∈names,a=b∨ltS a b=true∨ltS b a=true:=fun a ha b hb=>by
 have:=zhc a ha b hb;simp only[Bool.or_eq_true]at this;rcases this with h|h|h
 · exact .inl (toList_inj (eq_of_beq h))
 · exact .inr (.inl h)
 · exact .inr (.inr h)
theorem zgm:∀a∈names,ltS a a=false:=by decide +kernel
theorem nm_tr:∀a∈names,∀b∈names,∀c∈names,ltS a b=true→ltS b c=true→ltS a c=true:=by decide +kernel
theorem nm_ok:∀a∈names,nameB a=true:=by decide +kernel
theorem zhd:∀a∈values,valB a=true:=by decide +kernel
def rise (L:List Lab):Prop:=L.Pairwise fun x y=>ltS x.1 y.1=true
theorem zaR (out:List Lab) (x:Lab):∀m,(∀k,pos out x m≤k→k<m→ltS x.1 (out.getD k noL).1=true)∧(0<pos out x m→ltS x.1 (out.getD (pos out x m-1) noL).1=false)
 |0=>⟨fun k h1 h2=>absurd h2 (Nat.not_lt_zero _),fun h=>absurd h (Nat.lt_irrefl _)⟩
 |m+1=>by
  obtain⟨h1,h2⟩:=zaR out x m;rw[pos];split
  · rename_i h;refine⟨fun k hk hk2=>?_,h2⟩
    by_cases hkm:k=m
    · subst hkm;exact h
    · exact h1 k hk (by omega)
  · rename_i h;refine⟨fun k hk hk2=>by omega,fun _=>?_⟩
    simpa using h
theorem zdr {out:List Lab} {x:Lab} (ho:rise out) (hd:z2u out) (hx:x.1∈names) (hn:∀y∈out,y.1≠x.1):rise (insL out x):=by
 obtain⟨h1,h2⟩:=zaR out x out.length;have hp:=zcs out x out.length;unfold insL;generalize pos out x out.length=n at h1 h2 hp⊢
 have ht:∀y∈out.take n,ltS y.1 x.1=true:=by
  intro y hy;obtain⟨i,hi,rfl⟩:=List.getElem_of_mem hy;rw[List.length_take]at hi;have hl:(out.getD (n-1) noL)=out[n-1]:=by rw[List.getD_eq_getElem?_getD,List.getElem?_eq_getElem (by omega),Option.getD_some]
  have h3:=h2 (by omega)
  rw[hl]at h3
  have hlast:ltS (out[n-1]'(by omega)).1 x.1=true:=by
   rcases zif _ (hd _ (List.getElem_mem (show n-1<out.length by omega))).1 _ hx with h|h|h
   · exact absurd h (hn _ (List.getElem_mem _))
   · exact h
   · rw[h]at h3;cases h3
  rw[List.getElem_take];by_cases hin:i=n-1
  · subst hin;exact hlast
  · have hi2:i<n-1:=by omega
    have:=(List.pairwise_iff_getElem.1 ho) i (n-1) (by omega) (by omega) hi2
    exact nm_tr _ (hd _ (List.getElem_mem (show i<out.length by omega))).1 _ (hd _ (List.getElem_mem (show n-1<out.length by omega))).1 _ hx this hlast
 have hdr:∀y∈out.drop n,ltS x.1 y.1=true:=by
  intro y hy;obtain⟨i,hi,rfl⟩:=List.getElem_of_mem hy;rw[List.length_drop]at hi;have:=h1 (n+i) (by omega) (by omega)
  rw[List.getD_eq_getElem?_getD,List.getElem?_eq_getElem (by omega),Option.getD_some]at this
  rw[List.getElem_drop];exact this
 unfold rise at ho⊢;rw[List.append_assoc,List.pairwise_append];refine⟨ho.sublist (List.take_sublist _ _),?_,fun a ha b hb=>?_⟩
 · rw[List.singleton_append,List.pairwise_cons];exact⟨hdr,ho.sublist (List.drop_sublist _ _)⟩
 · rcases List.mem_append.1 hb with hb|hb
   · rw[List.mem_singleton.1 hb];exact ht a ha
   · exact nm_tr _ (hd _ (List.mem_of_mem_take ha)).1 _ hx _ (hd _ (List.mem_of_mem_drop hb)).1 (ht a ha) (hdr b hb)
def distinct (L:List Lab):Prop:=L.Pairwise fun x y=>x.1≠y.1
theorem z77:∀(L acc:List Lab),rise acc→z2u acc→z2u L→distinct L→(∀x∈acc,∀y∈L,x.1≠y.1)→rise (L.foldl insL acc)
 |[],acc,h,_,_,_,_=>h
 |x::L,acc,h,hd,hL,hdis,hac=>by
  rw[List.foldl_cons];have hdis:=List.pairwise_cons.1 hdis;refine z77 L _ (zdr h hd (hL x List.mem_cons_self).1 fun y hy=>hac y hy x List.mem_cons_self) (fun y hy=>?_) (fun y hy=>hL y (List.mem_cons_of_mem _ hy)) hdis.2 (fun y hy z hz=>?_)
  · rcases z7j hy with rfl|hy
    · exact hL y List.mem_cons_self
    · exact hd y hy
  · rcases z7j hy with rfl|hy
    · exact hdis.1 z hz
    · exact hac y hy z (List.mem_cons_of_mem _ hz)
theorem zhe {L:List Lab} {nm:ByteArray} (hd:z2u L) (h:((getL L nm).toList==(⟨#[]⟩:ByteArray).toList)=true):∀y∈L,y.1≠nm:=by
 induction L with
 |nil=>intro y hy;cases hy
 |cons x xs ih =>
  rw[getL]at h;split at h
  · exfalso
    have hv:=(hd x List.mem_cons_self).2;have:=toList_inj (eq_of_beq h);rw[this]at hv;have:=(z5J _ hv).1;exact absurd this (by decide)
  · rename_i hne;intro y hy;rcases List.mem_cons.1 hy with rfl|hy
    · intro he;rw[he]at hne;simp at hne
    · exact ih (fun z hz=>hd z (List.mem_cons_of_mem _ hz)) h y hy
theorem zbI (l:List Int):∀acc:List Lab,z2u acc→distinct acc→distinct (l.foldl z1M acc):=by
 induction l with
 |nil=>intro acc _ h;exact h
 |cons n l ih =>
  intro acc hd h;rw[List.foldl_cons];have hd2:z2u (z1M acc n):=z4a [n] acc hd;refine ih _ hd2 ?_;unfold z1M;split
  · rename_i hg;have:=zhe hd hg;unfold distinct;rw[List.pairwise_append];exact⟨h,by simp,fun a ha b hb=>by rw[List.mem_singleton.1 hb];exact this a ha⟩
  · exact h
theorem z7L (ns:List Int):setB (z2s ns)=true:=by
 have hd0:z2u ([]:List Lab):=fun x hx=>by cases hx
 have h1:z2u (labs0 ns):=z4a _ _ hd0;have h2:distinct (labs0 ns):=zbI _ _ hd0 List.Pairwise.nil
 have h3:(labs0 ns).length≤5:=by
  have:=z5K (ns.take 5) [];have h5:(ns.take 5).length≤5:=by rw[List.length_take];omega
  simp only[List.length_nil]at this;exact Nat.le_trans this (by omega)
 have hl:z2u (labs ns)∧distinct (labs ns)∧1≤(labs ns).length∧(labs ns).length≤5:=by
  unfold labs;split
  · refine⟨fun x hx=>?_,by unfold distinct;simp,by simp,by simp⟩
    rw[List.mem_singleton.1 hx];exact⟨by simp[names],by simp[values]⟩
  · exact⟨h1,h2,by omega,h3⟩
 obtain⟨hd,hdis,l1,l5⟩:=hl;have hr:rise (setL (labs ns)):=z77 _ _ List.Pairwise.nil hd0 hd hdis (fun x hx=>by cases hx)
 have hsd:z2u (setL (labs ns)):=fun x hx=>hd x (zaf _ x hx)
 have hsl:=z7i (labs ns);unfold z2s;generalize setL (labs ns)=S at hr hsd hsl⊢
 have key:∀i,0<i→i<S.length→leS (S.getD i noLb).1 (S.getD (i-1) noLb).1=false:=by
  intro i h0 hi;have e1:S.getD i noLb=S[i]:=by rw[List.getD_eq_getElem?_getD,List.getElem?_eq_getElem hi,Option.getD_some]
  have e2:S.getD (i-1) noLb=S[i-1]:=by rw[List.getD_eq_getElem?_getD,List.getElem?_eq_getElem (by omega),Option.getD_some]
  rw[e1,e2];have hlt:=(List.pairwise_iff_getElem.1 hr) (i-1) i (by omega) hi (by omega)
  have n1:=(hsd _ (List.getElem_mem hi)).1;have n2:=(hsd _ (List.getElem_mem (show i-1<S.length by omega))).1
  unfold leS;rw[Bool.or_eq_false_iff];constructor
  · cases h:Op.bytesLess (S[i]).1.toList (S[i-1]).1.toList with
    |false=>rfl
    |true =>
     have:=nm_tr _ n2 _ n1 _ n2 hlt h;rw[zgm _ n2]at this;cases this
  · cases h:((S[i]).1.toList==(S[i-1]).1.toList) with
    |false=>rfl
    |true =>
     have:=toList_inj (eq_of_beq h);rw[this,zgm _ n2]at hlt;cases hlt
 have hset:setB S=true:=by
  unfold setB;simp only[Bool.and_eq_true,decide_eq_true_eq,List.all_eq_true,List.mem_range];refine⟨by omega,by omega,fun i hi=>?_⟩
  have e1:S.getD i noLb=S[i]:=by rw[List.getD_eq_getElem?_getD,List.getElem?_eq_getElem hi,Option.getD_some]
  have hm:=hsd _ (List.getElem_mem hi);unfold labOk;rw[e1,nm_ok _ hm.1,zhd _ hm.2];by_cases h0:0<i
  · have:=key i h0 hi;rw[e1]at this;rw[this];simp
  · simp[h0]
 have hgo:z3E S=true:=by
  have gen:∀k i,i+k≤S.length→isGo S k i=true:=by
   intro k
   induction k with
   |zero=>intro i _;rfl
   |succ k ih =>
    intro i hi;rw[isGo]
    have hb:badAt S i=false:=by
     unfold badAt;by_cases h0:0<i
     · rw[decide_eq_true h0];exact key i h0 (by omega)
     · rw[decide_eq_false h0];rfl
    rw[hb];exact ih (i+1) (by omega)
  unfold z3E;have d1:decide (S.length<1)=false:=decide_eq_false (by omega)
  have d2:decide (6<S.length)=false:=decide_eq_false (by omega)
  rw[d1,d2];exact gen _ 0 (by omega)
 rw[if_pos hgo];exact hset
section
variable (σ:St) (p:Nat) (b:Byt) (q:Nat×Bool)
theorem zig (h:σ[p]?=some (rob b q)) (hq:Inb b q) (hb:b.length≤50000):Ans Tryz.prog 137 [.ptr p 0,.fn 138 [] []] σ (lsV (runR setR [] b q).1) (σ.set p (rob b (runR setR [] b q).2)):=by
 obtain⟨a,bad⟩:=q;have hq:a≤b.length:=hq;have hl:(b.drop a).length≤50000:=by rw[List.length_drop];omega
 cases hr:setR (b.drop a) with
 |none =>
  have hrd:=z8R σ (b.drop a) hl;rw[z0B hr]at hrd
  have e:runR setR [] b (a,bad)=([],(a,true)):=by
   cases bad
   · exact z1j hr
   · exact z0Q _ _ _ _
  have e2:took (a,bad) 0 false=(a,true):=by cases bad<;>rfl
  have ht:=z1f σ p b (a,bad) 0 false h (by simp only;omega)
  rw[e2]at ht;rw[e]
  have:Ans Tryz.prog 137 [.ptr p 0,.fn 138 [] []] σ .nils (σ.set p (rob b (a,true))):=by
   refine Ans.of_run t137 ?_;simp -implicitDefEqProofs only[c137,r137,go_sem];refine CO.intro (z1e σ p b (a,bad) h hq) ?_;simp -implicitDefEqProofs only[go_sem];refine CO.intro hrd ?_;simp -implicitDefEqProofs only[go_sem];refine CO.intro ht ?_;simp -implicitDefEqProofs only[go_sem];exact Fini.ret rfl
  exact this.subR (.nils 2)
 |some x =>
  obtain⟨x,t⟩:=x;have hrd:=z8R σ (b.drop a) hl;rw[z0K hr]at hrd;have hdr:=ends_set.drop hq hr;have ht:=z1f σ p b (a,bad) ((b.drop a).length-t.length) true h (by simp only[List.length_drop];omega)
  cases bad with
  |true =>
   have e2:took (a,true) ((b.drop a).length-t.length) true=(a,true):=rfl;rw[e2]at ht;rw[z0Q]
   have:Ans Tryz.prog 137 [.ptr p 0,.fn 138 [] []] σ .nils (σ.set p (rob b (a,true))):=by
    refine Ans.of_run t137 ?_;simp -implicitDefEqProofs only[c137,r137,go_sem];refine CO.intro (z1e σ p b (a,true) h hq) ?_;simp -implicitDefEqProofs only[go_sem];refine CO.intro hrd ?_;simp -implicitDefEqProofs only[go_sem];refine CO.intro ht ?_;simp -implicitDefEqProofs only[go_sem];exact Fini.ret rfl
   exact this.subR (.nils 2)
  |false =>
   have e2:took (a,false) ((b.drop a).length-t.length) true=(b.length-t.length,false):=by
    simp only[took,Bool.false_or,Bool.not_true,Bool.false_eq_true,if_false,List.length_drop];congr 1;omega
   rw[e2]at ht;rw[z14 hr];refine Ans.of_run t137 ?_;simp -implicitDefEqProofs only[c137,r137,go_sem];refine CO.intro (z1e σ p b (a,false) h hq) ?_;simp -implicitDefEqProofs only[go_sem];refine CO.intro hrd ?_;simp -implicitDefEqProofs only[go_sem];refine CO.intro ht ?_;simp -implicitDefEqProofs only[go_sem];exact Fini.ret rfl
theorem zih (h:σ[p]?=some (rob b q)) (hq:Inb b q) (hb:b.length≤50000):Ans Tryz.prog 136 [.ptr p 0,.fn 17 [] []] σ (ruV (runR ruR noRu b q).1) (σ.set p (rob b (runR ruR noRu b q).2)):=by
 obtain⟨a,bad⟩:=q;have hq:a≤b.length:=hq;have hl:(b.drop a).length≤50000:=by rw[List.length_drop];omega
 have hp:p<σ.length:=(List.getElem?_eq_some_iff.1 h).1;have hz:∀ob,(σ++[ob])[p]?=some (rob b (a,bad)):=fun ob=>by rw[List.getElem?_append_left hp];exact h
 have hst:∀ob X,(σ++[ob]).set p X=σ.set p X++[ob]:=fun ob X=>by rw[List.set_append_left _ _ hp]
 have hlen:∀X,(σ.set p X).length=σ.length:=fun X=>List.length_set
 have gx:∀(X:Ob) (o:Ob) (ex:St),(σ.set p X++o::ex)[σ.length]?=some o:=fun X o ex=>by rw[←hlen X];exact g0 _ _ _
 have sx:∀(X:Ob) (o u:Ob) (ex:St),(σ.set p X++o::ex).set σ.length u=σ.set p X++u::ex:=fun X o u ex=>by rw[←hlen X];exact s0 _ _ _ _
 have gx1:∀(X:Ob) (o o2:Ob) (ex:St),(σ.set p X++o::o2::ex)[σ.length+1]?=some o2:=fun X o o2 ex=>by rw[←hlen X];exact g1 _ _ _ _
 have hbo:∀(hbel:∀o∈σ,BelO σ.length o) (q:Nat×Bool),∀o∈σ.set p (rob b q),BelO (σ.set p (rob b q)).length o:=fun hbel q=>by
  rw[hlen]
  exact z2c hbel (fun c hc=>by
   simp only[List.mem_cons,List.not_mem_nil,or_false]at hc;rcases hc with rfl|rfl|rfl
   · exact z2d _ _
   · exact .pl _
   · exact .pl _)
 cases hr:ruR (b.drop a) with
 |none =>
  have hrd:=fun s=>z73 s (b.drop a) hl
  simp only[z0B hr]at hrd
  have e:runR ruR noRu b (a,bad)=(noRu,(a,true)):=by
   cases bad
   · exact z1j hr
   · exact z0Q _ _ _ _
  have e2:took (a,bad) 0 false=(a,true):=by cases bad<;>rfl
  have ht:=fun ob=>z1f (σ++[ob]) p b (a,bad) 0 false (hz ob) (by simp only;omega)
  simp only[e2,hst]at ht;rw[e]
  have:Ans Tryz.prog 136 [.ptr p 0,.fn 17 [] []] σ noRuV (σ.set p (rob b (a,true))):=by
   refine Ans.of_run' t136 (fun hbel _=>?_)
   simp -implicitDefEqProofs only[c136,r136,go_sem];refine CO.intro (z1e _ p b (a,bad) (hz _) hq) ?_;simp -implicitDefEqProofs only[go_sem];refine CO.intro (hrd _) ?_;simp -implicitDefEqProofs only[go_sem,ruV];refine CO.intro (ht _) ?_;simp -implicitDefEqProofs only[go_sem,gx,sx,gx1,List.append_assoc,List.length_append,hlen];exact Fini.trim2 (σ':=σ.set p (rob b (a,true))) (ex:=[_,_]) (by simp -implicitDefEqProofs only[go_sem,resA,z02,rvA,oneOf,gx]<;>rfl) rfl (by rw[hlen];exact Nat.le_refl _) (z1q _) (hbo hbel _)
  exact this.subR z7G
 |some x =>
  obtain⟨x,t⟩:=x;have hrd:=fun s=>z73 s (b.drop a) hl
  simp only[z0K hr]at hrd;have hdr:=ends_ru.drop hq hr;have ht:=fun ob=>z1f (σ++[ob]) p b (a,bad) ((b.drop a).length-t.length) true (hz ob) (by simp only[List.length_drop];omega)
  simp only[hst]at ht
  cases bad with
  |true =>
   have e2:took (a,true) ((b.drop a).length-t.length) true=(a,true):=rfl;rw[e2]at ht;rw[z0Q]
   have:Ans Tryz.prog 136 [.ptr p 0,.fn 17 [] []] σ noRuV (σ.set p (rob b (a,true))):=by
    refine Ans.of_run' t136 (fun hbel _=>?_)
    simp -implicitDefEqProofs only[c136,r136,go_sem];refine CO.intro (z1e _ p b (a,true) (hz _) hq) ?_;simp -implicitDefEqProofs only[go_sem];refine CO.intro (hrd _) ?_;simp -implicitDefEqProofs only[go_sem,ruV];refine CO.intro (ht _) ?_;simp -implicitDefEqProofs only[go_sem,gx,sx,gx1,List.append_assoc,List.length_append,hlen];exact Fini.trim2 (σ':=σ.set p (rob b (a,true))) (ex:=[_,_]) (by simp -implicitDefEqProofs only[go_sem,resA,z02,rvA,oneOf,gx]<;>rfl) rfl (by rw[hlen];exact Nat.le_refl _) (z1q _) (hbo hbel _)
   exact this.subR z7G
  |false =>
   have e2:took (a,false) ((b.drop a).length-t.length) true=(b.length-t.length,false):=by
    simp only[took,Bool.false_or,Bool.not_true,Bool.false_eq_true,if_false,List.length_drop];congr 1;omega
   rw[e2]at ht;rw[z14 hr];refine Ans.of_run' t136 (fun hbel _=>?_)
   simp -implicitDefEqProofs only[c136,r136,go_sem];refine CO.intro (z1e _ p b (a,false) (hz _) hq) ?_;simp -implicitDefEqProofs only[go_sem];refine CO.intro (hrd _) ?_;simp -implicitDefEqProofs only[go_sem,ruV];refine CO.intro (ht _) ?_;simp -implicitDefEqProofs only[go_sem,gx,sx,gx1,List.append_assoc,List.length_append,hlen];exact Fini.trim2 (σ':=σ.set p (rob b (b.length-t.length,false))) (ex:=[_]) (by simp -implicitDefEqProofs only[go_sem,resA,z02,rvA,oneOf,gx]<;>rfl) rfl (by rw[hlen];exact Nat.le_refl _) (z6i _ x) (hbo hbel _)
end
structure ReM where
 tok:ByteArray
 op:Int
 id:Int
 txt:ByteArray
 st:Nat
 en:Nat
 sta:Int
 mt:List Mtr
 any:Bool
 lo:Nat
 hi:Nat
 ru:RuM
 ls:List Lab
 val:Nat
def reC (r:ReM):List AV:=[Sx r.tok,I r.op,I r.id,Sx r.txt,UN r.st,UN r.en,I r.sta,mlV r.mt,Bo r.any,Fl r.lo,Fl r.hi,mlV r.ru.src,mlV r.ru.tgt,Bo r.ru.any,Fl r.ru.lo,Fl r.ru.hi,.sl 1 (txs r.ru.eq),lsV r.ls,Fl r.val]
def reV (r:ReM):AV:=.agg (reC r)
def fTab:List Int:=[0,1,3,3,116,117,1,8,128,1,768,1,16,0,1,0,0]
def fOf (op:Int):Int×Bool:=if 1≤op∧op≤17 then(fTab.getD (op.toNat-1) 0,true) else(0,false)
theorem ops17 (op:Int):op=1∨op=2∨op=3∨op=4∨op=5∨op=6∨op=7∨op=8∨op=9∨op=10∨op=11∨op=12∨op=13∨op=14∨op=15∨op=16∨op=17∨(op<1∨17<op):=by omega
theorem z8W {op:Int} (h:op<1∨17<op):fOf op=(0,false):=by unfold fOf;rw[if_neg (by omega)]
theorem neI {op k:Int} (h:op≠k):(op==k)=false:=by simpa using h
def zF (n:Nat):Bool:=((bitsF n:Nat):Int)==0
def noBd (x:Bnd):Bool:=!x.1&&(zF x.2.1&&zF x.2.2)
def emI (n:Nat):Bool:=((n:Nat):Int)==0
def noRl (r:RuM):Bool:=emI r.src.length&&(emI r.tgt.length&&(emI r.eq.length&&noBd (r.any,r.lo,r.hi)))
def tokB (s:ByteArray):Bool:=decide (4≤s.size)&&decide (s.size≤16)
section
variable (σ:St)
theorem z1k (op:Int):Ans Tryz.prog 90 [I op] σ (.tup [I (fOf op).1,Bo (fOf op).2]) σ:=by
 refine Ans.of_run t90 ?_;rcases ops17 op with rfl|rfl|rfl|rfl|rfl|rfl|rfl|rfl|rfl|rfl|rfl|rfl|rfl|rfl|rfl|rfl|rfl|h
 all_goals first
  |(rw[z8W h]
    simp -implicitDefEqProofs only[c90,r90,go_sem,neI (op:=op) (k:=1) (by omega),neI (op:=op) (k:=2) (by omega),neI (op:=op) (k:=3) (by omega),neI (op:=op) (k:=4) (by omega),neI (op:=op) (k:=5) (by omega),neI (op:=op) (k:=6) (by omega),neI (op:=op) (k:=7) (by omega),neI (op:=op) (k:=8) (by omega),neI (op:=op) (k:=9) (by omega),neI (op:=op) (k:=10) (by omega),neI (op:=op) (k:=11) (by omega),neI (op:=op) (k:=12) (by omega),neI (op:=op) (k:=13) (by omega),neI (op:=op) (k:=14) (by omega),neI (op:=op) (k:=15) (by omega),neI (op:=op) (k:=16) (by omega),neI (op:=op) (k:=17) (by omega)]
    exact Fini.ret rfl)
  |(simp -implicitDefEqProofs only[c90,r90,go_sem]
    exact Fini.ret rfl)
theorem z1l (n:Nat):Ans Tryz.prog 155 [Fl n] σ (Bo (zF n)) σ:=by
 refine Ans.of_run t155 ?_;simp -implicitDefEqProofs only[c155,r155,go_sem];refine CO.intro (z3v σ n) ?_;simp -implicitDefEqProofs only[go_sem];exact Fini.ret rfl
theorem z1u (x:Bnd):Ans Tryz.prog 153 [bandV x] σ (Bo (noBd x)) σ:=by
 obtain⟨a,lo,hi⟩:=x;refine Ans.of_run t153 ?_;unfold bandV noBd;simp only
 cases a with
 |true =>
  simp -implicitDefEqProofs only[c153,r153,go_sem];exact Fini.ret rfl
 |false =>
  simp -implicitDefEqProofs only[c153,r153,go_sem];refine CO.intro (z1l σ lo) ?_
  cases zF lo with
  |false =>
   simp -implicitDefEqProofs only[go_sem];exact Fini.ret rfl
  |true =>
   simp -implicitDefEqProofs only[go_sem];refine CO.intro (z1l σ hi) ?_;simp -implicitDefEqProofs only[go_sem];exact Fini.ret rfl
theorem z1J (r:RuM):Ans Tryz.prog 154 [ruV r] σ (Bo (noRl r)) σ:=by
 have hb:=z1u σ (r.any,r.lo,r.hi);refine Ans.of_run t154 ?_;unfold ruV noRl emI;unfold bandV at hb
 cases h1:(((r.src.length:Nat):Int)==0) with
 |false =>
  simp -implicitDefEqProofs only[c154,r154,go_sem,z0n,h1];exact Fini.ret rfl
 |true =>
 cases h2:(((r.tgt.length:Nat):Int)==0) with
 |false =>
  simp -implicitDefEqProofs only[c154,r154,go_sem,z0n,h1,h2];exact Fini.ret rfl
 |true =>
 cases h3:(((r.eq.length:Nat):Int)==0) with
 |false =>
  simp -implicitDefEqProofs only[c154,r154,go_sem,z0n,z0A,h1,h2,h3];exact Fini.ret rfl
 |true =>
  simp -implicitDefEqProofs only[c154,r154,go_sem,z0n,z0A,h1,h2,h3];refine CO.intro hb ?_;simp -implicitDefEqProofs only[go_sem];exact Fini.ret rfl
theorem z2L (s:ByteArray):Ans Tryz.prog 86 [Sx s] σ (Bo (tokB s)) σ:=by
 have d1:decide ((4:Int)≤(s.size:Nat))=decide (4≤s.size):=intle 4 s.size;have d2:decide (((s.size:Nat):Int)≤16)=decide (s.size≤16):=intle s.size 16;refine Ans.of_run t86 ?_;unfold tokB
 cases h:decide (4≤s.size) with
 |false =>
  simp -implicitDefEqProofs only[c86,r86,go_sem,d1,h];exact Fini.ret rfl
 |true =>
  simp -implicitDefEqProofs only[c86,r86,go_sem,d1,d2,h];exact Fini.ret rfl
end
def andI (a b:Int):Int:=IntKind.i64.wrap ((BitVec.ofInt 64 a &&& BitVec.ofInt 64 b).toNat:Int)
def hasF (f k:Int):Bool:=decide (0<andI f k)
def emS (s:ByteArray):Bool:=s.toList==(⟨#[]⟩:ByteArray).toList
def emU (n:Nat):Bool:=(n:Int)==0
def idR (n:Int):Bool:=decide (0≤n)&&decide (n≤2147483647)
def clkB (n:Nat):Bool:=decide ((n:Int)≤1099511627776)
def staR (n:Int):Bool:=decide (0≤n)&&decide (n≤3)
def zeroB (r:ReM) (f:Int):Bool :=
 (hasF f 1||r.id==0)&&((hasF f 2||emS r.txt)&&((hasF f 4||(emU r.st&&emU r.en))&&((hasF f 8||r.sta==0)&&((hasF f 16||emI r.mt.length)&&((hasF f 64||noBd (r.any,r.lo,r.hi))&&((hasF f 128||noRl r.ru)&&((hasF f 256||emI r.ls.length)&&(hasF f 512||zF r.val))))))))
def z0c (r:ReM) (f:Int):Bool :=
 idR r.id&&((!hasF f 2||tokB r.txt)&&(clkB r.st&&(clkB r.en&&(staR r.sta&&(listB r.mt&&((!hasF f 32|| !emI r.mt.length)&&((!hasF f 64||mayB r.any r.lo r.hi)&&((!hasF f 128||ruIs r.ru)&&(!hasF f 256||setB r.ls)))))))))
def mayR (r:ReM):Bool:=(fOf r.op).2&&(zeroB r (fOf r.op).1&&z0c r (fOf r.op).1)
def reIs (r:ReM):Bool:=tokB r.tok&&mayR r
theorem z5e (n:Nat):decide ((0:Int)<n)= !emI n:=by
 unfold emI;rw[Bool.eq_iff_iff];simp only[decide_eq_true_eq,Bool.not_eq_true',beq_eq_false_iff_ne];omega
theorem z6p (op:Int):(fOf op).1∈[0,1,3,116,117,8,128,768,16]:=by
 rcases ops17 op with rfl|rfl|rfl|rfl|rfl|rfl|rfl|rfl|rfl|rfl|rfl|rfl|rfl|rfl|rfl|rfl|rfl|h
 all_goals first|(rw[z8W h];decide)|decide
abbrev aI (f k:Int):Int:=IntKind.i64.wrap (((@HAnd.hAnd (BitVec 64) (BitVec 64) (BitVec 64) (@instHAndOfAndOp (BitVec IntKind.i64.bits) (@BitVec.instAndOp IntKind.i64.bits)) (BitVec.ofInt 64 f) (BitVec.ofInt 64 k)).toNat:Nat):Int)
theorem an_0:aI 0 1=0∧aI 0 2=0∧aI 0 4=0∧aI 0 8=0∧aI 0 16=0∧aI 0 32=0∧aI 0 64=0∧aI 0 128=0∧aI 0 256=0∧aI 0 512=0:=by decide +kernel
theorem hs_0:hasF 0 1=false∧hasF 0 2=false∧hasF 0 4=false∧hasF 0 8=false∧hasF 0 16=false∧hasF 0 32=false∧hasF 0 64=false∧hasF 0 128=false∧hasF 0 256=false∧hasF 0 512=false:=by decide +kernel
theorem an_1:aI 1 1=1∧aI 1 2=0∧aI 1 4=0∧aI 1 8=0∧aI 1 16=0∧aI 1 32=0∧aI 1 64=0∧aI 1 128=0∧aI 1 256=0∧aI 1 512=0:=by decide +kernel
theorem hs_1:hasF 1 1=true∧hasF 1 2=false∧hasF 1 4=false∧hasF 1 8=false∧hasF 1 16=false∧hasF 1 32=false∧hasF 1 64=false∧hasF 1 128=false∧hasF 1 256=false∧hasF 1 512=false:=by decide +kernel
theorem an_3:aI 3 1=1∧aI 3 2=2∧aI 3 4=0∧aI 3 8=0∧aI 3 16=0∧aI 3 32=0∧aI 3 64=0∧aI 3 128=0∧aI 3 256=0∧aI 3 512=0:=by decide +kernel
theorem hs_3:hasF 3 1=true∧hasF 3 2=true∧hasF 3 4=false∧hasF 3 8=false∧hasF 3 16=false∧hasF 3 32=false∧hasF 3 64=false∧hasF 3 128=false∧hasF 3 256=false∧hasF 3 512=false:=by decide +kernel
theorem zii:aI 116 1=0∧aI 116 2=0∧aI 116 4=4∧aI 116 8=0∧aI 116 16=16∧aI 116 32=32∧aI 116 64=64∧aI 116 128=0∧aI 116 256=0∧aI 116 512=0:=by decide +kernel
theorem z78:hasF 116 1=false∧hasF 116 2=false∧hasF 116 4=true∧hasF 116 8=false∧hasF 116 16=true∧hasF 116 32=true∧hasF 116 64=true∧hasF 116 128=false∧hasF 116 256=false∧hasF 116 512=false:=by decide +kernel
theorem zij:aI 117 1=1∧aI 117 2=0∧aI 117 4=4∧aI 117 8=0∧aI 117 16=16∧aI 117 32=32∧aI 117 64=64∧aI 117 128=0∧aI 117 256=0∧aI 117 512=0:=by decide +kernel
theorem z79:hasF 117 1=true∧hasF 117 2=false∧hasF 117 4=true∧hasF 117 8=false∧hasF 117 16=true∧hasF 117 32=true∧hasF 117 64=true∧hasF 117 128=false∧hasF 117 256=false∧hasF 117 512=false:=by decide +kernel
theorem an_8:aI 8 1=0∧aI 8 2=0∧aI 8 4=0∧aI 8 8=8∧aI 8 16=0∧aI 8 32=0∧aI 8 64=0∧aI 8 128=0∧aI 8 256=0∧aI 8 512=0:=by decide +kernel
theorem hs_8:hasF 8 1=false∧hasF 8 2=false∧hasF 8 4=false∧hasF 8 8=true∧hasF 8 16=false∧hasF 8 32=false∧hasF 8 64=false∧hasF 8 128=false∧hasF 8 256=false∧hasF 8 512=false:=by decide +kernel
theorem zik:aI 128 1=0∧aI 128 2=0∧aI 128 4=0∧aI 128 8=0∧aI 128 16=0∧aI 128 32=0∧aI 128 64=0∧aI 128 128=128∧aI 128 256=0∧aI 128 512=0:=by decide +kernel
theorem hs_128:hasF 128 1=false∧hasF 128 2=false∧hasF 128 4=false∧hasF 128 8=false∧hasF 128 16=false∧hasF 128 32=false∧hasF 128 64=false∧hasF 128 128=true∧hasF 128 256=false∧hasF 128 512=false:=by decide +kernel
theorem zil:aI 768 1=0∧aI 768 2=0∧aI 768 4=0∧aI 768 8=0∧aI 768 16=0∧aI 768 32=0∧aI 768 64=0∧aI 768 128=0∧aI 768 256=256∧aI 768 512=512:=by decide +kernel
theorem hs_768:hasF 768 1=false∧hasF 768 2=false∧hasF 768 4=false∧hasF 768 8=false∧hasF 768 16=false∧hasF 768 32=false∧hasF 768 64=false∧hasF 768 128=false∧hasF 768 256=true∧hasF 768 512=true:=by decide +kernel
theorem an_16:aI 16 1=0∧aI 16 2=0∧aI 16 4=0∧aI 16 8=0∧aI 16 16=16∧aI 16 32=0∧aI 16 64=0∧aI 16 128=0∧aI 16 256=0∧aI 16 512=0:=by decide +kernel
theorem hs_16:hasF 16 1=false∧hasF 16 2=false∧hasF 16 4=false∧hasF 16 8=false∧hasF 16 16=true∧hasF 16 32=false∧hasF 16 64=false∧hasF 16 128=false∧hasF 16 256=false∧hasF 16 512=false:=by decide +kernel
attribute [go_sem] z0n z0k z0A an_0 an_1 an_3 zii zij an_8 zik zil an_16
section
variable (σ:St)
set_option maxHeartbeats 4000000 in
theorem zim (r:ReM):Ans Tryz.prog 125 [reV r,I 0] σ (Bo (zeroB r 0)) σ:=by
 obtain⟨tok,op,id,txt,st,en,sta,mt,any,lo,hi,⟨src,tgt,ra,rl,rh,eq⟩,ls,val⟩:=r;have b1:=z1u σ (any,lo,hi);have b2:=z1J σ ⟨src,tgt,ra,rl,rh,eq⟩;have b3:=z1l σ val;unfold bandV at b1;unfold ruV at b2;refine Ans.of_run t125 ?_;unfold reV reC zeroB;simp only[hs_0,Bool.true_or,Bool.false_or,Bool.true_and];unfold emS;unfold emU;unfold emI
 cases h0:(id==0) with
 |false =>
  simp -implicitDefEqProofs only[c125,r125,go_sem,h0];exact Fini.ret rfl
 |true =>
 cases h1:(txt.toList==(⟨#[]⟩:ByteArray).toList) with
 |false =>
  simp -implicitDefEqProofs only[c125,r125,go_sem,h0,h1];exact Fini.ret rfl
 |true =>
 cases h2:(((st:Nat):Int)==0) with
 |false =>
  simp -implicitDefEqProofs only[c125,r125,go_sem,h0,h1,h2];exact Fini.ret rfl
 |true =>
 cases h3:(((en:Nat):Int)==0) with
 |false =>
  simp -implicitDefEqProofs only[c125,r125,go_sem,h0,h1,h2,h3];exact Fini.ret rfl
 |true =>
 cases h4:(sta==0) with
 |false =>
  simp -implicitDefEqProofs only[c125,r125,go_sem,h0,h1,h2,h3,h4];exact Fini.ret rfl
 |true =>
 cases h5:(((mt.length:Nat):Int)==0) with
 |false =>
  simp -implicitDefEqProofs only[c125,r125,go_sem,h0,h1,h2,h3,h4,h5];exact Fini.ret rfl
 |true =>
 simp -implicitDefEqProofs only[c125,r125,go_sem,h0,h1,h2,h3,h4,h5];refine CO.intro b1 ?_
 cases h6:noBd (any,lo,hi) with
 |false =>
  simp -implicitDefEqProofs only[go_sem];exact Fini.ret rfl
 |true =>
 simp -implicitDefEqProofs only[go_sem];refine CO.intro b2 ?_
 cases h7:noRl ⟨src,tgt,ra,rl,rh,eq⟩ with
 |false =>
  simp -implicitDefEqProofs only[go_sem];exact Fini.ret rfl
 |true =>
 cases h8:(((ls.length:Nat):Int)==0) with
 |false =>
  simp -implicitDefEqProofs only[go_sem,h8];exact Fini.ret rfl
 |true =>
 simp -implicitDefEqProofs only[go_sem,h8];refine CO.intro b3 ?_
 cases h9:zF val with
 |false =>
  simp -implicitDefEqProofs only[go_sem];exact Fini.ret rfl
 |true =>
 simp -implicitDefEqProofs only[go_sem];exact Fini.ret rfl
set_option maxHeartbeats 4000000 in
theorem zhf (r:ReM):Ans Tryz.prog 126 [reV r,I 0] σ (Bo (z0c r 0)) σ:=by
 obtain⟨tok,op,id,txt,st,en,sta,mt,any,lo,hi,⟨src,tgt,ra,rl,rh,eq⟩,ls,val⟩:=r;have b0:=z2L σ txt;have b1:=z1y σ mt;have b2:=z2f σ any lo hi;have b3:=z27 σ ⟨src,tgt,ra,rl,rh,eq⟩;have b4:=z28 σ ls;unfold ruV at b3;refine Ans.of_run t126 ?_;unfold reV reC z0c idR staR clkB;simp only[hs_0,Bool.not_true,Bool.not_false,Bool.true_or,Bool.false_or,Bool.true_and,Bool.and_assoc]
 cases h0:decide (0≤id) with
 |false =>
  simp -implicitDefEqProofs only[c126,r126,go_sem,h0];exact Fini.ret rfl
 |true =>
 cases h1:decide (id≤2147483647) with
 |false =>
  simp -implicitDefEqProofs only[c126,r126,go_sem,h0,h1];exact Fini.ret rfl
 |true =>
 cases h2:decide (((st:Nat):Int)≤1099511627776) with
 |false =>
  simp -implicitDefEqProofs only[c126,r126,go_sem,h0,h1,h2];exact Fini.ret rfl
 |true =>
 cases h3:decide (((en:Nat):Int)≤1099511627776) with
 |false =>
  simp -implicitDefEqProofs only[c126,r126,go_sem,h0,h1,h2,h3];exact Fini.ret rfl
 |true =>
 cases h4:decide (0≤sta) with
 |false =>
  simp -implicitDefEqProofs only[c126,r126,go_sem,h0,h1,h2,h3,h4];exact Fini.ret rfl
 |true =>
 cases h5:decide (sta≤3) with
 |false =>
  simp -implicitDefEqProofs only[c126,r126,go_sem,h0,h1,h2,h3,h4,h5];exact Fini.ret rfl
 |true =>
 simp -implicitDefEqProofs only[c126,r126,go_sem,h0,h1,h2,h3,h4,h5];refine CO.intro b1 ?_
 cases h6:listB mt with
 |false =>
  simp -implicitDefEqProofs only[go_sem,];exact Fini.ret rfl
 |true =>
 simp -implicitDefEqProofs only[go_sem];exact Fini.ret rfl
set_option maxHeartbeats 4000000 in
theorem zin (r:ReM):Ans Tryz.prog 125 [reV r,I 1] σ (Bo (zeroB r 1)) σ:=by
 obtain⟨tok,op,id,txt,st,en,sta,mt,any,lo,hi,⟨src,tgt,ra,rl,rh,eq⟩,ls,val⟩:=r;have b1:=z1u σ (any,lo,hi);have b2:=z1J σ ⟨src,tgt,ra,rl,rh,eq⟩;have b3:=z1l σ val;unfold bandV at b1;unfold ruV at b2;refine Ans.of_run t125 ?_;unfold reV reC zeroB;simp only[hs_1,Bool.true_or,Bool.false_or,Bool.true_and];unfold emS;unfold emU;unfold emI
 cases h0:(txt.toList==(⟨#[]⟩:ByteArray).toList) with
 |false =>
  simp -implicitDefEqProofs only[c125,r125,go_sem,h0];exact Fini.ret rfl
 |true =>
 cases h1:(((st:Nat):Int)==0) with
 |false =>
  simp -implicitDefEqProofs only[c125,r125,go_sem,h0,h1];exact Fini.ret rfl
 |true =>
 cases h2:(((en:Nat):Int)==0) with
 |false =>
  simp -implicitDefEqProofs only[c125,r125,go_sem,h0,h1,h2];exact Fini.ret rfl
 |true =>
 cases h3:(sta==0) with
 |false =>
  simp -implicitDefEqProofs only[c125,r125,go_sem,h0,h1,h2,h3];exact Fini.ret rfl
 |true =>
 cases h4:(((mt.length:Nat):Int)==0) with
 |false =>
  simp -implicitDefEqProofs only[c125,r125,go_sem,h0,h1,h2,h3,h4];exact Fini.ret rfl
 |true =>
 simp -implicitDefEqProofs only[c125,r125,go_sem,h0,h1,h2,h3,h4];refine CO.intro b1 ?_
 cases h5:noBd (any,lo,hi) with
 |false =>
  simp -implicitDefEqProofs only[go_sem];exact Fini.ret rfl
 |true =>
 simp -implicitDefEqProofs only[go_sem];refine CO.intro b2 ?_
 cases h6:noRl ⟨src,tgt,ra,rl,rh,eq⟩ with
 |false =>
  simp -implicitDefEqProofs only[go_sem];exact Fini.ret rfl
 |true =>
 cases h7:(((ls.length:Nat):Int)==0) with
 |false =>
  simp -implicitDefEqProofs only[go_sem,h7];exact Fini.ret rfl
 |true =>
 simp -implicitDefEqProofs only[go_sem,h7];refine CO.intro b3 ?_
 cases h8:zF val with
 |false =>
  simp -implicitDefEqProofs only[go_sem];exact Fini.ret rfl
 |true =>
 simp -implicitDefEqProofs only[go_sem];exact Fini.ret rfl
set_option maxHeartbeats 4000000 in
theorem zhg (r:ReM):Ans Tryz.prog 126 [reV r,I 1] σ (Bo (z0c r 1)) σ:=by
 obtain⟨tok,op,id,txt,st,en,sta,mt,any,lo,hi,⟨src,tgt,ra,rl,rh,eq⟩,ls,val⟩:=r;have b0:=z2L σ txt;have b1:=z1y σ mt;have b2:=z2f σ any lo hi;have b3:=z27 σ ⟨src,tgt,ra,rl,rh,eq⟩;have b4:=z28 σ ls;unfold ruV at b3;refine Ans.of_run t126 ?_;unfold reV reC z0c idR staR clkB;simp only[hs_1,Bool.not_true,Bool.not_false,Bool.true_or,Bool.false_or,Bool.true_and,Bool.and_assoc]
 cases h0:decide (0≤id) with
 |false =>
  simp -implicitDefEqProofs only[c126,r126,go_sem,h0];exact Fini.ret rfl
 |true =>
 cases h1:decide (id≤2147483647) with
 |false =>
  simp -implicitDefEqProofs only[c126,r126,go_sem,h0,h1];exact Fini.ret rfl
 |true =>
 cases h2:decide (((st:Nat):Int)≤1099511627776) with
 |false =>
  simp -implicitDefEqProofs only[c126,r126,go_sem,h0,h1,h2];exact Fini.ret rfl
 |true =>
 cases h3:decide (((en:Nat):Int)≤1099511627776) with
 |false =>
  simp -implicitDefEqProofs only[c126,r126,go_sem,h0,h1,h2,h3];exact Fini.ret rfl
 |true =>
 cases h4:decide (0≤sta) with
 |false =>
  simp -implicitDefEqProofs only[c126,r126,go_sem,h0,h1,h2,h3,h4];exact Fini.ret rfl
 |true =>
 cases h5:decide (sta≤3) with
 |false =>
  simp -implicitDefEqProofs only[c126,r126,go_sem,h0,h1,h2,h3,h4,h5];exact Fini.ret rfl
 |true =>
 simp -implicitDefEqProofs only[c126,r126,go_sem,h0,h1,h2,h3,h4,h5];refine CO.intro b1 ?_
 cases h6:listB mt with
 |false =>
  simp -implicitDefEqProofs only[go_sem,];exact Fini.ret rfl
 |true =>
 simp -implicitDefEqProofs only[go_sem];exact Fini.ret rfl
set_option maxHeartbeats 4000000 in
theorem zio (r:ReM):Ans Tryz.prog 125 [reV r,I 3] σ (Bo (zeroB r 3)) σ:=by
 obtain⟨tok,op,id,txt,st,en,sta,mt,any,lo,hi,⟨src,tgt,ra,rl,rh,eq⟩,ls,val⟩:=r;have b1:=z1u σ (any,lo,hi);have b2:=z1J σ ⟨src,tgt,ra,rl,rh,eq⟩;have b3:=z1l σ val;unfold bandV at b1;unfold ruV at b2;refine Ans.of_run t125 ?_;unfold reV reC zeroB;simp only[hs_3,Bool.true_or,Bool.false_or,Bool.true_and];unfold emU;unfold emI
 cases h0:(((st:Nat):Int)==0) with
 |false =>
  simp -implicitDefEqProofs only[c125,r125,go_sem,h0];exact Fini.ret rfl
 |true =>
 cases h1:(((en:Nat):Int)==0) with
 |false =>
  simp -implicitDefEqProofs only[c125,r125,go_sem,h0,h1];exact Fini.ret rfl
 |true =>
 cases h2:(sta==0) with
 |false =>
  simp -implicitDefEqProofs only[c125,r125,go_sem,h0,h1,h2];exact Fini.ret rfl
 |true =>
 cases h3:(((mt.length:Nat):Int)==0) with
 |false =>
  simp -implicitDefEqProofs only[c125,r125,go_sem,h0,h1,h2,h3];exact Fini.ret rfl
 |true =>
 simp -implicitDefEqProofs only[c125,r125,go_sem,h0,h1,h2,h3];refine CO.intro b1 ?_
 cases h4:noBd (any,lo,hi) with
 |false =>
  simp -implicitDefEqProofs only[go_sem];exact Fini.ret rfl
 |true =>
 simp -implicitDefEqProofs only[go_sem];refine CO.intro b2 ?_
 cases h5:noRl ⟨src,tgt,ra,rl,rh,eq⟩ with
 |false =>
  simp -implicitDefEqProofs only[go_sem];exact Fini.ret rfl
 |true =>
 cases h6:(((ls.length:Nat):Int)==0) with
 |false =>
  simp -implicitDefEqProofs only[go_sem,h6];exact Fini.ret rfl
 |true =>
 simp -implicitDefEqProofs only[go_sem,h6];refine CO.intro b3 ?_
 cases h7:zF val with
 |false =>
  simp -implicitDefEqProofs only[go_sem];exact Fini.ret rfl
 |true =>
 simp -implicitDefEqProofs only[go_sem];exact Fini.ret rfl
set_option maxHeartbeats 4000000 in
theorem zhh (r:ReM):Ans Tryz.prog 126 [reV r,I 3] σ (Bo (z0c r 3)) σ:=by
 obtain⟨tok,op,id,txt,st,en,sta,mt,any,lo,hi,⟨src,tgt,ra,rl,rh,eq⟩,ls,val⟩:=r;have b0:=z2L σ txt;have b1:=z1y σ mt;have b2:=z2f σ any lo hi;have b3:=z27 σ ⟨src,tgt,ra,rl,rh,eq⟩;have b4:=z28 σ ls;unfold ruV at b3;refine Ans.of_run t126 ?_;unfold reV reC z0c idR staR clkB;simp only[hs_3,Bool.not_true,Bool.not_false,Bool.true_or,Bool.false_or,Bool.true_and,Bool.and_assoc]
 cases h0:decide (0≤id) with
 |false =>
  simp -implicitDefEqProofs only[c126,r126,go_sem,h0];exact Fini.ret rfl
 |true =>
 cases h1:decide (id≤2147483647) with
 |false =>
  simp -implicitDefEqProofs only[c126,r126,go_sem,h0,h1];exact Fini.ret rfl
 |true =>
 simp -implicitDefEqProofs only[c126,r126,go_sem,h0,h1];refine CO.intro b0 ?_
 cases h2:tokB txt with
 |false =>
  simp -implicitDefEqProofs only[go_sem,];exact Fini.ret rfl
 |true =>
 cases h3:decide (((st:Nat):Int)≤1099511627776) with
 |false =>
  simp -implicitDefEqProofs only[go_sem,h3];exact Fini.ret rfl
 |true =>
 cases h4:decide (((en:Nat):Int)≤1099511627776) with
 |false =>
  simp -implicitDefEqProofs only[go_sem,h3,h4];exact Fini.ret rfl
 |true =>
 cases h5:decide (0≤sta) with
 |false =>
  simp -implicitDefEqProofs only[go_sem,h3,h4,h5];exact Fini.ret rfl
 |true =>
 cases h6:decide (sta≤3) with
 |false =>
  simp -implicitDefEqProofs only[go_sem,h3,h4,h5,h6];exact Fini.ret rfl
 |true =>
 simp -implicitDefEqProofs only[go_sem,h3,h4,h5,h6];refine CO.intro b1 ?_
 cases h7:listB mt with
 |false =>
  simp -implicitDefEqProofs only[go_sem,];exact Fini.ret rfl
 |true =>
 simp -implicitDefEqProofs only[go_sem];exact Fini.ret rfl
end
end Go.Proofs.YtmkmhhjkdaklbaaGreat
