/- What the functions do, over abstract values: printed by a program, checked by the kernel. No condition. -/
import Derived.Test.YtmkmhhjkdaklbaaGreatProg
import Derived.Test.YtmkmhhjkdaklbaaGreatAbStepx
import Derived.Test.YtmkmhhjkdaklbaaGreatRq2cx
import Derived.Test.YtmkmhhjkdaklbaaGreatXNinex
import Derived.Test.YtmkmhhjkdaklbaaGreatXMr2x
set_option linter.unusedSimpArgs false
set_option linter.unusedVariables false
set_option linter.unusedSectionVars false
namespace Go.Proofs.YtmkmhhjkdaklbaaGreat
open Go Go.Ab
set_option maxRecDepth 100000
def c20:ACode :=
 (sq_ [pr_ 1 (.boxr (.tmp 0)),
 pr_ 2 (.mov (.const (.slice none 0 0)))]
 (.seq (sq_ [pr_ 5 (lt_ 6 1),
 c1_ 6 67 5,
 pr_ 7 (no_ 6)]
 (.cond (.tmp 7)
 (sq_ [pr_ 2 (.mov (.const (.slice none 0 0)))]
 (.ghost (.shut 2) .ret))
 .skip))
 (.seq (.draw [⟨pr_ 8 (fa_ 0 1),[],false,0,0⟩,
 ⟨pr_ 9 (lf_ 1 8),[0],false,0,0⟩,
 ⟨c1_ 10 73 9,[0,1],true,0,0⟩,
 ⟨pr_ 11 (fa_ 1 1),[],false,0,1⟩,
 ⟨pr_ 12 (lf_ 1 11),[3],false,0,1⟩,
 ⟨c1_ 13 73 12,[0,1,2,3,4],true,0,0⟩,
 ⟨pr_ 14 (.app 1 (.tmp 10) (.tmp 13)),(List.range 6),true,0,0⟩,
 ⟨pr_ 15 (fa_ 2 1),[],false,0,3⟩,
 ⟨pr_ 16 (lt_ 3 15),[7],false,0,3⟩,
 ⟨c1_ 17 74 16,(List.range 9),true,0,0⟩,
 ⟨pr_ 18 (.app 1 (.tmp 14) (.tmp 17)),(List.range 10),true,0,0⟩,
 ⟨mv_ 3 18,(List.range 11),false,5,5⟩])
 (sq_ [mv_ 19 3,
 pr_ 20 (fa_ 5 1),
 pr_ 21 (lf_ 1 20),
 pr_ 22 (.lenv (.tmp 21)),
 pr_ 23 (.convi .u64 (.tmp 22)),
 c1_ 24 75 23,
 pr_ 25 (.app 1 (.tmp 19) (.tmp 24)),
 mv_ 3 25]
 (.seq (sq_ [pr_ 4 (mi_ .i64 0)]
 (.block 0 (.loop [0,2,5,6,7,8,9,10,11,12,13,14,15,16,17,18,19,20,21,22,23,24,25,26,27,28,29,30,31,32,33,34,35,36,37,38,39,40,41] (.seq (sq_ [mv_ 26 4,
 pr_ 27 (fa_ 5 1),
 pr_ 28 (lf_ 1 27),
 pr_ 29 (.lenv (.tmp 28)),
 pr_ 30 (bt_ .lss 26 29)]
 (.cond (.tmp 30)
 .skip
 (.exit 0)))
 (.seq (.block 1 (.ops [mv_ 33 3,
 pr_ 34 (fa_ 5 1),
 pr_ 35 (lf_ 1 34),
 mv_ 36 4,
 pr_ 37 (.iadrs 1 (.tmp 35) (.tmp 36)),
 pr_ 38 (lf_ 1 37),
 c1_ 39 76 38,
 pr_ 40 (.app 1 (.tmp 33) (.tmp 39)),
 mv_ 3 40]))
 (.ops [mv_ 31 4,
 pr_ 32 (bk_ .add 31 .i64 1),
 mv_ 4 32]))))))
 (sq_ [mv_ 41 3,
 mv_ 2 41]
 (.ghost (.shut 2) .ret)))))))
def o20:List Tmp:=[]
def r20:List RV:=[.tmp 2]
theorem t20:Text Tryz.prog 20 o20 c20 r20 42:=.mk_ Tryz.f20 rfl
def c74:ACode :=
 (sq_ [pr_ 1 (.boxr (.tmp 0)),
 pr_ 2 (.mov (.const (.slice none 0 0)))]
 (.seq (sq_ [pr_ 3 (fa_ 0 1),
 pr_ 4 (lf_ 1 3)]
 (.cond (.tmp 4)
 (sq_ [pr_ 5 (.bsl false 1 false 1 [.pl (.int .u8 0)] [(0,1,(.const (.int .u8 1)))]),
 mv_ 2 5]
 (.ghost (.shut 2) .ret))
 .skip))
 (.seq (.draw [⟨pr_ 6 (.bsl true 1 false 1 [.pl (.int .u8 0)] [(0,1,(.const (.int .u8 0)))]),[],true,0,0⟩,
 ⟨pr_ 7 (fa_ 1 1),[],false,0,1⟩,
 ⟨pr_ 8 (lf_ 1 7),[1],false,0,1⟩,
 ⟨c1_ 9 48 8,[1,2],false,0,1⟩,
 ⟨c1_ 10 97 9,[1,2,3],false,0,1⟩,
 ⟨pr_ 11 (.app 1 (.tmp 6) (.tmp 10)),[0,1,2,3,4],true,0,0⟩,
 ⟨pr_ 12 (fa_ 2 1),[],false,0,2⟩,
 ⟨pr_ 13 (lf_ 1 12),[6],false,0,2⟩,
 ⟨c1_ 14 48 13,(List.range 8),true,0,0⟩,
 ⟨c1_ 15 97 14,(List.range 9),true,0,0⟩,
 ⟨pr_ 16 (.app 1 (.tmp 11) (.tmp 15)),(List.range 10),true,0,0⟩,
 ⟨mv_ 2 16,(List.range 11),false,5,5⟩])
 (.ghost (.shut 2) .ret))))
def o74:List Tmp:=[6]
def r74:List RV:=[.tmp 2]
theorem t74:Text Tryz.prog 74 o74 c74 r74 17:=.mk_ Tryz.f74 rfl
def c97:ACode :=
 (sq_ [pr_ 2 (.mov (.const (.slice none 0 0)))]
 (sq_ [pr_ 5 (.mks 1 false [.pl (.int .u8 0)] (.const (.int .i64 8)) (.const (.int .i64 8))),
 mv_ 3 5]
 (.seq (sq_ [pr_ 4 (mi_ .i64 0)]
 (.block 0 (.loop [1,2,5,6,7,8,9,10,11,12,13,14,15,16,17,18,19,20] (.seq (sq_ [mv_ 6 4,
 pr_ 7 (bk_ .lss 6 .i64 8)]
 (.cond (.tmp 7)
 .skip
 (.exit 0)))
 (.seq (.block 1 (.ops [mv_ 10 3,
 mv_ 11 4,
 mv_ 12 0,
 mv_ 13 4,
 pr_ 14 (.bin false .mul (.const (.int .i64 8)) (.tmp 13)),
 pr_ 15 (.bin false .sub (.const (.int .i64 56)) (.tmp 14)),
 pr_ 16 (.convi .u64 (.tmp 15)),
 pr_ 17 (bt_ .shr 12 16),
 pr_ 18 (.convi .u8 (.tmp 17)),
 pr_ 19 (.iadrs 1 (.tmp 10) (.tmp 11)),
 st_ (so_ 1 19 18)]))
 (.ops [mv_ 8 4,
 pr_ 9 (bk_ .add 8 .i64 1),
 mv_ 4 9]))))))
 (sq_ [mv_ 20 3,
 mv_ 2 20]
 (.ghost (.shut 2) .ret)))))
def o97:List Tmp:=[]
def r97:List RV:=[.tmp 2]
theorem t97:Text Tryz.prog 97 o97 c97 r97 21:=.mk_ Tryz.f97 rfl
end Go.Proofs.YtmkmhhjkdaklbaaGreat
namespace Go.Proofs.YtmkmhhjkdaklbaaGreat
open Go Go.Ab Go.Cod
set_option maxRecDepth 100000
section
variable (σ:St)
theorem z3r (n:Nat):Ans Tryz.prog 97 [UN n] σ (.sl 1 (byv (wrdB n))) σ:=by
 refine Ans.of_run' t97 (fun hbel _=>?_)
 have z8:Int.toNat 8=8:=rfl;simp -implicitDefEqProofs only[c97,r97,go_sem,mks8,z8,g0,s0,List.length_cons,List.length_nil];refine Go.Ab.L.count 8 (fun i=>mkE 21 [(0,UN n),(3,.osl σ.length 8),(4,I i)]) (fun i=>σ++[.row 1 (fillW n i)]) ?_ ?_ rfl rfl
 · intro i hi J hJ;have hl:=z8b n i (by omega)
   have d0:decide ((i:Int)<8)=true:=by simp;omega
   have w1:IntKind.i64.wrap (8*(i:Int))=((8*i:Nat):Int):=by rw[wrapN (by omega) (by omega)];push_cast;rfl
   have w2:IntKind.i64.wrap (56-((8*i:Nat):Int))=((56-8*i:Nat):Int):=by rw[wrapN (by omega) (by omega)];omega
   have w3:=z1y (n:=56-8*i) (by omega)
   have h3:=shrN n (56-8*i) (by omega)
   rw[Int.toNat_natCast]at h3;have hlt:((i:Int)<((8:Nat):Int))=True:=eq_true (by omega)
   have hget:(fillW n i)[i]?=some Zb:=zcy n i hi;have hin:=wrap_succ (i:=i) (by omega)
   have hset:(fillW n i).set i (.pl (.int .u8 ((n/2^(56-8*i)).toUInt8.toNat:Nat)))=fillW n (i+1):=zcx n i hi;simp -implicitDefEqProofs only[mkE,go_sem,d0,w1,w2,w3,h3,zgQ,g0,s0,hl,hin,hset,hlt,hget];exact hJ
 · intro J;have hl:=z8b n 8 (by omega)
   have d0:decide (((8:Nat):Int)<8)=false:=by decide
   have e8:fillW n 8=byv (wrdB n):=by unfold fillW;rw[List.take_of_length_le (by rw[z04,z1Y];omega)];simp
   simp -implicitDefEqProofs only[mkE,go_sem,d0,g0,s0,hl,e8];exact Fini.trim2 (σ':=σ) rfl rfl (Nat.le_refl _) (z1F _ _) hbel
theorem z3F (x:Bnd):Ans Tryz.prog 74 [bandV x] σ (.sl 1 (byv (putBd x))) σ:=by
 obtain⟨any,lo,hi⟩:=x;refine Ans.of_run' t74 (fun hbel _=>?_)
 unfold bandV putBd
 cases any with
 |true =>
  simp -implicitDefEqProofs only[c74,r74,go_sem];exact Fini.ret rfl
 |false =>
  have i1:=fun s=>z0K s lo
  have i2:=fun s=>z0K s hi
  have i3:=fun s=>z3r s (bitsF lo)
  have i4:=fun s=>z3r s (bitsF hi)
  have l1:(wrdB (bitsF lo)).length=8:=rfl;have l2:(wrdB (bitsF hi)).length=8:=rfl;unfold putV;generalize wrdB (bitsF lo)=a at i3 l1⊢;generalize wrdB (bitsF hi)=c at i4 l2⊢;have p1:(1+8≤2^32)=True:=eq_true (by decide)
  have p2:(1+8+8≤2^32)=True:=eq_true (by decide)
  simp -implicitDefEqProofs only[c74,r74,go_sem,z00]
  first|refine CD.intro (i1 _) ?_|refine CS.intro i1 ?_
  simp -implicitDefEqProofs only[go_sem,z00]
  first|refine CD.intro (i3 _) ?_|refine CS.intro i3 ?_
  simp -implicitDefEqProofs only[go_sem,z00,g0,s0,z04,z0o,bc,l1,p1,List.length_cons,List.length_nil,List.length_append]
  first|refine CD.intro (i2 _) ?_|refine CS.intro i2 ?_
  simp -implicitDefEqProofs only[go_sem,z00]
  first|refine CD.intro (i4 _) ?_|refine CS.intro i4 ?_
  simp -implicitDefEqProofs only[go_sem,z00,g0,s0,z04,z0o,bc,l1,l2,p2,List.length_cons,List.length_nil,List.length_append];exact Fini.trim2 (σ':=σ) (ex:=[_]) (by rw[z4Q,z0l];rfl) rfl (Nat.le_refl _) (z1F _ _) hbel
end
end Go.Proofs.YtmkmhhjkdaklbaaGreat
namespace Go.Proofs.YtmkmhhjkdaklbaaGreat
open Go Go.Ab
set_option maxRecDepth 100000
def c38:ACode :=
 (sq_ [pr_ 1 (.boxr (.tmp 0)),
 pr_ 2 (.mov (.const (.slice none 0 0)))]
 (.seq (sq_ [pr_ 6 (lt_ 19 1),
 c1_ 7 89 6,
 pr_ 8 (no_ 7)]
 (.cond (.tmp 8)
 (sq_ [pr_ 2 (.mov (.const (.slice none 0 0)))]
 (.ghost (.shut 2) .ret))
 .skip))
 (sq_ [pr_ 9 (fa_ 1 1),
 pr_ 10 (lf_ 1 9),
 c1_ 11 95 10,
 mv_ 3 11]
 (sq_ [pr_ 12 (fa_ 1 1),
 pr_ 13 (lf_ 1 12),
 pr_ 14 (.convi .u8 (.tmp 13)),
 pr_ 15 (.bsl true 1 false 1 [.pl (.int .u8 0)] [(0,1,(.tmp 14))]),
 mv_ 4 15]
 (.seq (sq_ [pr_ 5 (mi_ .i64 0)]
 (.block 0 (.loop [0,2,6,7,8,9,10,11,12,13,14,15,16,17,18,19,20,21,22,23,24,25,26,27,28,29,30,31,32,33,34,35,36,37,38,39,40,41,42,43,44,45,46,47,48,49,50,51,52,53,54,55,56,57,58,59,60,61,62,63,64,65,66,67,68,69,70,71,72,73,74,75,76,77,78,79,80,81,82,83,84,85,86,87,88,89,90,91,92,93,94,95,96,97,98] (.seq (sq_ [mv_ 16 5,
 mv_ 17 3,
 pr_ 18 (.lens (.tmp 17)),
 pr_ 19 (bt_ .lss 16 18)]
 (.cond (.tmp 19)
 .skip
 (.exit 0)))
 (.seq (.block 1 (sq_ [mv_ 22 3,
 mv_ 23 5,
 pr_ 24 (.idxs (.tmp 22) (.tmp 23))]
 (.block 2 (sq_ [pr_ 26 (bk_ .eql 24 .u8 73),
 mv_ 25 26]
 (.cond (.tmp 25)
 (.ops [mv_ 27 4,
 pr_ 28 (fa_ 2 1),
 pr_ 29 (lf_ 1 28),
 pr_ 30 (.convi .u64 (.tmp 29)),
 c1_ 31 75 30,
 pr_ 32 (.app 1 (.tmp 27) (.tmp 31)),
 mv_ 4 32])
 (sq_ [pr_ 34 (bk_ .eql 24 .u8 84),
 mv_ 33 34]
 (.cond (.tmp 33)
 (.ops [mv_ 35 4,
 pr_ 36 (fa_ 3 1),
 pr_ 37 (lf_ 1 36),
 c1_ 38 76 37,
 pr_ 39 (.app 1 (.tmp 35) (.tmp 38)),
 mv_ 4 39])
 (sq_ [pr_ 41 (bk_ .eql 24 .u8 83),
 mv_ 40 41]
 (.cond (.tmp 40)
 (.ops [mv_ 42 4,
 pr_ 43 (fa_ 4 1),
 pr_ 44 (lf_ 1 43),
 c1_ 45 75 44,
 pr_ 46 (.app 1 (.tmp 42) (.tmp 45)),
 mv_ 4 46])
 (sq_ [pr_ 48 (bk_ .eql 24 .u8 69),
 mv_ 47 48]
 (.cond (.tmp 47)
 (.ops [mv_ 49 4,
 pr_ 50 (fa_ 5 1),
 pr_ 51 (lf_ 1 50),
 c1_ 52 75 51,
 pr_ 53 (.app 1 (.tmp 49) (.tmp 52)),
 mv_ 4 53])
 (sq_ [pr_ 55 (bk_ .eql 24 .u8 90),
 mv_ 54 55]
 (.cond (.tmp 54)
 (.ops [mv_ 56 4,
 pr_ 57 (fa_ 6 1),
 pr_ 58 (lf_ 1 57),
 pr_ 59 (.convi .u8 (.tmp 58)),
 pr_ 60 (.bsl false 1 false 1 [.pl (.int .u8 0)] [(0,1,(.tmp 59))]),
 pr_ 61 (.app 1 (.tmp 56) (.tmp 60)),
 mv_ 4 61])
 (sq_ [pr_ 63 (bk_ .eql 24 .u8 77),
 mv_ 62 63]
 (.cond (.tmp 62)
 (.ops [mv_ 64 4,
 pr_ 65 (fa_ 7 1),
 pr_ 66 (lf_ 1 65),
 c1_ 67 73 66,
 pr_ 68 (.app 1 (.tmp 64) (.tmp 67)),
 mv_ 4 68])
 (sq_ [pr_ 70 (bk_ .eql 24 .u8 66),
 mv_ 69 70]
 (.cond (.tmp 69)
 (.ops [mv_ 71 4,
 pr_ 72 (fa_ 8 1),
 pr_ 73 (lt_ 3 72),
 c1_ 74 74 73,
 pr_ 75 (.app 1 (.tmp 71) (.tmp 74)),
 mv_ 4 75])
 (sq_ [pr_ 77 (bk_ .eql 24 .u8 82),
 mv_ 76 77]
 (.cond (.tmp 76)
 (.ops [mv_ 78 4,
 pr_ 79 (fa_ 11 1),
 pr_ 80 (lt_ 6 79),
 c1_ 81 20 80,
 pr_ 82 (.app 1 (.tmp 78) (.tmp 81)),
 mv_ 4 82])
 (sq_ [pr_ 84 (bk_ .eql 24 .u8 76),
 mv_ 83 84]
 (.cond (.tmp 83)
 (.ops [mv_ 85 4,
 pr_ 86 (fa_ 17 1),
 pr_ 87 (lf_ 1 86),
 c1_ 88 96 87,
 pr_ 89 (.app 1 (.tmp 85) (.tmp 88)),
 mv_ 4 89])
 (sq_ [pr_ 91 (bk_ .eql 24 .u8 86),
 mv_ 90 91]
 (.cond (.tmp 90)
 (.ops [mv_ 92 4,
 pr_ 93 (fa_ 18 1),
 pr_ 94 (lf_ 1 93),
 c1_ 95 48 94,
 c1_ 96 97 95,
 pr_ 97 (.app 1 (.tmp 92) (.tmp 96)),
 mv_ 4 97])
 .skip)))))))))))))))))))))))
 (.ops [mv_ 20 5,
 pr_ 21 (bk_ .add 20 .i64 1),
 mv_ 5 21]))))))
 (sq_ [mv_ 98 4,
 mv_ 2 98]
 (.ghost (.shut 2) .ret)))))))
def o38:List Tmp:=[15]
def r38:List RV:=[.tmp 2]
theorem t38:Text Tryz.prog 38 o38 c38 r38 99:=.mk_ Tryz.f38 rfl
def c88:ACode :=
 (sq_ [pr_ 2 mf_]
 (sq_ [mv_ 3 0,
 pr_ 4 (.lens (.tmp 3)),
 pr_ 5 (bk_ .geq 4 .i64 4),
 mv_ 6 5,
 gp_ 7 6 true (mo_ 0),
 gp_ 8 6 true (.lens (.tmp 7)),
 gp_ 9 6 true (bk_ .leq 8 .i64 16),
 pr_ 10 (pa_ 6 9),
 mv_ 2 10]
 .ret))
def o88:List Tmp:=[]
def r88:List RV:=[.tmp 2]
theorem t88:Text Tryz.prog 88 o88 c88 r88 11:=.mk_ Tryz.f88 rfl
def c89:ACode :=
 (sq_ [pr_ 1 (.boxr (.tmp 0)),
 pr_ 2 mf_]
 (sq_ [pr_ 4 (fa_ 1 1),
 pr_ 5 (lf_ 1 4),
 c1_ 6 95 5,
 mv_ 3 6]
 (.seq (sq_ [mv_ 7 3,
 pr_ 8 (.bin false .eql (.tmp 7) (.const (.string (ByteArray.mk #[]))))]
 (.cond (.tmp 8)
 (sq_ [pr_ 2 mf_]
 .ret)
 .skip))
 (.seq (sq_ [mv_ 9 3,
 cl_ 10 127 [(.tmp 9),(.const (.int .u8 73))],
 pr_ 11 (no_ 10),
 mv_ 12 11,
 gp_ 13 12 true (fa_ 2 1),
 gp_ 14 12 true (lf_ 1 13),
 gp_ 15 12 true (bk_ .neq 14 .i64 0),
 pr_ 16 (pa_ 12 15),
 mv_ 17 16,
 gp_ 18 17 false (fa_ 2 1),
 gp_ 19 17 false (lf_ 1 18),
 gp_ 20 17 false (bk_ .lss 19 .i64 0),
 pr_ 21 (po_ 17 20),
 mv_ 22 21,
 gp_ 23 22 false (fa_ 2 1),
 gp_ 24 22 false (lf_ 1 23),
 gp_ 25 22 false (bk_ .gtr 24 .i64 2147483647),
 pr_ 26 (po_ 22 25)]
 (.cond (.tmp 26)
 (sq_ [pr_ 2 mf_]
 .ret)
 .skip))
 (.seq (sq_ [mv_ 27 3,
 cl_ 28 127 [(.tmp 27),(.const (.int .u8 84))],
 mv_ 29 28,
 gp_ 30 29 true (fa_ 3 1),
 gp_ 31 29 true (lf_ 1 30),
 gc_ 32 29 true 88 [(.tmp 31)],
 gp_ 33 29 true (no_ 32),
 pr_ 34 (pa_ 29 33),
 mv_ 35 34,
 gp_ 36 35 false (mo_ 3),
 gc_ 37 35 false 127 [(.tmp 36),(.const (.int .u8 84))],
 gp_ 38 35 false (no_ 37),
 gp_ 39 35 false (mo_ 38),
 gp_ 40 39 true (fa_ 3 1),
 gp_ 41 39 true (lf_ 1 40),
 gp_ 42 39 true (.bin false .neq (.tmp 41) (.const (.string (ByteArray.mk #[])))),
 gp_ 43 35 false (pa_ 39 42),
 pr_ 44 (po_ 35 43)]
 (.cond (.tmp 44)
 (sq_ [pr_ 2 mf_]
 .ret)
 .skip))
 (.seq (sq_ [mv_ 45 3,
 cl_ 46 127 [(.tmp 45),(.const (.int .u8 83))],
 pr_ 47 (no_ 46),
 mv_ 48 47,
 gp_ 49 48 true (fa_ 4 1),
 gp_ 50 48 true (lf_ 1 49),
 gp_ 51 48 true (bk_ .neq 50 .u64 0),
 gp_ 52 48 true (mo_ 51),
 gp_ 53 52 false (fa_ 5 1),
 gp_ 54 52 false (lf_ 1 53),
 gp_ 55 52 false (bk_ .neq 54 .u64 0),
 gp_ 56 48 true (po_ 52 55),
 pr_ 57 (pa_ 48 56),
 mv_ 58 57,
 gp_ 59 58 false (fa_ 4 1),
 gp_ 60 58 false (lf_ 1 59),
 gp_ 61 58 false (bk_ .gtr 60 .u64 1099511627776),
 pr_ 62 (po_ 58 61),
 mv_ 63 62,
 gp_ 64 63 false (fa_ 5 1),
 gp_ 65 63 false (lf_ 1 64),
 gp_ 66 63 false (bk_ .gtr 65 .u64 1099511627776),
 pr_ 67 (po_ 63 66)]
 (.cond (.tmp 67)
 (sq_ [pr_ 2 mf_]
 .ret)
 .skip))
 (.seq (sq_ [mv_ 68 3,
 cl_ 69 127 [(.tmp 68),(.const (.int .u8 90))],
 pr_ 70 (no_ 69),
 mv_ 71 70,
 gp_ 72 71 true (fa_ 6 1),
 gp_ 73 71 true (lf_ 1 72),
 gp_ 74 71 true (bk_ .neq 73 .i64 0),
 pr_ 75 (pa_ 71 74),
 mv_ 76 75,
 gp_ 77 76 false (fa_ 6 1),
 gp_ 78 76 false (lf_ 1 77),
 gp_ 79 76 false (bk_ .lss 78 .i64 0),
 pr_ 80 (po_ 76 79),
 mv_ 81 80,
 gp_ 82 81 false (fa_ 6 1),
 gp_ 83 81 false (lf_ 1 82),
 gp_ 84 81 false (bk_ .gtr 83 .i64 3),
 pr_ 85 (po_ 81 84)]
 (.cond (.tmp 85)
 (sq_ [pr_ 2 mf_]
 .ret)
 .skip))
 (.seq (sq_ [mv_ 86 3,
 cl_ 87 127 [(.tmp 86),(.const (.int .u8 77))],
 pr_ 88 (no_ 87),
 mv_ 89 88,
 gp_ 90 89 true (fa_ 7 1),
 gp_ 91 89 true (lf_ 1 90),
 gp_ 92 89 true (.lenv (.tmp 91)),
 gp_ 93 89 true (bk_ .gtr 92 .i64 0),
 pr_ 94 (pa_ 89 93),
 mv_ 95 94,
 gp_ 96 95 false (mo_ 3),
 gc_ 97 95 false 127 [(.tmp 96),(.const (.int .u8 83))],
 gp_ 98 95 false (mo_ 97),
 gp_ 99 98 true (fa_ 7 1),
 gp_ 100 98 true (lf_ 1 99),
 gp_ 101 98 true (.lenv (.tmp 100)),
 gp_ 102 98 true (bk_ .eql 101 .i64 0),
 gp_ 103 95 false (pa_ 98 102),
 pr_ 104 (po_ 95 103),
 mv_ 105 104,
 gp_ 106 105 false (fa_ 7 1),
 gp_ 107 105 false (lf_ 1 106),
 gc_ 108 105 false 117 [(.tmp 107)],
 gp_ 109 105 false (no_ 108),
 pr_ 110 (po_ 105 109)]
 (.cond (.tmp 110)
 (sq_ [pr_ 2 mf_]
 .ret)
 .skip))
 (.seq (sq_ [mv_ 111 3,
 cl_ 112 127 [(.tmp 111),(.const (.int .u8 66))],
 pr_ 113 (no_ 112),
 mv_ 114 113,
 gp_ 115 114 true (fa_ 8 1),
 gp_ 116 114 true (lt_ 3 115),
 gc_ 117 114 true 128 [(.tmp 116)],
 gp_ 118 114 true (no_ 117),
 pr_ 119 (pa_ 114 118),
 mv_ 120 119,
 gp_ 121 120 false (fa_ 8 1),
 gp_ 122 120 false (lt_ 3 121),
 gc_ 123 120 false 120 [(.tmp 122)],
 gp_ 124 120 false (no_ 123),
 pr_ 125 (po_ 120 124)]
 (.cond (.tmp 125)
 (sq_ [pr_ 2 mf_]
 .ret)
 .skip))
 (.seq (sq_ [mv_ 126 3,
 cl_ 127 127 [(.tmp 126),(.const (.int .u8 82))],
 mv_ 128 127,
 gp_ 129 128 true (fa_ 11 1),
 gp_ 130 128 true (lt_ 6 129),
 gc_ 131 128 true 67 [(.tmp 130)],
 gp_ 132 128 true (no_ 131),
 pr_ 133 (pa_ 128 132),
 mv_ 134 133,
 gp_ 135 134 false (mo_ 3),
 gc_ 136 134 false 127 [(.tmp 135),(.const (.int .u8 82))],
 gp_ 137 134 false (no_ 136),
 gp_ 138 134 false (mo_ 137),
 gp_ 139 138 true (fa_ 11 1),
 gp_ 140 138 true (lt_ 6 139),
 gc_ 141 138 true 129 [(.tmp 140)],
 gp_ 142 138 true (no_ 141),
 gp_ 143 134 false (pa_ 138 142),
 pr_ 144 (po_ 134 143)]
 (.cond (.tmp 144)
 (sq_ [pr_ 2 mf_]
 .ret)
 .skip))
 (.seq (sq_ [mv_ 145 3,
 cl_ 146 127 [(.tmp 145),(.const (.int .u8 76))]]
 (.cond (.tmp 146)
 (sq_ [pr_ 147 (fa_ 17 1),
 pr_ 148 (lf_ 1 147),
 c1_ 149 130 148,
 mv_ 2 149]
 .ret)
 .skip))
 (sq_ [pr_ 150 (fa_ 17 1),
 pr_ 151 (lf_ 1 150),
 pr_ 152 (.lenv (.tmp 151)),
 pr_ 153 (bk_ .eql 152 .i64 0),
 mv_ 154 153,
 gp_ 155 154 true (fa_ 18 1),
 gp_ 156 154 true (lf_ 1 155),
 gc_ 157 154 true 48 [(.tmp 156)],
 gp_ 158 154 true (bk_ .eql 157 .u64 0),
 pr_ 159 (pa_ 154 158),
 mv_ 2 159]
 .ret))))))))))))
def o89:List Tmp:=[]
def r89:List RV:=[.tmp 2]
theorem t89:Text Tryz.prog 89 o89 c89 r89 160:=.mk_ Tryz.f89 rfl
def c95:ACode :=
 (sq_ [pr_ 2 (.mov (.const (.string (ByteArray.mk #[]))))]
 (.seq (sq_ [mv_ 3 0]
 (.block 0 (.seq (sq_ [pr_ 5 (bk_ .eql 3 .i64 1),
 mv_ 4 5]
 (.cond (.tmp 4)
 .skip
 (sq_ [pr_ 6 (bk_ .eql 3 .i64 14),
 mv_ 4 6]
 (.cond (.tmp 4)
 .skip
 (sq_ [pr_ 7 (bk_ .eql 3 .i64 16),
 mv_ 4 7]
 (.cond (.tmp 4)
 .skip
 (.ops [pr_ 8 (bk_ .eql 3 .i64 17),
 mv_ 4 8])))))))
 (.cond (.tmp 4)
 (sq_ [pr_ 2 (.mov (.const (.string (ByteArray.mk #[45]))))]
 .ret)
 (.seq (sq_ [pr_ 10 (bk_ .eql 3 .i64 2),
 mv_ 9 10]
 (.cond (.tmp 9)
 .skip
 (sq_ [pr_ 11 (bk_ .eql 3 .i64 7),
 mv_ 9 11]
 (.cond (.tmp 9)
 .skip
 (sq_ [pr_ 12 (bk_ .eql 3 .i64 10),
 mv_ 9 12]
 (.cond (.tmp 9)
 .skip
 (sq_ [pr_ 13 (bk_ .eql 3 .i64 12),
 mv_ 9 13]
 (.cond (.tmp 9)
 .skip
 (.ops [pr_ 14 (bk_ .eql 3 .i64 15),
 mv_ 9 14])))))))))
 (.cond (.tmp 9)
 (sq_ [pr_ 2 (.mov (.const (.string (ByteArray.mk #[73]))))]
 .ret)
 (.seq (sq_ [pr_ 16 (bk_ .eql 3 .i64 3),
 mv_ 15 16]
 (.cond (.tmp 15)
 .skip
 (.ops [pr_ 17 (bk_ .eql 3 .i64 4),
 mv_ 15 17])))
 (.cond (.tmp 15)
 (sq_ [pr_ 2 (.mov (.const (.string (ByteArray.mk #[73,84]))))]
 .ret)
 (sq_ [pr_ 19 (bk_ .eql 3 .i64 5),
 mv_ 18 19]
 (.cond (.tmp 18)
 (sq_ [pr_ 2 (.mov (.const (.string (ByteArray.mk #[83,69,77,66]))))]
 .ret)
 (sq_ [pr_ 21 (bk_ .eql 3 .i64 6),
 mv_ 20 21]
 (.cond (.tmp 20)
 (sq_ [pr_ 2 (.mov (.const (.string (ByteArray.mk #[73,83,69,77,66]))))]
 .ret)
 (sq_ [pr_ 23 (bk_ .eql 3 .i64 8),
 mv_ 22 23]
 (.cond (.tmp 22)
 (sq_ [pr_ 2 (.mov (.const (.string (ByteArray.mk #[90]))))]
 .ret)
 (sq_ [pr_ 25 (bk_ .eql 3 .i64 9),
 mv_ 24 25]
 (.cond (.tmp 24)
 (sq_ [pr_ 2 (.mov (.const (.string (ByteArray.mk #[82]))))]
 .ret)
 (sq_ [pr_ 27 (bk_ .eql 3 .i64 11),
 mv_ 26 27]
 (.cond (.tmp 26)
 (sq_ [pr_ 2 (.mov (.const (.string (ByteArray.mk #[76,86]))))]
 .ret)
 (sq_ [pr_ 29 (bk_ .eql 3 .i64 13),
 mv_ 28 29]
 (.cond (.tmp 28)
 (sq_ [pr_ 2 (.mov (.const (.string (ByteArray.mk #[77]))))]
 .ret)
 .skip))))))))))))))))))))
 (sq_ [pr_ 2 (.mov (.const (.string (ByteArray.mk #[]))))]
 .ret)))
def o95:List Tmp:=[]
def r95:List RV:=[.tmp 2]
theorem t95:Text Tryz.prog 95 o95 c95 r95 30:=.mk_ Tryz.f95 rfl
def c96:ACode :=
 (sq_ [pr_ 2 (.mov (.const (.slice none 0 0)))]
 (.seq (sq_ [mv_ 5 0,
 c1_ 6 130 5,
 pr_ 7 (no_ 6)]
 (.cond (.tmp 7)
 (sq_ [pr_ 2 (.mov (.const (.slice none 0 0)))]
 (.ghost (.shut 2) .ret))
 .skip))
 (sq_ [mv_ 8 0,
 pr_ 9 (.lenv (.tmp 8)),
 pr_ 10 (.convi .u64 (.tmp 9)),
 c1_ 11 75 10,
 mv_ 3 11]
 (.seq (sq_ [pr_ 4 (mi_ .i64 0)]
 (.block 0 (.loop [1,2,5,6,7,8,9,10,11,12,13,14,15,16,17,18,19,20,21,22,23,24,25,26,27,28,29,30,31,32,33] (.seq (sq_ [mv_ 12 4,
 mv_ 13 0,
 pr_ 14 (.lenv (.tmp 13)),
 pr_ 15 (bt_ .lss 12 14)]
 (.cond (.tmp 15)
 .skip
 (.exit 0)))
 (.seq (.block 1 (.draw [⟨mv_ 18 3,[],false,0,1⟩,
 ⟨mv_ 19 0,[],false,0,0⟩,
 ⟨mv_ 20 4,[],false,0,0⟩,
 ⟨pr_ 21 (.iadrs 2 (.tmp 19) (.tmp 20)),[1,2],false,0,0⟩,
 ⟨pr_ 22 (fa_ 0 21),[1,2,3],false,0,0⟩,
 ⟨pr_ 23 (lf_ 1 22),[1,2,3,4],false,0,0⟩,
 ⟨c1_ 24 76 23,[1,2,3,4,5],true,0,0⟩,
 ⟨pr_ 25 (.app 1 (.tmp 18) (.tmp 24)),(List.range 7),true,0,0⟩,
 ⟨mv_ 26 0,[],false,0,2⟩,
 ⟨mv_ 27 4,[],false,0,2⟩,
 ⟨pr_ 28 (.iadrs 2 (.tmp 26) (.tmp 27)),[8,9],false,0,2⟩,
 ⟨pr_ 29 (fa_ 1 28),[8,9,10],false,0,2⟩,
 ⟨pr_ 30 (lf_ 1 29),[8,9,10,11],false,0,2⟩,
 ⟨c1_ 31 76 30,(List.range 13),true,0,0⟩,
 ⟨pr_ 32 (.app 1 (.tmp 25) (.tmp 31)),(List.range 14),true,0,0⟩,
 ⟨mv_ 3 32,(List.range 15),false,4,4⟩]))
 (.ops [mv_ 16 4,
 pr_ 17 (bk_ .add 16 .i64 1),
 mv_ 4 17]))))))
 (sq_ [mv_ 33 3,
 mv_ 2 33]
 (.ghost (.shut 2) .ret))))))
def o96:List Tmp:=[]
def r96:List RV:=[.tmp 2]
theorem t96:Text Tryz.prog 96 o96 c96 r96 34:=.mk_ Tryz.f96 rfl
def c127:ACode :=
 (sq_ [pr_ 4 mf_]
 (.seq (sq_ [pr_ 5 (mi_ .i64 0)]
 (.block 0 (.loop [2,3,4,6,7,8,9,10,11,12,13,14,15,16] (.seq (sq_ [mv_ 6 5,
 mv_ 7 0,
 pr_ 8 (.lens (.tmp 7)),
 pr_ 9 (bt_ .lss 6 8)]
 (.cond (.tmp 9)
 .skip
 (.exit 0)))
 (.seq (.block 1 (sq_ [mv_ 12 0,
 mv_ 13 5,
 pr_ 14 (.idxs (.tmp 12) (.tmp 13)),
 mv_ 15 1,
 pr_ 16 (bt_ .eql 14 15)]
 (.cond (.tmp 16)
 (sq_ [pr_ 4 mt_]
 .ret)
 .skip)))
 (.ops [mv_ 10 5,
 pr_ 11 (bk_ .add 10 .i64 1),
 mv_ 5 11]))))))
 (sq_ [pr_ 4 mf_]
 .ret)))
def o127:List Tmp:=[]
def r127:List RV:=[.tmp 4]
theorem t127:Text Tryz.prog 127 o127 c127 r127 17:=.mk_ Tryz.f127 rfl
def c128:ACode :=
 (sq_ [pr_ 1 (.boxr (.tmp 0)),
 pr_ 2 mf_]
 (sq_ [pr_ 3 (fa_ 0 1),
 pr_ 4 (lf_ 1 3),
 pr_ 5 (no_ 4),
 mv_ 6 5,
 gp_ 7 6 true (fa_ 1 1),
 gp_ 8 6 true (lf_ 1 7),
 gc_ 9 6 true 48 [(.tmp 8)],
 gp_ 10 6 true (bk_ .eql 9 .u64 0),
 pr_ 11 (pa_ 6 10),
 mv_ 12 11,
 gp_ 13 12 true (fa_ 2 1),
 gp_ 14 12 true (lf_ 1 13),
 gc_ 15 12 true 48 [(.tmp 14)],
 gp_ 16 12 true (bk_ .eql 15 .u64 0),
 pr_ 17 (pa_ 12 16),
 mv_ 2 17]
 .ret))
def o128:List Tmp:=[]
def r128:List RV:=[.tmp 2]
theorem t128:Text Tryz.prog 128 o128 c128 r128 18:=.mk_ Tryz.f128 rfl
def c129:ACode :=
 (sq_ [pr_ 1 (.boxr (.tmp 0)),
 pr_ 2 mf_]
 (sq_ [pr_ 3 (fa_ 0 1),
 pr_ 4 (lf_ 1 3),
 pr_ 5 (.lenv (.tmp 4)),
 pr_ 6 (bk_ .eql 5 .i64 0),
 mv_ 7 6,
 gp_ 8 7 true (fa_ 1 1),
 gp_ 9 7 true (lf_ 1 8),
 gp_ 10 7 true (.lenv (.tmp 9)),
 gp_ 11 7 true (bk_ .eql 10 .i64 0),
 pr_ 12 (pa_ 7 11),
 mv_ 13 12,
 gp_ 14 13 true (fa_ 2 1),
 gp_ 15 13 true (lt_ 3 14),
 gc_ 16 13 true 128 [(.tmp 15)],
 pr_ 17 (pa_ 13 16),
 mv_ 18 17,
 gp_ 19 18 true (fa_ 5 1),
 gp_ 20 18 true (lf_ 1 19),
 gp_ 21 18 true (.lenv (.tmp 20)),
 gp_ 22 18 true (bk_ .eql 21 .i64 0),
 pr_ 23 (pa_ 18 22),
 mv_ 2 23]
 .ret))
def o129:List Tmp:=[]
def r129:List RV:=[.tmp 2]
theorem t129:Text Tryz.prog 129 o129 c129 r129 24:=.mk_ Tryz.f129 rfl
end Go.Proofs.YtmkmhhjkdaklbaaGreat
namespace Go.Proofs.YtmkmhhjkdaklbaaGreat
open Go Go.Ab Go.Cod
set_option maxRecDepth 100000
def dTab:List ByteArray:=[⟨#[45]⟩,⟨#[73]⟩,⟨#[73,84]⟩,⟨#[73,84]⟩,⟨#[83,69,77,66]⟩,⟨#[73,83,69,77,66]⟩,⟨#[73]⟩,⟨#[90]⟩,⟨#[82]⟩,⟨#[73]⟩,⟨#[76,86]⟩,⟨#[73]⟩,⟨#[77]⟩,⟨#[45]⟩,⟨#[73]⟩,⟨#[45]⟩,⟨#[45]⟩]
def dOf (op:Int):ByteArray:=if 1≤op∧op≤17 then dTab.getD (op.toNat-1) ⟨#[]⟩ else⟨#[]⟩
theorem zf8 {op:Int} (h:op<1∨17<op):dOf op=⟨#[]⟩:=by unfold dOf;rw[if_neg (by omega)]
def hasC (s:ByteArray) (c:Nat):Bool:=!((List.range s.size).all fun i=>!((byteAt s i:Int)==(c:Int)))
section
variable (σ:St)
theorem z0R (op:Int):Ans Tryz.prog 95 [I op] σ (Sx (dOf op)) σ:=by
 refine Ans.of_run t95 ?_;rcases ops17 op with rfl|rfl|rfl|rfl|rfl|rfl|rfl|rfl|rfl|rfl|rfl|rfl|rfl|rfl|rfl|rfl|rfl|h
 all_goals first
  |(rw[zf8 h]
    simp -implicitDefEqProofs only[c95,r95,go_sem,neI (op:=op) (k:=1) (by omega),neI (op:=op) (k:=2) (by omega),neI (op:=op) (k:=3) (by omega),neI (op:=op) (k:=4) (by omega),neI (op:=op) (k:=5) (by omega),neI (op:=op) (k:=6) (by omega),neI (op:=op) (k:=7) (by omega),neI (op:=op) (k:=8) (by omega),neI (op:=op) (k:=9) (by omega),neI (op:=op) (k:=10) (by omega),neI (op:=op) (k:=11) (by omega),neI (op:=op) (k:=12) (by omega),neI (op:=op) (k:=13) (by omega),neI (op:=op) (k:=14) (by omega),neI (op:=op) (k:=15) (by omega),neI (op:=op) (k:=16) (by omega),neI (op:=op) (k:=17) (by omega)]
    exact Fini.ret rfl)
  |(simp -implicitDefEqProofs only[c95,r95,go_sem]
    exact Fini.ret rfl)
theorem z2h (s:ByteArray):Ans Tryz.prog 88 [Sx s] σ (Bo (tokB s)) σ:=by
 have d1:decide ((4:Int)≤(s.size:Nat))=decide (4≤s.size):=intle 4 s.size;have d2:decide (((s.size:Nat):Int)≤16)=decide (s.size≤16):=intle s.size 16;refine Ans.of_run t88 ?_;unfold tokB
 cases h:decide (4≤s.size) with
 |false =>
  simp -implicitDefEqProofs only[c88,r88,go_sem,d1,h];exact Fini.ret rfl
 |true =>
  simp -implicitDefEqProofs only[c88,r88,go_sem,d1,d2,h];exact Fini.ret rfl
theorem z1f (x:Bnd):Ans Tryz.prog 128 [bandV x] σ (Bo (noBd x)) σ:=by
 obtain⟨a,lo,hi⟩:=x;refine Ans.of_run t128 ?_;unfold bandV noBd;simp only
 cases a with
 |true =>
  simp -implicitDefEqProofs only[c128,r128,go_sem];exact Fini.ret rfl
 |false =>
  simp -implicitDefEqProofs only[c128,r128,go_sem];refine CO.intro (z0K σ lo) ?_;unfold zF
  cases h:(((bitsF lo:Nat):Int)==0) with
  |false =>
   simp -implicitDefEqProofs only[go_sem,h];exact Fini.ret rfl
  |true =>
   simp -implicitDefEqProofs only[go_sem,h];refine CO.intro (z0K σ hi) ?_;simp -implicitDefEqProofs only[go_sem];exact Fini.ret rfl
theorem z1q (r:RuM):Ans Tryz.prog 129 [ruV r] σ (Bo (noRl r)) σ:=by
 have hb:=z1f σ (r.any,r.lo,r.hi)
 have e:noRl r=(emI r.src.length&&(emI r.tgt.length&&(noBd (r.any,r.lo,r.hi)&&emI r.eq.length))):=by
  unfold noRl;cases emI r.src.length<;>cases emI r.tgt.length<;>cases emI r.eq.length<;>cases noBd (r.any,r.lo,r.hi)<;>rfl
 rw[e];refine Ans.of_run t129 ?_;unfold ruV emI;unfold bandV at hb
 cases h1:(((r.src.length:Nat):Int)==0) with
 |false =>
  simp -implicitDefEqProofs only[c129,r129,go_sem,z0r,h1];exact Fini.ret rfl
 |true =>
 cases h2:(((r.tgt.length:Nat):Int)==0) with
 |false =>
  simp -implicitDefEqProofs only[c129,r129,go_sem,z0r,h1,h2];exact Fini.ret rfl
 |true =>
  simp -implicitDefEqProofs only[c129,r129,go_sem,z0r,z0F,h1,h2];refine CO.intro hb ?_
  cases noBd (r.any,r.lo,r.hi) with
  |false =>
   simp -implicitDefEqProofs only[go_sem];exact Fini.ret rfl
  |true =>
   simp -implicitDefEqProofs only[go_sem,z0F];exact Fini.ret rfl
theorem z2i (s:ByteArray) (c:Nat) (hs:s.size≤100000):Ans Tryz.prog 127 [Sx s,.pl (.int .u8 c)] σ (Bo (hasC s c)) σ:=by
 refine Ans.of_run t127 ?_;simp -implicitDefEqProofs only[c127,r127,go_sem];unfold hasC;refine Go.Ab.L.scan s.size (fun i=>!((byteAt s i:Int)==(c:Int))) (fun i=>mkE 17 [(0,Sx s),(1,.pl (.int .u8 c)),(5,I i)]) (fun _=>σ) ?_ ?_ rfl rfl
 · intro i hi hp J hJ;have hlt:((i:Int)<s.size)=True:=by simp;omega
   have hin:=wrap_succ (i:=i) (by omega)
   have hF:(!((byteAt s i:Int)==(c:Int)))=false→((List.range s.size).all fun i=>!((byteAt s i:Int)==(c:Int)))=false:=fun h=>List.all_eq_false.2 ⟨i,List.mem_range.2 hi,by rw[h];decide⟩
   cases h:((byteAt s i:Int)==(c:Int)) with
   |true =>
    rw[hF (by rw[h];rfl)]
    simp -implicitDefEqProofs only[mkE,go_sem,hlt,dec_lt hi,z06,h];exact Fini.ret rfl
   |false =>
    rw[h]at hJ;have hgo:=hJ rfl;simp -implicitDefEqProofs only[mkE,go_sem,hlt,dec_lt hi,z06,h,hin];exact hgo
 · intro hp J;have hd:decide ((s.size:Int)<s.size)=false:=by simp
   simp -implicitDefEqProofs only[mkE,go_sem,hd];refine Fini.ret' rfl (z0Y ?_);rw[List.all_eq_true.2 fun i hi=>hp i (List.mem_range.1 hi)];rfl
end
section
variable (σ:St)
theorem zey (v:ByteArray):Ans Tryz.prog 156 [Sx v] σ (Bo (valB v)) σ:=by
 have d1:decide ((1:Int)≤(v.size:Nat))=decide (1≤v.size):=intle 1 v.size;have d2:decide (((v.size:Nat):Int)≤24)=decide (v.size≤24):=intle v.size 24;refine Ans.of_run t156 ?_;unfold valB
 cases h:decide (1≤v.size) with
 |false =>
  simp -implicitDefEqProofs only[c156,r156,go_sem,d1,h];exact Fini.ret rfl
 |true =>
  simp -implicitDefEqProofs only[c156,r156,go_sem,d1,d2,h];exact Fini.ret rfl
theorem z21 (L:List Lab) (hs:∀x∈L,x.1.size≤100000):Ans Tryz.prog 130 [.sl 2 (lvs L)] σ (Bo (setB L)) σ:=by
 have e1:decide ((L.length:Int)<1)= !decide (1≤L.length):=by
  by_cases h:1≤L.length
  · rw[decide_eq_true h,decide_eq_false (by omega)];rfl
  · rw[decide_eq_false h,decide_eq_true (by omega)];rfl
 have e2:decide ((6:Int)<L.length)= !decide (L.length≤6):=by
  by_cases h:L.length≤6
  · rw[decide_eq_true h,decide_eq_false (by omega)];rfl
  · rw[decide_eq_false h,decide_eq_true (by omega)];rfl
 refine Ans.of_run t130 ?_;unfold setB
 cases h1:decide (1≤L.length) with
 |false =>
  simp -implicitDefEqProofs only[c130,r130,go_sem,z0i,e1,h1];exact Fini.ret rfl
 |true =>
 cases h2:decide (L.length≤6) with
 |false =>
  simp -implicitDefEqProofs only[c130,r130,go_sem,z0i,e1,e2,h1,h2];exact Fini.ret rfl
 |true =>
 have hl6:L.length≤6:=of_decide_eq_true h2;simp -implicitDefEqProofs only[c130,r130,go_sem,z0i,e1,e2,h1,h2];refine Go.Ab.L.scan L.length (labOk L) (fun i=>mkE 52 [(0,.sl 2 (lvs L)),(3,I i)]) (fun _=>σ) ?_ ?_ rfl rfl
 · intro i hi hp J hJ;have hx:=lvs_D L i hi;have hF:labOk L i=false→(List.range L.length).all (labOk L)=false:=fun h=>List.all_eq_false.2 ⟨i,List.mem_range.2 hi,by rw[h];decide⟩
   have hin:=wrap_succ (i:=i) (by omega)
   have d0:decide ((0:Int)<i)=decide (0<i):=by rw[Bool.eq_iff_iff];simp
   have hO:labOk L i=(nameB (L.getD i noLb).1&&(valB (L.getD i noLb).2&& !(decide (0<i)&&leS (L.getD i noLb).1 (L.getD (i-1) noLb).1))):=rfl
   have hsz:(L.getD i noLb).1.size≤100000:=by
    rw[List.getD_eq_getElem?_getD,List.getElem?_eq_getElem hi];exact hs _ (List.getElem_mem hi)
   rw[hO]at hJ hF;generalize L.getD i noLb=x at hJ hF hx hsz;obtain⟨nm,v⟩:=x;simp only at hJ hF hx hsz;have n1:=fun s=>z5G s nm hsz
   have n2:=fun s=>zey s v
   simp -implicitDefEqProofs only[mkE,go_sem,z00,z0i,z0c hi,dec_lt hi,hx]
   first|refine CD.intro (n1 _) ?_|refine CS.intro n1 ?_
   cases hb1:nameB nm with
   |false =>
    rw[hb1]at hF;rw[hF rfl];simp -implicitDefEqProofs only[go_sem,z00];exact Fini.ret rfl
   |true =>
    rw[hb1]at hF hJ;simp -implicitDefEqProofs only[go_sem,z00,z0i,z0c hi,hx]
    first|refine CD.intro (n2 _) ?_|refine CS.intro n2 ?_
    cases hb2:valB v with
    |false =>
     rw[hb2]at hF;rw[hF rfl];simp -implicitDefEqProofs only[go_sem,z00];exact Fini.ret rfl
    |true =>
     rw[hb2]at hF hJ;by_cases hz:i=0
     · subst hz;have hgo:=hJ rfl;simp -implicitDefEqProofs only[go_sem,z00,d0,hin];exact hgo
     · have hpos:decide (0<i)=true:=decide_eq_true (by omega)
       have hx1:=lvs_D L (i-1) (by omega)
       have w1:IntKind.i64.wrap ((i:Int)-1)=((i-1:Nat):Int):=by rw[wrapN (by omega) (by omega)];omega
       have hlt1:(((i-1:Nat):Int)<L.length)=True:=by simp;omega
       rw[hpos]at hJ hF;generalize L.getD (i-1) noLb=x1 at hJ hF hx1;obtain⟨nm1,v1⟩:=x1;simp only at hJ hF hx1;have hle:(Op.bytesLess nm.toList nm1.toList||nm.toList==nm1.toList)=leS nm nm1:=rfl;simp -implicitDefEqProofs only[go_sem,z00,d0,hpos,w1,z0i,z0c hi,hx,hlt1,hx1,hle]
       cases h7:leS nm nm1 with
       |true =>
        rw[h7]at hF;rw[hF rfl];simp -implicitDefEqProofs only[go_sem];exact Fini.ret rfl
       |false =>
        rw[h7]at hJ;have hgo:=hJ rfl;simp -implicitDefEqProofs only[go_sem,hin];exact hgo
 · intro hp J;have hd:decide ((L.length:Int)<L.length)=false:=by simp
   simp -implicitDefEqProofs only[mkE,go_sem,z0i,hd];refine Fini.ret' rfl (z0Y ?_);exact(List.all_eq_true.2 fun i hi=>hp i (List.mem_range.1 hi)).symm
end
structure ReSm (r:ReM):Prop where
 mt:∀x∈r.mt,x.2.1.size≤100000
 ru:RSm r.ru
 ls:∀x∈r.ls,x.1.size≤100000
def docB (r:ReM) (s:ByteArray):Bool :=
 (hasC s 73||r.id==0)&&(decide (0≤r.id)&&(decide (r.id≤2147483647)&&((!hasC s 84||tokB r.txt)&&((hasC s 84||emS r.txt)&&((hasC s 83||emU r.st)&&((hasC s 83||emU r.en)&&(clkB r.st&&(clkB r.en&&((hasC s 90||r.sta==0)&&(decide (0≤r.sta)&&(decide (r.sta≤3)&&((hasC s 77||emI r.mt.length)&&((!hasC s 83|| !emI r.mt.length)&&(listB r.mt&&((hasC s 66||noBd (r.any,r.lo,r.hi))&&(mayB r.any r.lo r.hi&&((!hasC s 82||ruIs r.ru)&&((hasC s 82||noRl r.ru)&&(if hasC s 76 then setB r.ls else emI r.ls.length&&zF r.val)))))))))))))))))))
theorem ne_of {x:Int} {v:Bool} (h:(x==0)=v):(x != 0)= !v:=by rw[bne,h]
theorem lt_of {x:Int} {v:Bool} (h:decide (0≤x)=v):decide (x<0)= !v:=by
 rw[←h,Bool.eq_iff_iff];simp
theorem gt_of {x c:Int} {v:Bool} (h:decide (x≤c)=v):decide (c<x)= !v:=by
 rw[←h,Bool.eq_iff_iff];simp
abbrev S0:ByteArray:=⟨#[45]⟩
theorem hc_0:hasC S0 73=false∧hasC S0 84=false∧hasC S0 83=false∧hasC S0 90=false∧hasC S0 77=false∧hasC S0 66=false∧hasC S0 82=false∧hasC S0 76=false:=by decide +kernel
theorem hn_0:(S0.toList==(⟨#[]⟩:ByteArray).toList)=false:=by decide +kernel
abbrev S1:ByteArray:=⟨#[73]⟩
theorem hc_1:hasC S1 73=true∧hasC S1 84=false∧hasC S1 83=false∧hasC S1 90=false∧hasC S1 77=false∧hasC S1 66=false∧hasC S1 82=false∧hasC S1 76=false:=by decide +kernel
theorem hn_1:(S1.toList==(⟨#[]⟩:ByteArray).toList)=false:=by decide +kernel
abbrev S3:ByteArray:=⟨#[73,84]⟩
theorem hc_3:hasC S3 73=true∧hasC S3 84=true∧hasC S3 83=false∧hasC S3 90=false∧hasC S3 77=false∧hasC S3 66=false∧hasC S3 82=false∧hasC S3 76=false:=by decide +kernel
theorem hn_3:(S3.toList==(⟨#[]⟩:ByteArray).toList)=false:=by decide +kernel
abbrev S116:ByteArray:=⟨#[83,69,77,66]⟩
theorem zcZ:hasC S116 73=false∧hasC S116 84=false∧hasC S116 83=true∧hasC S116 90=false∧hasC S116 77=true∧hasC S116 66=true∧hasC S116 82=false∧hasC S116 76=false:=by decide +kernel
theorem zh8:(S116.toList==(⟨#[]⟩:ByteArray).toList)=false:=by decide +kernel
abbrev S117:ByteArray:=⟨#[73,83,69,77,66]⟩
theorem zd0:hasC S117 73=true∧hasC S117 84=false∧hasC S117 83=true∧hasC S117 90=false∧hasC S117 77=true∧hasC S117 66=true∧hasC S117 82=false∧hasC S117 76=false:=by decide +kernel
theorem zh9:(S117.toList==(⟨#[]⟩:ByteArray).toList)=false:=by decide +kernel
abbrev S8:ByteArray:=⟨#[90]⟩
theorem hc_8:hasC S8 73=false∧hasC S8 84=false∧hasC S8 83=false∧hasC S8 90=true∧hasC S8 77=false∧hasC S8 66=false∧hasC S8 82=false∧hasC S8 76=false:=by decide +kernel
theorem hn_8:(S8.toList==(⟨#[]⟩:ByteArray).toList)=false:=by decide +kernel
abbrev S128:ByteArray:=⟨#[82]⟩
theorem zd1:hasC S128 73=false∧hasC S128 84=false∧hasC S128 83=false∧hasC S128 90=false∧hasC S128 77=false∧hasC S128 66=false∧hasC S128 82=true∧hasC S128 76=false:=by decide +kernel
theorem zha:(S128.toList==(⟨#[]⟩:ByteArray).toList)=false:=by decide +kernel
abbrev S768:ByteArray:=⟨#[76,86]⟩
theorem zd2:hasC S768 73=false∧hasC S768 84=false∧hasC S768 83=false∧hasC S768 90=false∧hasC S768 77=false∧hasC S768 66=false∧hasC S768 82=false∧hasC S768 76=true:=by decide +kernel
theorem zhb:(S768.toList==(⟨#[]⟩:ByteArray).toList)=false:=by decide +kernel
abbrev S16:ByteArray:=⟨#[77]⟩
theorem hc_16:hasC S16 73=false∧hasC S16 84=false∧hasC S16 83=false∧hasC S16 90=false∧hasC S16 77=true∧hasC S16 66=false∧hasC S16 82=false∧hasC S16 76=false:=by decide +kernel
theorem hn_16:(S16.toList==(⟨#[]⟩:ByteArray).toList)=false:=by decide +kernel
attribute [go_sem] Bool.not_false Bool.not_true hn_0 hn_1 hn_3 zh8 zh9 hn_8 zha zhb hn_16
section
variable (σ:St)
set_option maxHeartbeats 8000000 in
theorem z4Z (r:ReM) (hr:ReSm r) (hd:dOf r.op=S0):Ans Tryz.prog 89 [reV r] σ (Bo (docB r S0)) σ:=by
 obtain⟨tok,op,id,txt,st,en,sta,mt,any,lo,hi,⟨src,tgt,ra,rl,rh,eq⟩,ls,val⟩:=r;obtain⟨hm,hru,hls⟩:=hr;simp only at hm hru hls hd;have k1:=z0R σ op;rw[hd]at k1;have ii:=fun c h=>z2i σ S0 c h
 have i73:=ii 73 (by decide)
 have i84:=ii 84 (by decide)
 have i83:=ii 83 (by decide)
 have i90:=ii 90 (by decide)
 have i77:=ii 77 (by decide)
 have i66:=ii 66 (by decide)
 have i82:=ii 82 (by decide)
 have i76:=ii 76 (by decide)
 simp only[hc_0]at i73 i84 i83 i90 i77 i66 i82 i76;have b0:=z2h σ txt;have b1:=z1a σ mt hm;have b2:=z1f σ (any,lo,hi);have b3:=z20 σ any lo hi;have b4:=z1C σ ⟨src,tgt,ra,rl,rh,eq⟩ hru;have b5:=z1q σ ⟨src,tgt,ra,rl,rh,eq⟩;have b6:=z21 σ ls hls;have b7:=z0K σ val;unfold bandV at b2;unfold ruV at b4 b5;unfold docB;simp only[hc_0,Bool.true_or,Bool.false_or,Bool.not_true,Bool.not_false,Bool.true_and,if_true,Bool.false_eq_true,if_false];refine Ans.of_run t89 ?_;unfold reV reC;simp -implicitDefEqProofs only[c89,r89,go_sem];refine CO.intro k1 ?_;simp -implicitDefEqProofs only[go_sem];refine CO.intro i73 ?_
 cases h0:(id==0) with
 |false =>
  have fh00:=ne_of h0;simp -implicitDefEqProofs only[go_sem,h0,fh00];exact Fini.ret rfl
 |true =>
 have fh00:=ne_of h0
 cases h1:(decide (0≤id)) with
 |false =>
  have fh10:=lt_of h1;simp -implicitDefEqProofs only[go_sem,h0,fh00,h1,fh10];exact Fini.ret rfl
 |true =>
 have fh10:=lt_of h1
 cases h2:(decide (id≤2147483647)) with
 |false =>
  have fh20:=gt_of h2;simp -implicitDefEqProofs only[go_sem,h0,fh00,h1,fh10,h2,fh20];exact Fini.ret rfl
 |true =>
 have fh20:=gt_of h2;simp -implicitDefEqProofs only[go_sem,h0,fh00,h1,fh10,h2,fh20];refine CO.intro i84 ?_;simp -implicitDefEqProofs only[go_sem];refine CO.intro i84 ?_;unfold emS
 cases h3:(txt.toList==(⟨#[]⟩:ByteArray).toList) with
 |false =>
  simp -implicitDefEqProofs only[go_sem,h3];exact Fini.ret rfl
 |true =>
 simp -implicitDefEqProofs only[go_sem,h3];refine CO.intro i83 ?_;unfold emU
 cases h4:(((st:Nat):Int)==0) with
 |false =>
  have fh40:=ne_of h4;simp -implicitDefEqProofs only[go_sem,h4,fh40];exact Fini.ret rfl
 |true =>
 have fh40:=ne_of h4
 cases h5:(((en:Nat):Int)==0) with
 |false =>
  have fh50:=ne_of h5;simp -implicitDefEqProofs only[go_sem,h4,fh40,h5,fh50];exact Fini.ret rfl
 |true =>
 have fh50:=ne_of h5;unfold clkB
 cases h6:(decide (((st:Nat):Int)≤1099511627776)) with
 |false =>
  have fh60:=gt_of h6;simp -implicitDefEqProofs only[go_sem,h4,fh40,h5,fh50,h6,fh60];exact Fini.ret rfl
 |true =>
 have fh60:=gt_of h6
 cases h7:(decide (((en:Nat):Int)≤1099511627776)) with
 |false =>
  have fh70:=gt_of h7;simp -implicitDefEqProofs only[go_sem,h4,fh40,h5,fh50,h6,fh60,h7,fh70];exact Fini.ret rfl
 |true =>
 have fh70:=gt_of h7;simp -implicitDefEqProofs only[go_sem,h4,fh40,h5,fh50,h6,fh60,h7,fh70];refine CO.intro i90 ?_
 cases h8:(sta==0) with
 |false =>
  have fh80:=ne_of h8;simp -implicitDefEqProofs only[go_sem,h8,fh80];exact Fini.ret rfl
 |true =>
 have fh80:=ne_of h8
 cases h9:(decide (0≤sta)) with
 |false =>
  have fh90:=lt_of h9;simp -implicitDefEqProofs only[go_sem,h8,fh80,h9,fh90];exact Fini.ret rfl
 |true =>
 have fh90:=lt_of h9
 cases h10:(decide (sta≤3)) with
 |false =>
  have fh100:=gt_of h10;simp -implicitDefEqProofs only[go_sem,h8,fh80,h9,fh90,h10,fh100];exact Fini.ret rfl
 |true =>
 have fh100:=gt_of h10;simp -implicitDefEqProofs only[go_sem,h8,fh80,h9,fh90,h10,fh100];refine CO.intro i77 ?_;have hl:=z4K mt.length
 cases hm0:(emI mt.length) with
 |false =>
  rw[hm0]at hl;simp -implicitDefEqProofs only[go_sem,hl];exact Fini.ret rfl
 |true =>
 rw[hm0]at hl;simp -implicitDefEqProofs only[go_sem,hl];refine CO.intro i83 ?_;simp -implicitDefEqProofs only[go_sem];refine CO.intro b1 ?_
 cases h11:(listB mt) with
 |false =>
  simp -implicitDefEqProofs only[go_sem];exact Fini.ret rfl
 |true =>
 simp -implicitDefEqProofs only[go_sem];refine CO.intro i66 ?_;simp -implicitDefEqProofs only[go_sem];refine CO.intro b2 ?_
 cases h12:(noBd (any,lo,hi)) with
 |false =>
  simp -implicitDefEqProofs only[go_sem];exact Fini.ret rfl
 |true =>
 simp -implicitDefEqProofs only[go_sem];refine CO.intro b3 ?_
 cases h13:(mayB any lo hi) with
 |false =>
  simp -implicitDefEqProofs only[go_sem];exact Fini.ret rfl
 |true =>
 simp -implicitDefEqProofs only[go_sem];refine CO.intro i82 ?_;simp -implicitDefEqProofs only[go_sem];refine CO.intro i82 ?_;simp -implicitDefEqProofs only[go_sem];refine CO.intro b5 ?_
 cases h14:(noRl ⟨src,tgt,ra,rl,rh,eq⟩) with
 |false =>
  simp -implicitDefEqProofs only[go_sem];exact Fini.ret rfl
 |true =>
 simp -implicitDefEqProofs only[go_sem];refine CO.intro i76 ?_;unfold emI zF
 cases h15:(((ls.length:Nat):Int)==0) with
 |false =>
  simp -implicitDefEqProofs only[go_sem,h15];exact Fini.ret rfl
 |true =>
 simp -implicitDefEqProofs only[go_sem,h15];refine CO.intro b7 ?_;simp -implicitDefEqProofs only[go_sem];exact Fini.ret rfl
set_option maxHeartbeats 8000000 in
theorem z4g (r:ReM) (hr:ReSm r) (hd:dOf r.op=S1):Ans Tryz.prog 89 [reV r] σ (Bo (docB r S1)) σ:=by
 obtain⟨tok,op,id,txt,st,en,sta,mt,any,lo,hi,⟨src,tgt,ra,rl,rh,eq⟩,ls,val⟩:=r;obtain⟨hm,hru,hls⟩:=hr;simp only at hm hru hls hd;have k1:=z0R σ op;rw[hd]at k1;have ii:=fun c h=>z2i σ S1 c h
 have i73:=ii 73 (by decide)
 have i84:=ii 84 (by decide)
 have i83:=ii 83 (by decide)
 have i90:=ii 90 (by decide)
 have i77:=ii 77 (by decide)
 have i66:=ii 66 (by decide)
 have i82:=ii 82 (by decide)
 have i76:=ii 76 (by decide)
 simp only[hc_1]at i73 i84 i83 i90 i77 i66 i82 i76;have b0:=z2h σ txt;have b1:=z1a σ mt hm;have b2:=z1f σ (any,lo,hi);have b3:=z20 σ any lo hi;have b4:=z1C σ ⟨src,tgt,ra,rl,rh,eq⟩ hru;have b5:=z1q σ ⟨src,tgt,ra,rl,rh,eq⟩;have b6:=z21 σ ls hls;have b7:=z0K σ val;unfold bandV at b2;unfold ruV at b4 b5;unfold docB;simp only[hc_1,Bool.true_or,Bool.false_or,Bool.not_true,Bool.not_false,Bool.true_and,if_true,Bool.false_eq_true,if_false];refine Ans.of_run t89 ?_;unfold reV reC;simp -implicitDefEqProofs only[c89,r89,go_sem];refine CO.intro k1 ?_;simp -implicitDefEqProofs only[go_sem];refine CO.intro i73 ?_
 cases h0:(decide (0≤id)) with
 |false =>
  have fh00:=lt_of h0;simp -implicitDefEqProofs only[go_sem,h0,fh00];exact Fini.ret rfl
 |true =>
 have fh00:=lt_of h0
 cases h1:(decide (id≤2147483647)) with
 |false =>
  have fh10:=gt_of h1;simp -implicitDefEqProofs only[go_sem,h0,fh00,h1,fh10];exact Fini.ret rfl
 |true =>
 have fh10:=gt_of h1;simp -implicitDefEqProofs only[go_sem,h0,fh00,h1,fh10];refine CO.intro i84 ?_;simp -implicitDefEqProofs only[go_sem];refine CO.intro i84 ?_;unfold emS
 cases h2:(txt.toList==(⟨#[]⟩:ByteArray).toList) with
 |false =>
  simp -implicitDefEqProofs only[go_sem,h2];exact Fini.ret rfl
 |true =>
 simp -implicitDefEqProofs only[go_sem,h2];refine CO.intro i83 ?_;unfold emU
 cases h3:(((st:Nat):Int)==0) with
 |false =>
  have fh30:=ne_of h3;simp -implicitDefEqProofs only[go_sem,h3,fh30];exact Fini.ret rfl
 |true =>
 have fh30:=ne_of h3
 cases h4:(((en:Nat):Int)==0) with
 |false =>
  have fh40:=ne_of h4;simp -implicitDefEqProofs only[go_sem,h3,fh30,h4,fh40];exact Fini.ret rfl
 |true =>
 have fh40:=ne_of h4;unfold clkB
 cases h5:(decide (((st:Nat):Int)≤1099511627776)) with
 |false =>
  have fh50:=gt_of h5;simp -implicitDefEqProofs only[go_sem,h3,fh30,h4,fh40,h5,fh50];exact Fini.ret rfl
 |true =>
 have fh50:=gt_of h5
 cases h6:(decide (((en:Nat):Int)≤1099511627776)) with
 |false =>
  have fh60:=gt_of h6;simp -implicitDefEqProofs only[go_sem,h3,fh30,h4,fh40,h5,fh50,h6,fh60];exact Fini.ret rfl
 |true =>
 have fh60:=gt_of h6;simp -implicitDefEqProofs only[go_sem,h3,fh30,h4,fh40,h5,fh50,h6,fh60];refine CO.intro i90 ?_
 cases h7:(sta==0) with
 |false =>
  have fh70:=ne_of h7;simp -implicitDefEqProofs only[go_sem,h7,fh70];exact Fini.ret rfl
 |true =>
 have fh70:=ne_of h7
 cases h8:(decide (0≤sta)) with
 |false =>
  have fh80:=lt_of h8;simp -implicitDefEqProofs only[go_sem,h7,fh70,h8,fh80];exact Fini.ret rfl
 |true =>
 have fh80:=lt_of h8
 cases h9:(decide (sta≤3)) with
 |false =>
  have fh90:=gt_of h9;simp -implicitDefEqProofs only[go_sem,h7,fh70,h8,fh80,h9,fh90];exact Fini.ret rfl
 |true =>
 have fh90:=gt_of h9;simp -implicitDefEqProofs only[go_sem,h7,fh70,h8,fh80,h9,fh90];refine CO.intro i77 ?_;have hl:=z4K mt.length
 cases hm0:(emI mt.length) with
 |false =>
  rw[hm0]at hl;simp -implicitDefEqProofs only[go_sem,hl];exact Fini.ret rfl
 |true =>
 rw[hm0]at hl;simp -implicitDefEqProofs only[go_sem,hl];refine CO.intro i83 ?_;simp -implicitDefEqProofs only[go_sem];refine CO.intro b1 ?_
 cases h10:(listB mt) with
 |false =>
  simp -implicitDefEqProofs only[go_sem];exact Fini.ret rfl
 |true =>
 simp -implicitDefEqProofs only[go_sem];refine CO.intro i66 ?_;simp -implicitDefEqProofs only[go_sem];refine CO.intro b2 ?_
 cases h11:(noBd (any,lo,hi)) with
 |false =>
  simp -implicitDefEqProofs only[go_sem];exact Fini.ret rfl
 |true =>
 simp -implicitDefEqProofs only[go_sem];refine CO.intro b3 ?_
 cases h12:(mayB any lo hi) with
 |false =>
  simp -implicitDefEqProofs only[go_sem];exact Fini.ret rfl
 |true =>
 simp -implicitDefEqProofs only[go_sem];refine CO.intro i82 ?_;simp -implicitDefEqProofs only[go_sem];refine CO.intro i82 ?_;simp -implicitDefEqProofs only[go_sem];refine CO.intro b5 ?_
 cases h13:(noRl ⟨src,tgt,ra,rl,rh,eq⟩) with
 |false =>
  simp -implicitDefEqProofs only[go_sem];exact Fini.ret rfl
 |true =>
 simp -implicitDefEqProofs only[go_sem];refine CO.intro i76 ?_;unfold emI zF
 cases h14:(((ls.length:Nat):Int)==0) with
 |false =>
  simp -implicitDefEqProofs only[go_sem,h14];exact Fini.ret rfl
 |true =>
 simp -implicitDefEqProofs only[go_sem,h14];refine CO.intro b7 ?_;simp -implicitDefEqProofs only[go_sem];exact Fini.ret rfl
set_option maxHeartbeats 8000000 in
theorem zal (r:ReM) (hr:ReSm r) (hd:dOf r.op=S3):Ans Tryz.prog 89 [reV r] σ (Bo (docB r S3)) σ:=by
 obtain⟨tok,op,id,txt,st,en,sta,mt,any,lo,hi,⟨src,tgt,ra,rl,rh,eq⟩,ls,val⟩:=r;obtain⟨hm,hru,hls⟩:=hr;simp only at hm hru hls hd;have k1:=z0R σ op;rw[hd]at k1;have ii:=fun c h=>z2i σ S3 c h
 have i73:=ii 73 (by decide)
 have i84:=ii 84 (by decide)
 have i83:=ii 83 (by decide)
 have i90:=ii 90 (by decide)
 have i77:=ii 77 (by decide)
 have i66:=ii 66 (by decide)
 have i82:=ii 82 (by decide)
 have i76:=ii 76 (by decide)
 simp only[hc_3]at i73 i84 i83 i90 i77 i66 i82 i76;have b0:=z2h σ txt;have b1:=z1a σ mt hm;have b2:=z1f σ (any,lo,hi);have b3:=z20 σ any lo hi;have b4:=z1C σ ⟨src,tgt,ra,rl,rh,eq⟩ hru;have b5:=z1q σ ⟨src,tgt,ra,rl,rh,eq⟩;have b6:=z21 σ ls hls;have b7:=z0K σ val;unfold bandV at b2;unfold ruV at b4 b5;unfold docB;simp only[hc_3,Bool.true_or,Bool.false_or,Bool.not_true,Bool.not_false,Bool.true_and,if_true,Bool.false_eq_true,if_false];refine Ans.of_run t89 ?_;unfold reV reC;simp -implicitDefEqProofs only[c89,r89,go_sem];refine CO.intro k1 ?_;simp -implicitDefEqProofs only[go_sem];refine CO.intro i73 ?_
 cases h0:(decide (0≤id)) with
 |false =>
  have fh00:=lt_of h0;simp -implicitDefEqProofs only[go_sem,h0,fh00];exact Fini.ret rfl
 |true =>
 have fh00:=lt_of h0
 cases h1:(decide (id≤2147483647)) with
 |false =>
  have fh10:=gt_of h1;simp -implicitDefEqProofs only[go_sem,h0,fh00,h1,fh10];exact Fini.ret rfl
 |true =>
 have fh10:=gt_of h1;simp -implicitDefEqProofs only[go_sem,h0,fh00,h1,fh10];refine CO.intro i84 ?_;simp -implicitDefEqProofs only[go_sem];refine CO.intro b0 ?_
 cases h2:(tokB txt) with
 |false =>
  simp -implicitDefEqProofs only[go_sem];exact Fini.ret rfl
 |true =>
 simp -implicitDefEqProofs only[go_sem];refine CO.intro i84 ?_;simp -implicitDefEqProofs only[go_sem];refine CO.intro i83 ?_;unfold emU
 cases h3:(((st:Nat):Int)==0) with
 |false =>
  have fh30:=ne_of h3;simp -implicitDefEqProofs only[go_sem,h3,fh30];exact Fini.ret rfl
 |true =>
 have fh30:=ne_of h3
 cases h4:(((en:Nat):Int)==0) with
 |false =>
  have fh40:=ne_of h4;simp -implicitDefEqProofs only[go_sem,h3,fh30,h4,fh40];exact Fini.ret rfl
 |true =>
 have fh40:=ne_of h4;unfold clkB
 cases h5:(decide (((st:Nat):Int)≤1099511627776)) with
 |false =>
  have fh50:=gt_of h5;simp -implicitDefEqProofs only[go_sem,h3,fh30,h4,fh40,h5,fh50];exact Fini.ret rfl
 |true =>
 have fh50:=gt_of h5
 cases h6:(decide (((en:Nat):Int)≤1099511627776)) with
 |false =>
  have fh60:=gt_of h6;simp -implicitDefEqProofs only[go_sem,h3,fh30,h4,fh40,h5,fh50,h6,fh60];exact Fini.ret rfl
 |true =>
 have fh60:=gt_of h6;simp -implicitDefEqProofs only[go_sem,h3,fh30,h4,fh40,h5,fh50,h6,fh60];refine CO.intro i90 ?_
 cases h7:(sta==0) with
 |false =>
  have fh70:=ne_of h7;simp -implicitDefEqProofs only[go_sem,h7,fh70];exact Fini.ret rfl
 |true =>
 have fh70:=ne_of h7
 cases h8:(decide (0≤sta)) with
 |false =>
  have fh80:=lt_of h8;simp -implicitDefEqProofs only[go_sem,h7,fh70,h8,fh80];exact Fini.ret rfl
 |true =>
 have fh80:=lt_of h8
 cases h9:(decide (sta≤3)) with
 |false =>
  have fh90:=gt_of h9;simp -implicitDefEqProofs only[go_sem,h7,fh70,h8,fh80,h9,fh90];exact Fini.ret rfl
 |true =>
 have fh90:=gt_of h9;simp -implicitDefEqProofs only[go_sem,h7,fh70,h8,fh80,h9,fh90];refine CO.intro i77 ?_;have hl:=z4K mt.length
 cases hm0:(emI mt.length) with
 |false =>
  rw[hm0]at hl;simp -implicitDefEqProofs only[go_sem,hl];exact Fini.ret rfl
 |true =>
 rw[hm0]at hl;simp -implicitDefEqProofs only[go_sem,hl];refine CO.intro i83 ?_;simp -implicitDefEqProofs only[go_sem];refine CO.intro b1 ?_
 cases h10:(listB mt) with
 |false =>
  simp -implicitDefEqProofs only[go_sem];exact Fini.ret rfl
 |true =>
 simp -implicitDefEqProofs only[go_sem];refine CO.intro i66 ?_;simp -implicitDefEqProofs only[go_sem];refine CO.intro b2 ?_
 cases h11:(noBd (any,lo,hi)) with
 |false =>
  simp -implicitDefEqProofs only[go_sem];exact Fini.ret rfl
 |true =>
 simp -implicitDefEqProofs only[go_sem];refine CO.intro b3 ?_
 cases h12:(mayB any lo hi) with
 |false =>
  simp -implicitDefEqProofs only[go_sem];exact Fini.ret rfl
 |true =>
 simp -implicitDefEqProofs only[go_sem];refine CO.intro i82 ?_;simp -implicitDefEqProofs only[go_sem];refine CO.intro i82 ?_;simp -implicitDefEqProofs only[go_sem];refine CO.intro b5 ?_
 cases h13:(noRl ⟨src,tgt,ra,rl,rh,eq⟩) with
 |false =>
  simp -implicitDefEqProofs only[go_sem];exact Fini.ret rfl
 |true =>
 simp -implicitDefEqProofs only[go_sem];refine CO.intro i76 ?_;unfold emI zF
 cases h14:(((ls.length:Nat):Int)==0) with
 |false =>
  simp -implicitDefEqProofs only[go_sem,h14];exact Fini.ret rfl
 |true =>
 simp -implicitDefEqProofs only[go_sem,h14];refine CO.intro b7 ?_;simp -implicitDefEqProofs only[go_sem];exact Fini.ret rfl
end
section
variable (σ:St)
set_option maxHeartbeats 8000000 in
theorem zbd (r:ReM) (hr:ReSm r) (hd:dOf r.op=S116):Ans Tryz.prog 89 [reV r] σ (Bo (docB r S116)) σ:=by
 obtain⟨tok,op,id,txt,st,en,sta,mt,any,lo,hi,⟨src,tgt,ra,rl,rh,eq⟩,ls,val⟩:=r;obtain⟨hm,hru,hls⟩:=hr;simp only at hm hru hls hd;have k1:=z0R σ op;rw[hd]at k1;have ii:=fun c h=>z2i σ S116 c h
 have i73:=ii 73 (by decide)
 have i84:=ii 84 (by decide)
 have i83:=ii 83 (by decide)
 have i90:=ii 90 (by decide)
 have i77:=ii 77 (by decide)
 have i66:=ii 66 (by decide)
 have i82:=ii 82 (by decide)
 have i76:=ii 76 (by decide)
 simp only[zcZ]at i73 i84 i83 i90 i77 i66 i82 i76;have b0:=z2h σ txt;have b1:=z1a σ mt hm;have b2:=z1f σ (any,lo,hi);have b3:=z20 σ any lo hi;have b4:=z1C σ ⟨src,tgt,ra,rl,rh,eq⟩ hru;have b5:=z1q σ ⟨src,tgt,ra,rl,rh,eq⟩;have b6:=z21 σ ls hls;have b7:=z0K σ val;unfold bandV at b2;unfold ruV at b4 b5;unfold docB;simp only[zcZ,Bool.true_or,Bool.false_or,Bool.not_true,Bool.not_false,Bool.true_and,if_true,Bool.false_eq_true,if_false];refine Ans.of_run t89 ?_;unfold reV reC;simp -implicitDefEqProofs only[c89,r89,go_sem];refine CO.intro k1 ?_;simp -implicitDefEqProofs only[go_sem];refine CO.intro i73 ?_
 cases h0:(id==0) with
 |false =>
  have fh00:=ne_of h0;simp -implicitDefEqProofs only[go_sem,h0,fh00];exact Fini.ret rfl
 |true =>
 have fh00:=ne_of h0
 cases h1:(decide (0≤id)) with
 |false =>
  have fh10:=lt_of h1;simp -implicitDefEqProofs only[go_sem,h0,fh00,h1,fh10];exact Fini.ret rfl
 |true =>
 have fh10:=lt_of h1
 cases h2:(decide (id≤2147483647)) with
 |false =>
  have fh20:=gt_of h2;simp -implicitDefEqProofs only[go_sem,h0,fh00,h1,fh10,h2,fh20];exact Fini.ret rfl
 |true =>
 have fh20:=gt_of h2;simp -implicitDefEqProofs only[go_sem,h0,fh00,h1,fh10,h2,fh20];refine CO.intro i84 ?_;simp -implicitDefEqProofs only[go_sem];refine CO.intro i84 ?_;unfold emS
 cases h3:(txt.toList==(⟨#[]⟩:ByteArray).toList) with
 |false =>
  simp -implicitDefEqProofs only[go_sem,h3];exact Fini.ret rfl
 |true =>
 simp -implicitDefEqProofs only[go_sem,h3];refine CO.intro i83 ?_;unfold clkB
 cases h4:(decide (((st:Nat):Int)≤1099511627776)) with
 |false =>
  have fh40:=gt_of h4;simp -implicitDefEqProofs only[go_sem,h4,fh40];exact Fini.ret rfl
 |true =>
 have fh40:=gt_of h4
 cases h5:(decide (((en:Nat):Int)≤1099511627776)) with
 |false =>
  have fh50:=gt_of h5;simp -implicitDefEqProofs only[go_sem,h4,fh40,h5,fh50];exact Fini.ret rfl
 |true =>
 have fh50:=gt_of h5;simp -implicitDefEqProofs only[go_sem,h4,fh40,h5,fh50];refine CO.intro i90 ?_
 cases h6:(sta==0) with
 |false =>
  have fh60:=ne_of h6;simp -implicitDefEqProofs only[go_sem,h6,fh60];exact Fini.ret rfl
 |true =>
 have fh60:=ne_of h6
 cases h7:(decide (0≤sta)) with
 |false =>
  have fh70:=lt_of h7;simp -implicitDefEqProofs only[go_sem,h6,fh60,h7,fh70];exact Fini.ret rfl
 |true =>
 have fh70:=lt_of h7
 cases h8:(decide (sta≤3)) with
 |false =>
  have fh80:=gt_of h8;simp -implicitDefEqProofs only[go_sem,h6,fh60,h7,fh70,h8,fh80];exact Fini.ret rfl
 |true =>
 have fh80:=gt_of h8;simp -implicitDefEqProofs only[go_sem,h6,fh60,h7,fh70,h8,fh80];refine CO.intro i77 ?_;simp -implicitDefEqProofs only[go_sem];refine CO.intro i83 ?_;have hl:(((mt.length:Nat):Int)==0)= !(!emI mt.length):=by rw[Bool.not_not];rfl
 cases hm0:(!emI mt.length) with
 |false =>
  rw[hm0]at hl;simp -implicitDefEqProofs only[go_sem,hl];exact Fini.ret rfl
 |true =>
 rw[hm0]at hl;simp -implicitDefEqProofs only[go_sem,hl];refine CO.intro b1 ?_
 cases h9:(listB mt) with
 |false =>
  simp -implicitDefEqProofs only[go_sem];exact Fini.ret rfl
 |true =>
 simp -implicitDefEqProofs only[go_sem];refine CO.intro i66 ?_;simp -implicitDefEqProofs only[go_sem];refine CO.intro b3 ?_
 cases h10:(mayB any lo hi) with
 |false =>
  simp -implicitDefEqProofs only[go_sem];exact Fini.ret rfl
 |true =>
 simp -implicitDefEqProofs only[go_sem];refine CO.intro i82 ?_;simp -implicitDefEqProofs only[go_sem];refine CO.intro i82 ?_;simp -implicitDefEqProofs only[go_sem];refine CO.intro b5 ?_
 cases h11:(noRl ⟨src,tgt,ra,rl,rh,eq⟩) with
 |false =>
  simp -implicitDefEqProofs only[go_sem];exact Fini.ret rfl
 |true =>
 simp -implicitDefEqProofs only[go_sem];refine CO.intro i76 ?_;unfold emI zF
 cases h12:(((ls.length:Nat):Int)==0) with
 |false =>
  simp -implicitDefEqProofs only[go_sem,h12];exact Fini.ret rfl
 |true =>
 simp -implicitDefEqProofs only[go_sem,h12];refine CO.intro b7 ?_;simp -implicitDefEqProofs only[go_sem];exact Fini.ret rfl
set_option maxHeartbeats 8000000 in
theorem zbe (r:ReM) (hr:ReSm r) (hd:dOf r.op=S117):Ans Tryz.prog 89 [reV r] σ (Bo (docB r S117)) σ:=by
 obtain⟨tok,op,id,txt,st,en,sta,mt,any,lo,hi,⟨src,tgt,ra,rl,rh,eq⟩,ls,val⟩:=r;obtain⟨hm,hru,hls⟩:=hr;simp only at hm hru hls hd;have k1:=z0R σ op;rw[hd]at k1;have ii:=fun c h=>z2i σ S117 c h
 have i73:=ii 73 (by decide)
 have i84:=ii 84 (by decide)
 have i83:=ii 83 (by decide)
 have i90:=ii 90 (by decide)
 have i77:=ii 77 (by decide)
 have i66:=ii 66 (by decide)
 have i82:=ii 82 (by decide)
 have i76:=ii 76 (by decide)
 simp only[zd0]at i73 i84 i83 i90 i77 i66 i82 i76;have b0:=z2h σ txt;have b1:=z1a σ mt hm;have b2:=z1f σ (any,lo,hi);have b3:=z20 σ any lo hi;have b4:=z1C σ ⟨src,tgt,ra,rl,rh,eq⟩ hru;have b5:=z1q σ ⟨src,tgt,ra,rl,rh,eq⟩;have b6:=z21 σ ls hls;have b7:=z0K σ val;unfold bandV at b2;unfold ruV at b4 b5;unfold docB;simp only[zd0,Bool.true_or,Bool.false_or,Bool.not_true,Bool.not_false,Bool.true_and,if_true,Bool.false_eq_true,if_false];refine Ans.of_run t89 ?_;unfold reV reC;simp -implicitDefEqProofs only[c89,r89,go_sem];refine CO.intro k1 ?_;simp -implicitDefEqProofs only[go_sem];refine CO.intro i73 ?_
 cases h0:(decide (0≤id)) with
 |false =>
  have fh00:=lt_of h0;simp -implicitDefEqProofs only[go_sem,h0,fh00];exact Fini.ret rfl
 |true =>
 have fh00:=lt_of h0
 cases h1:(decide (id≤2147483647)) with
 |false =>
  have fh10:=gt_of h1;simp -implicitDefEqProofs only[go_sem,h0,fh00,h1,fh10];exact Fini.ret rfl
 |true =>
 have fh10:=gt_of h1;simp -implicitDefEqProofs only[go_sem,h0,fh00,h1,fh10];refine CO.intro i84 ?_;simp -implicitDefEqProofs only[go_sem];refine CO.intro i84 ?_;unfold emS
 cases h2:(txt.toList==(⟨#[]⟩:ByteArray).toList) with
 |false =>
  simp -implicitDefEqProofs only[go_sem,h2];exact Fini.ret rfl
 |true =>
 simp -implicitDefEqProofs only[go_sem,h2];refine CO.intro i83 ?_;unfold clkB
 cases h3:(decide (((st:Nat):Int)≤1099511627776)) with
 |false =>
  have fh30:=gt_of h3;simp -implicitDefEqProofs only[go_sem,h3,fh30];exact Fini.ret rfl
 |true =>
 have fh30:=gt_of h3
 cases h4:(decide (((en:Nat):Int)≤1099511627776)) with
 |false =>
  have fh40:=gt_of h4;simp -implicitDefEqProofs only[go_sem,h3,fh30,h4,fh40];exact Fini.ret rfl
 |true =>
 have fh40:=gt_of h4;simp -implicitDefEqProofs only[go_sem,h3,fh30,h4,fh40];refine CO.intro i90 ?_
 cases h5:(sta==0) with
 |false =>
  have fh50:=ne_of h5;simp -implicitDefEqProofs only[go_sem,h5,fh50];exact Fini.ret rfl
 |true =>
 have fh50:=ne_of h5
 cases h6:(decide (0≤sta)) with
 |false =>
  have fh60:=lt_of h6;simp -implicitDefEqProofs only[go_sem,h5,fh50,h6,fh60];exact Fini.ret rfl
 |true =>
 have fh60:=lt_of h6
 cases h7:(decide (sta≤3)) with
 |false =>
  have fh70:=gt_of h7;simp -implicitDefEqProofs only[go_sem,h5,fh50,h6,fh60,h7,fh70];exact Fini.ret rfl
 |true =>
 have fh70:=gt_of h7;simp -implicitDefEqProofs only[go_sem,h5,fh50,h6,fh60,h7,fh70];refine CO.intro i77 ?_;simp -implicitDefEqProofs only[go_sem];refine CO.intro i83 ?_;have hl:(((mt.length:Nat):Int)==0)= !(!emI mt.length):=by rw[Bool.not_not];rfl
 cases hm0:(!emI mt.length) with
 |false =>
  rw[hm0]at hl;simp -implicitDefEqProofs only[go_sem,hl];exact Fini.ret rfl
 |true =>
 rw[hm0]at hl;simp -implicitDefEqProofs only[go_sem,hl];refine CO.intro b1 ?_
 cases h8:(listB mt) with
 |false =>
  simp -implicitDefEqProofs only[go_sem];exact Fini.ret rfl
 |true =>
 simp -implicitDefEqProofs only[go_sem];refine CO.intro i66 ?_;simp -implicitDefEqProofs only[go_sem];refine CO.intro b3 ?_
 cases h9:(mayB any lo hi) with
 |false =>
  simp -implicitDefEqProofs only[go_sem];exact Fini.ret rfl
 |true =>
 simp -implicitDefEqProofs only[go_sem];refine CO.intro i82 ?_;simp -implicitDefEqProofs only[go_sem];refine CO.intro i82 ?_;simp -implicitDefEqProofs only[go_sem];refine CO.intro b5 ?_
 cases h10:(noRl ⟨src,tgt,ra,rl,rh,eq⟩) with
 |false =>
  simp -implicitDefEqProofs only[go_sem];exact Fini.ret rfl
 |true =>
 simp -implicitDefEqProofs only[go_sem];refine CO.intro i76 ?_;unfold emI zF
 cases h11:(((ls.length:Nat):Int)==0) with
 |false =>
  simp -implicitDefEqProofs only[go_sem,h11];exact Fini.ret rfl
 |true =>
 simp -implicitDefEqProofs only[go_sem,h11];refine CO.intro b7 ?_;simp -implicitDefEqProofs only[go_sem];exact Fini.ret rfl
end
section
variable (σ:St)
set_option maxHeartbeats 8000000 in
theorem zez (r:ReM) (hr:ReSm r) (hd:dOf r.op=S8):Ans Tryz.prog 89 [reV r] σ (Bo (docB r S8)) σ:=by
 obtain⟨tok,op,id,txt,st,en,sta,mt,any,lo,hi,⟨src,tgt,ra,rl,rh,eq⟩,ls,val⟩:=r;obtain⟨hm,hru,hls⟩:=hr;simp only at hm hru hls hd;have k1:=z0R σ op;rw[hd]at k1;have ii:=fun c h=>z2i σ S8 c h
 have i73:=ii 73 (by decide)
 have i84:=ii 84 (by decide)
 have i83:=ii 83 (by decide)
 have i90:=ii 90 (by decide)
 have i77:=ii 77 (by decide)
 have i66:=ii 66 (by decide)
 have i82:=ii 82 (by decide)
 have i76:=ii 76 (by decide)
 simp only[hc_8]at i73 i84 i83 i90 i77 i66 i82 i76;have b0:=z2h σ txt;have b1:=z1a σ mt hm;have b2:=z1f σ (any,lo,hi);have b3:=z20 σ any lo hi;have b4:=z1C σ ⟨src,tgt,ra,rl,rh,eq⟩ hru;have b5:=z1q σ ⟨src,tgt,ra,rl,rh,eq⟩;have b6:=z21 σ ls hls;have b7:=z0K σ val;unfold bandV at b2;unfold ruV at b4 b5;unfold docB;simp only[hc_8,Bool.true_or,Bool.false_or,Bool.not_true,Bool.not_false,Bool.true_and,if_true,Bool.false_eq_true,if_false];refine Ans.of_run t89 ?_;unfold reV reC;simp -implicitDefEqProofs only[c89,r89,go_sem];refine CO.intro k1 ?_;simp -implicitDefEqProofs only[go_sem];refine CO.intro i73 ?_
 cases h0:(id==0) with
 |false =>
  have fh00:=ne_of h0;simp -implicitDefEqProofs only[go_sem,h0,fh00];exact Fini.ret rfl
 |true =>
 have fh00:=ne_of h0
 cases h1:(decide (0≤id)) with
 |false =>
  have fh10:=lt_of h1;simp -implicitDefEqProofs only[go_sem,h0,fh00,h1,fh10];exact Fini.ret rfl
 |true =>
 have fh10:=lt_of h1
 cases h2:(decide (id≤2147483647)) with
 |false =>
  have fh20:=gt_of h2;simp -implicitDefEqProofs only[go_sem,h0,fh00,h1,fh10,h2,fh20];exact Fini.ret rfl
 |true =>
 have fh20:=gt_of h2;simp -implicitDefEqProofs only[go_sem,h0,fh00,h1,fh10,h2,fh20];refine CO.intro i84 ?_;simp -implicitDefEqProofs only[go_sem];refine CO.intro i84 ?_;unfold emS
 cases h3:(txt.toList==(⟨#[]⟩:ByteArray).toList) with
 |false =>
  simp -implicitDefEqProofs only[go_sem,h3];exact Fini.ret rfl
 |true =>
 simp -implicitDefEqProofs only[go_sem,h3];refine CO.intro i83 ?_;unfold emU
 cases h4:(((st:Nat):Int)==0) with
 |false =>
  have fh40:=ne_of h4;simp -implicitDefEqProofs only[go_sem,h4,fh40];exact Fini.ret rfl
 |true =>
 have fh40:=ne_of h4
 cases h5:(((en:Nat):Int)==0) with
 |false =>
  have fh50:=ne_of h5;simp -implicitDefEqProofs only[go_sem,h4,fh40,h5,fh50];exact Fini.ret rfl
 |true =>
 have fh50:=ne_of h5;unfold clkB
 cases h6:(decide (((st:Nat):Int)≤1099511627776)) with
 |false =>
  have fh60:=gt_of h6;simp -implicitDefEqProofs only[go_sem,h4,fh40,h5,fh50,h6,fh60];exact Fini.ret rfl
 |true =>
 have fh60:=gt_of h6
 cases h7:(decide (((en:Nat):Int)≤1099511627776)) with
 |false =>
  have fh70:=gt_of h7;simp -implicitDefEqProofs only[go_sem,h4,fh40,h5,fh50,h6,fh60,h7,fh70];exact Fini.ret rfl
 |true =>
 have fh70:=gt_of h7;simp -implicitDefEqProofs only[go_sem,h4,fh40,h5,fh50,h6,fh60,h7,fh70];refine CO.intro i90 ?_
 cases h8:(decide (0≤sta)) with
 |false =>
  have fh80:=lt_of h8;simp -implicitDefEqProofs only[go_sem,h8,fh80];exact Fini.ret rfl
 |true =>
 have fh80:=lt_of h8
 cases h9:(decide (sta≤3)) with
 |false =>
  have fh90:=gt_of h9;simp -implicitDefEqProofs only[go_sem,h8,fh80,h9,fh90];exact Fini.ret rfl
 |true =>
 have fh90:=gt_of h9;simp -implicitDefEqProofs only[go_sem,h8,fh80,h9,fh90];refine CO.intro i77 ?_;have hl:=z4K mt.length
 cases hm0:(emI mt.length) with
 |false =>
  rw[hm0]at hl;simp -implicitDefEqProofs only[go_sem,hl];exact Fini.ret rfl
 |true =>
 rw[hm0]at hl;simp -implicitDefEqProofs only[go_sem,hl];refine CO.intro i83 ?_;simp -implicitDefEqProofs only[go_sem];refine CO.intro b1 ?_
 cases h10:(listB mt) with
 |false =>
  simp -implicitDefEqProofs only[go_sem];exact Fini.ret rfl
 |true =>
 simp -implicitDefEqProofs only[go_sem];refine CO.intro i66 ?_;simp -implicitDefEqProofs only[go_sem];refine CO.intro b2 ?_
 cases h11:(noBd (any,lo,hi)) with
 |false =>
  simp -implicitDefEqProofs only[go_sem];exact Fini.ret rfl
 |true =>
 simp -implicitDefEqProofs only[go_sem];refine CO.intro b3 ?_
 cases h12:(mayB any lo hi) with
 |false =>
  simp -implicitDefEqProofs only[go_sem];exact Fini.ret rfl
 |true =>
 simp -implicitDefEqProofs only[go_sem];refine CO.intro i82 ?_;simp -implicitDefEqProofs only[go_sem];refine CO.intro i82 ?_;simp -implicitDefEqProofs only[go_sem];refine CO.intro b5 ?_
 cases h13:(noRl ⟨src,tgt,ra,rl,rh,eq⟩) with
 |false =>
  simp -implicitDefEqProofs only[go_sem];exact Fini.ret rfl
 |true =>
 simp -implicitDefEqProofs only[go_sem];refine CO.intro i76 ?_;unfold emI zF
 cases h14:(((ls.length:Nat):Int)==0) with
 |false =>
  simp -implicitDefEqProofs only[go_sem,h14];exact Fini.ret rfl
 |true =>
 simp -implicitDefEqProofs only[go_sem,h14];refine CO.intro b7 ?_;simp -implicitDefEqProofs only[go_sem];exact Fini.ret rfl
set_option maxHeartbeats 8000000 in
theorem zbf (r:ReM) (hr:ReSm r) (hd:dOf r.op=S128):Ans Tryz.prog 89 [reV r] σ (Bo (docB r S128)) σ:=by
 obtain⟨tok,op,id,txt,st,en,sta,mt,any,lo,hi,⟨src,tgt,ra,rl,rh,eq⟩,ls,val⟩:=r;obtain⟨hm,hru,hls⟩:=hr;simp only at hm hru hls hd;have k1:=z0R σ op;rw[hd]at k1;have ii:=fun c h=>z2i σ S128 c h
 have i73:=ii 73 (by decide)
 have i84:=ii 84 (by decide)
 have i83:=ii 83 (by decide)
 have i90:=ii 90 (by decide)
 have i77:=ii 77 (by decide)
 have i66:=ii 66 (by decide)
 have i82:=ii 82 (by decide)
 have i76:=ii 76 (by decide)
 simp only[zd1]at i73 i84 i83 i90 i77 i66 i82 i76;have b0:=z2h σ txt;have b1:=z1a σ mt hm;have b2:=z1f σ (any,lo,hi);have b3:=z20 σ any lo hi;have b4:=z1C σ ⟨src,tgt,ra,rl,rh,eq⟩ hru;have b5:=z1q σ ⟨src,tgt,ra,rl,rh,eq⟩;have b6:=z21 σ ls hls;have b7:=z0K σ val;unfold bandV at b2;unfold ruV at b4 b5;unfold docB;simp only[zd1,Bool.true_or,Bool.false_or,Bool.not_true,Bool.not_false,Bool.true_and,if_true,Bool.false_eq_true,if_false];refine Ans.of_run t89 ?_;unfold reV reC;simp -implicitDefEqProofs only[c89,r89,go_sem];refine CO.intro k1 ?_;simp -implicitDefEqProofs only[go_sem];refine CO.intro i73 ?_
 cases h0:(id==0) with
 |false =>
  have fh00:=ne_of h0;simp -implicitDefEqProofs only[go_sem,h0,fh00];exact Fini.ret rfl
 |true =>
 have fh00:=ne_of h0
 cases h1:(decide (0≤id)) with
 |false =>
  have fh10:=lt_of h1;simp -implicitDefEqProofs only[go_sem,h0,fh00,h1,fh10];exact Fini.ret rfl
 |true =>
 have fh10:=lt_of h1
 cases h2:(decide (id≤2147483647)) with
 |false =>
  have fh20:=gt_of h2;simp -implicitDefEqProofs only[go_sem,h0,fh00,h1,fh10,h2,fh20];exact Fini.ret rfl
 |true =>
 have fh20:=gt_of h2;simp -implicitDefEqProofs only[go_sem,h0,fh00,h1,fh10,h2,fh20];refine CO.intro i84 ?_;simp -implicitDefEqProofs only[go_sem];refine CO.intro i84 ?_;unfold emS
 cases h3:(txt.toList==(⟨#[]⟩:ByteArray).toList) with
 |false =>
  simp -implicitDefEqProofs only[go_sem,h3];exact Fini.ret rfl
 |true =>
 simp -implicitDefEqProofs only[go_sem,h3];refine CO.intro i83 ?_;unfold emU
 cases h4:(((st:Nat):Int)==0) with
 |false =>
  have fh40:=ne_of h4;simp -implicitDefEqProofs only[go_sem,h4,fh40];exact Fini.ret rfl
 |true =>
 have fh40:=ne_of h4
 cases h5:(((en:Nat):Int)==0) with
 |false =>
  have fh50:=ne_of h5;simp -implicitDefEqProofs only[go_sem,h4,fh40,h5,fh50];exact Fini.ret rfl
 |true =>
 have fh50:=ne_of h5;unfold clkB
 cases h6:(decide (((st:Nat):Int)≤1099511627776)) with
 |false =>
  have fh60:=gt_of h6;simp -implicitDefEqProofs only[go_sem,h4,fh40,h5,fh50,h6,fh60];exact Fini.ret rfl
 |true =>
 have fh60:=gt_of h6
 cases h7:(decide (((en:Nat):Int)≤1099511627776)) with
 |false =>
  have fh70:=gt_of h7;simp -implicitDefEqProofs only[go_sem,h4,fh40,h5,fh50,h6,fh60,h7,fh70];exact Fini.ret rfl
 |true =>
 have fh70:=gt_of h7;simp -implicitDefEqProofs only[go_sem,h4,fh40,h5,fh50,h6,fh60,h7,fh70];refine CO.intro i90 ?_
 cases h8:(sta==0) with
 |false =>
  have fh80:=ne_of h8;simp -implicitDefEqProofs only[go_sem,h8,fh80];exact Fini.ret rfl
 |true =>
 have fh80:=ne_of h8
 cases h9:(decide (0≤sta)) with
 |false =>
  have fh90:=lt_of h9;simp -implicitDefEqProofs only[go_sem,h8,fh80,h9,fh90];exact Fini.ret rfl
 |true =>
 have fh90:=lt_of h9
 cases h10:(decide (sta≤3)) with
 |false =>
  have fh100:=gt_of h10;simp -implicitDefEqProofs only[go_sem,h8,fh80,h9,fh90,h10,fh100];exact Fini.ret rfl
 |true =>
 have fh100:=gt_of h10;simp -implicitDefEqProofs only[go_sem,h8,fh80,h9,fh90,h10,fh100];refine CO.intro i77 ?_;have hl:=z4K mt.length
 cases hm0:(emI mt.length) with
 |false =>
  rw[hm0]at hl;simp -implicitDefEqProofs only[go_sem,hl];exact Fini.ret rfl
 |true =>
 rw[hm0]at hl;simp -implicitDefEqProofs only[go_sem,hl];refine CO.intro i83 ?_;simp -implicitDefEqProofs only[go_sem];refine CO.intro b1 ?_
 cases h11:(listB mt) with
 |false =>
  simp -implicitDefEqProofs only[go_sem];exact Fini.ret rfl
 |true =>
 simp -implicitDefEqProofs only[go_sem];refine CO.intro i66 ?_;simp -implicitDefEqProofs only[go_sem];refine CO.intro b2 ?_
 cases h12:(noBd (any,lo,hi)) with
 |false =>
  simp -implicitDefEqProofs only[go_sem];exact Fini.ret rfl
 |true =>
 simp -implicitDefEqProofs only[go_sem];refine CO.intro b3 ?_
 cases h13:(mayB any lo hi) with
 |false =>
  simp -implicitDefEqProofs only[go_sem];exact Fini.ret rfl
 |true =>
 simp -implicitDefEqProofs only[go_sem];refine CO.intro i82 ?_;simp -implicitDefEqProofs only[go_sem];refine CO.intro b4 ?_
 cases h14:(ruIs ⟨src,tgt,ra,rl,rh,eq⟩) with
 |false =>
  simp -implicitDefEqProofs only[go_sem];exact Fini.ret rfl
 |true =>
 simp -implicitDefEqProofs only[go_sem];refine CO.intro i82 ?_;simp -implicitDefEqProofs only[go_sem];refine CO.intro i76 ?_;unfold emI zF
 cases h15:(((ls.length:Nat):Int)==0) with
 |false =>
  simp -implicitDefEqProofs only[go_sem,h15];exact Fini.ret rfl
 |true =>
 simp -implicitDefEqProofs only[go_sem,h15];refine CO.intro b7 ?_;simp -implicitDefEqProofs only[go_sem];exact Fini.ret rfl
end
section
variable (σ:St)
set_option maxHeartbeats 8000000 in
theorem zbg (r:ReM) (hr:ReSm r) (hd:dOf r.op=S768):Ans Tryz.prog 89 [reV r] σ (Bo (docB r S768)) σ:=by
 obtain⟨tok,op,id,txt,st,en,sta,mt,any,lo,hi,⟨src,tgt,ra,rl,rh,eq⟩,ls,val⟩:=r;obtain⟨hm,hru,hls⟩:=hr;simp only at hm hru hls hd;have k1:=z0R σ op;rw[hd]at k1;have ii:=fun c h=>z2i σ S768 c h
 have i73:=ii 73 (by decide)
 have i84:=ii 84 (by decide)
 have i83:=ii 83 (by decide)
 have i90:=ii 90 (by decide)
 have i77:=ii 77 (by decide)
 have i66:=ii 66 (by decide)
 have i82:=ii 82 (by decide)
 have i76:=ii 76 (by decide)
 simp only[zd2]at i73 i84 i83 i90 i77 i66 i82 i76;have b0:=z2h σ txt;have b1:=z1a σ mt hm;have b2:=z1f σ (any,lo,hi);have b3:=z20 σ any lo hi;have b4:=z1C σ ⟨src,tgt,ra,rl,rh,eq⟩ hru;have b5:=z1q σ ⟨src,tgt,ra,rl,rh,eq⟩;have b6:=z21 σ ls hls;have b7:=z0K σ val;unfold bandV at b2;unfold ruV at b4 b5;unfold docB;simp only[zd2,Bool.true_or,Bool.false_or,Bool.not_true,Bool.not_false,Bool.true_and,if_true,Bool.false_eq_true,if_false];refine Ans.of_run t89 ?_;unfold reV reC;simp -implicitDefEqProofs only[c89,r89,go_sem];refine CO.intro k1 ?_;simp -implicitDefEqProofs only[go_sem];refine CO.intro i73 ?_
 cases h0:(id==0) with
 |false =>
  have fh00:=ne_of h0;simp -implicitDefEqProofs only[go_sem,h0,fh00];exact Fini.ret rfl
 |true =>
 have fh00:=ne_of h0
 cases h1:(decide (0≤id)) with
 |false =>
  have fh10:=lt_of h1;simp -implicitDefEqProofs only[go_sem,h0,fh00,h1,fh10];exact Fini.ret rfl
 |true =>
 have fh10:=lt_of h1
 cases h2:(decide (id≤2147483647)) with
 |false =>
  have fh20:=gt_of h2;simp -implicitDefEqProofs only[go_sem,h0,fh00,h1,fh10,h2,fh20];exact Fini.ret rfl
 |true =>
 have fh20:=gt_of h2;simp -implicitDefEqProofs only[go_sem,h0,fh00,h1,fh10,h2,fh20];refine CO.intro i84 ?_;simp -implicitDefEqProofs only[go_sem];refine CO.intro i84 ?_;unfold emS
 cases h3:(txt.toList==(⟨#[]⟩:ByteArray).toList) with
 |false =>
  simp -implicitDefEqProofs only[go_sem,h3];exact Fini.ret rfl
 |true =>
 simp -implicitDefEqProofs only[go_sem,h3];refine CO.intro i83 ?_;unfold emU
 cases h4:(((st:Nat):Int)==0) with
 |false =>
  have fh40:=ne_of h4;simp -implicitDefEqProofs only[go_sem,h4,fh40];exact Fini.ret rfl
 |true =>
 have fh40:=ne_of h4
 cases h5:(((en:Nat):Int)==0) with
 |false =>
  have fh50:=ne_of h5;simp -implicitDefEqProofs only[go_sem,h4,fh40,h5,fh50];exact Fini.ret rfl
 |true =>
 have fh50:=ne_of h5;unfold clkB
 cases h6:(decide (((st:Nat):Int)≤1099511627776)) with
 |false =>
  have fh60:=gt_of h6;simp -implicitDefEqProofs only[go_sem,h4,fh40,h5,fh50,h6,fh60];exact Fini.ret rfl
 |true =>
 have fh60:=gt_of h6
 cases h7:(decide (((en:Nat):Int)≤1099511627776)) with
 |false =>
  have fh70:=gt_of h7;simp -implicitDefEqProofs only[go_sem,h4,fh40,h5,fh50,h6,fh60,h7,fh70];exact Fini.ret rfl
 |true =>
 have fh70:=gt_of h7;simp -implicitDefEqProofs only[go_sem,h4,fh40,h5,fh50,h6,fh60,h7,fh70];refine CO.intro i90 ?_
 cases h8:(sta==0) with
 |false =>
  have fh80:=ne_of h8;simp -implicitDefEqProofs only[go_sem,h8,fh80];exact Fini.ret rfl
 |true =>
 have fh80:=ne_of h8
 cases h9:(decide (0≤sta)) with
 |false =>
  have fh90:=lt_of h9;simp -implicitDefEqProofs only[go_sem,h8,fh80,h9,fh90];exact Fini.ret rfl
 |true =>
 have fh90:=lt_of h9
 cases h10:(decide (sta≤3)) with
 |false =>
  have fh100:=gt_of h10;simp -implicitDefEqProofs only[go_sem,h8,fh80,h9,fh90,h10,fh100];exact Fini.ret rfl
 |true =>
 have fh100:=gt_of h10;simp -implicitDefEqProofs only[go_sem,h8,fh80,h9,fh90,h10,fh100];refine CO.intro i77 ?_;have hl:=z4K mt.length
 cases hm0:(emI mt.length) with
 |false =>
  rw[hm0]at hl;simp -implicitDefEqProofs only[go_sem,hl];exact Fini.ret rfl
 |true =>
 rw[hm0]at hl;simp -implicitDefEqProofs only[go_sem,hl];refine CO.intro i83 ?_;simp -implicitDefEqProofs only[go_sem];refine CO.intro b1 ?_
 cases h11:(listB mt) with
 |false =>
  simp -implicitDefEqProofs only[go_sem];exact Fini.ret rfl
 |true =>
 simp -implicitDefEqProofs only[go_sem];refine CO.intro i66 ?_;simp -implicitDefEqProofs only[go_sem];refine CO.intro b2 ?_
 cases h12:(noBd (any,lo,hi)) with
 |false =>
  simp -implicitDefEqProofs only[go_sem];exact Fini.ret rfl
 |true =>
 simp -implicitDefEqProofs only[go_sem];refine CO.intro b3 ?_
 cases h13:(mayB any lo hi) with
 |false =>
  simp -implicitDefEqProofs only[go_sem];exact Fini.ret rfl
 |true =>
 simp -implicitDefEqProofs only[go_sem];refine CO.intro i82 ?_;simp -implicitDefEqProofs only[go_sem];refine CO.intro i82 ?_;simp -implicitDefEqProofs only[go_sem];refine CO.intro b5 ?_
 cases h14:(noRl ⟨src,tgt,ra,rl,rh,eq⟩) with
 |false =>
  simp -implicitDefEqProofs only[go_sem];exact Fini.ret rfl
 |true =>
 simp -implicitDefEqProofs only[go_sem];refine CO.intro i76 ?_;simp -implicitDefEqProofs only[go_sem];refine CO.intro b6 ?_;simp -implicitDefEqProofs only[go_sem];exact Fini.ret rfl
set_option maxHeartbeats 8000000 in
theorem zd3 (r:ReM) (hr:ReSm r) (hd:dOf r.op=S16):Ans Tryz.prog 89 [reV r] σ (Bo (docB r S16)) σ:=by
 obtain⟨tok,op,id,txt,st,en,sta,mt,any,lo,hi,⟨src,tgt,ra,rl,rh,eq⟩,ls,val⟩:=r;obtain⟨hm,hru,hls⟩:=hr;simp only at hm hru hls hd;have k1:=z0R σ op;rw[hd]at k1;have ii:=fun c h=>z2i σ S16 c h
 have i73:=ii 73 (by decide)
 have i84:=ii 84 (by decide)
 have i83:=ii 83 (by decide)
 have i90:=ii 90 (by decide)
 have i77:=ii 77 (by decide)
 have i66:=ii 66 (by decide)
 have i82:=ii 82 (by decide)
 have i76:=ii 76 (by decide)
 simp only[hc_16]at i73 i84 i83 i90 i77 i66 i82 i76;have b0:=z2h σ txt;have b1:=z1a σ mt hm;have b2:=z1f σ (any,lo,hi);have b3:=z20 σ any lo hi;have b4:=z1C σ ⟨src,tgt,ra,rl,rh,eq⟩ hru;have b5:=z1q σ ⟨src,tgt,ra,rl,rh,eq⟩;have b6:=z21 σ ls hls;have b7:=z0K σ val;unfold bandV at b2;unfold ruV at b4 b5;unfold docB;simp only[hc_16,Bool.true_or,Bool.false_or,Bool.not_true,Bool.not_false,Bool.true_and,if_true,Bool.false_eq_true,if_false];refine Ans.of_run t89 ?_;unfold reV reC;simp -implicitDefEqProofs only[c89,r89,go_sem];refine CO.intro k1 ?_;simp -implicitDefEqProofs only[go_sem];refine CO.intro i73 ?_
 cases h0:(id==0) with
 |false =>
  have fh00:=ne_of h0;simp -implicitDefEqProofs only[go_sem,h0,fh00];exact Fini.ret rfl
 |true =>
 have fh00:=ne_of h0
 cases h1:(decide (0≤id)) with
 |false =>
  have fh10:=lt_of h1;simp -implicitDefEqProofs only[go_sem,h0,fh00,h1,fh10];exact Fini.ret rfl
 |true =>
 have fh10:=lt_of h1
 cases h2:(decide (id≤2147483647)) with
 |false =>
  have fh20:=gt_of h2;simp -implicitDefEqProofs only[go_sem,h0,fh00,h1,fh10,h2,fh20];exact Fini.ret rfl
 |true =>
 have fh20:=gt_of h2;simp -implicitDefEqProofs only[go_sem,h0,fh00,h1,fh10,h2,fh20];refine CO.intro i84 ?_;simp -implicitDefEqProofs only[go_sem];refine CO.intro i84 ?_;unfold emS
 cases h3:(txt.toList==(⟨#[]⟩:ByteArray).toList) with
 |false =>
  simp -implicitDefEqProofs only[go_sem,h3];exact Fini.ret rfl
 |true =>
 simp -implicitDefEqProofs only[go_sem,h3];refine CO.intro i83 ?_;unfold emU
 cases h4:(((st:Nat):Int)==0) with
 |false =>
  have fh40:=ne_of h4;simp -implicitDefEqProofs only[go_sem,h4,fh40];exact Fini.ret rfl
 |true =>
 have fh40:=ne_of h4
 cases h5:(((en:Nat):Int)==0) with
 |false =>
  have fh50:=ne_of h5;simp -implicitDefEqProofs only[go_sem,h4,fh40,h5,fh50];exact Fini.ret rfl
 |true =>
 have fh50:=ne_of h5;unfold clkB
 cases h6:(decide (((st:Nat):Int)≤1099511627776)) with
 |false =>
  have fh60:=gt_of h6;simp -implicitDefEqProofs only[go_sem,h4,fh40,h5,fh50,h6,fh60];exact Fini.ret rfl
 |true =>
 have fh60:=gt_of h6
 cases h7:(decide (((en:Nat):Int)≤1099511627776)) with
 |false =>
  have fh70:=gt_of h7;simp -implicitDefEqProofs only[go_sem,h4,fh40,h5,fh50,h6,fh60,h7,fh70];exact Fini.ret rfl
 |true =>
 have fh70:=gt_of h7;simp -implicitDefEqProofs only[go_sem,h4,fh40,h5,fh50,h6,fh60,h7,fh70];refine CO.intro i90 ?_
 cases h8:(sta==0) with
 |false =>
  have fh80:=ne_of h8;simp -implicitDefEqProofs only[go_sem,h8,fh80];exact Fini.ret rfl
 |true =>
 have fh80:=ne_of h8
 cases h9:(decide (0≤sta)) with
 |false =>
  have fh90:=lt_of h9;simp -implicitDefEqProofs only[go_sem,h8,fh80,h9,fh90];exact Fini.ret rfl
 |true =>
 have fh90:=lt_of h9
 cases h10:(decide (sta≤3)) with
 |false =>
  have fh100:=gt_of h10;simp -implicitDefEqProofs only[go_sem,h8,fh80,h9,fh90,h10,fh100];exact Fini.ret rfl
 |true =>
 have fh100:=gt_of h10;simp -implicitDefEqProofs only[go_sem,h8,fh80,h9,fh90,h10,fh100];refine CO.intro i77 ?_;simp -implicitDefEqProofs only[go_sem];refine CO.intro i83 ?_;simp -implicitDefEqProofs only[go_sem];refine CO.intro b1 ?_
 cases h11:(listB mt) with
 |false =>
  simp -implicitDefEqProofs only[go_sem];exact Fini.ret rfl
 |true =>
 simp -implicitDefEqProofs only[go_sem];refine CO.intro i66 ?_;simp -implicitDefEqProofs only[go_sem];refine CO.intro b2 ?_
 cases h12:(noBd (any,lo,hi)) with
 |false =>
  simp -implicitDefEqProofs only[go_sem];exact Fini.ret rfl
 |true =>
 simp -implicitDefEqProofs only[go_sem];refine CO.intro b3 ?_
 cases h13:(mayB any lo hi) with
 |false =>
  simp -implicitDefEqProofs only[go_sem];exact Fini.ret rfl
 |true =>
 simp -implicitDefEqProofs only[go_sem];refine CO.intro i82 ?_;simp -implicitDefEqProofs only[go_sem];refine CO.intro i82 ?_;simp -implicitDefEqProofs only[go_sem];refine CO.intro b5 ?_
 cases h14:(noRl ⟨src,tgt,ra,rl,rh,eq⟩) with
 |false =>
  simp -implicitDefEqProofs only[go_sem];exact Fini.ret rfl
 |true =>
 simp -implicitDefEqProofs only[go_sem];refine CO.intro i76 ?_;unfold emI zF
 cases h15:(((ls.length:Nat):Int)==0) with
 |false =>
  simp -implicitDefEqProofs only[go_sem,h15];exact Fini.ret rfl
 |true =>
 simp -implicitDefEqProofs only[go_sem,h15];refine CO.intro b7 ?_;simp -implicitDefEqProofs only[go_sem];exact Fini.ret rfl
end
theorem z2j (x:Bnd) (h:noBd x=true):mayB x.1 x.2.1 x.2.2=true:=by
 obtain⟨a,lo,hi⟩:=x;unfold noBd zF at h;simp only[Bool.and_eq_true,Bool.not_eq_true',beq_iff_eq]at h;obtain⟨rfl,h1,h2⟩:=h;have e1:=z2V (Int.ofNat.inj h1);have e2:=z2V (Int.ofNat.inj h2);subst e1 e2
 decide +kernel
theorem z50 (r:ReM):(zeroB r 0&&z0a r 0)=docB r S0:=by
 have hb:=z2j (r.any,r.lo,r.hi);unfold zeroB z0a docB idR staR;simp only[hs_0,hc_0,Bool.true_or,Bool.false_or,Bool.not_true,Bool.not_false,Bool.true_and,if_true,Bool.false_eq_true,if_false,Bool.and_assoc];rw[Bool.eq_iff_iff];simp only[Bool.and_eq_true];simp only at hb;constructor
 · intro h;simp only[h,hb,and_self,true_and,and_true]
 · intro h;simp only[h,hb,and_self,true_and,and_true]
theorem z4h (r:ReM):(zeroB r 1&&z0a r 1)=docB r S1:=by
 have hb:=z2j (r.any,r.lo,r.hi);unfold zeroB z0a docB idR staR;simp only[hs_1,hc_1,Bool.true_or,Bool.false_or,Bool.not_true,Bool.not_false,Bool.true_and,if_true,Bool.false_eq_true,if_false,Bool.and_assoc];rw[Bool.eq_iff_iff];simp only[Bool.and_eq_true];simp only at hb;constructor
 · intro h;simp only[h,hb,and_self,true_and,and_true]
 · intro h;simp only[h,hb,and_self,true_and,and_true]
theorem zam (r:ReM):(zeroB r 3&&z0a r 3)=docB r S3:=by
 have hb:=z2j (r.any,r.lo,r.hi);unfold zeroB z0a docB idR staR;simp only[hs_3,hc_3,Bool.true_or,Bool.false_or,Bool.not_true,Bool.not_false,Bool.true_and,if_true,Bool.false_eq_true,if_false,Bool.and_assoc];rw[Bool.eq_iff_iff];simp only[Bool.and_eq_true];simp only at hb;constructor
 · intro h;simp only[h,hb,and_self,true_and,and_true]
 · intro h;simp only[h,hb,and_self,true_and,and_true]
theorem zbh (r:ReM):(zeroB r 116&&z0a r 116)=docB r S116:=by
 have hb:=z2j (r.any,r.lo,r.hi);unfold zeroB z0a docB idR staR;simp only[z5S,zcZ,Bool.true_or,Bool.false_or,Bool.not_true,Bool.not_false,Bool.true_and,if_true,Bool.false_eq_true,if_false,Bool.and_assoc];rw[Bool.eq_iff_iff];simp only[Bool.and_eq_true];simp only at hb;constructor
 · intro h;simp only[h,hb,and_self,true_and,and_true]
 · intro h;simp only[h,hb,and_self,true_and,and_true]
theorem zbi (r:ReM):(zeroB r 117&&z0a r 117)=docB r S117:=by
 have hb:=z2j (r.any,r.lo,r.hi);unfold zeroB z0a docB idR staR;simp only[z5T,zd0,Bool.true_or,Bool.false_or,Bool.not_true,Bool.not_false,Bool.true_and,if_true,Bool.false_eq_true,if_false,Bool.and_assoc];rw[Bool.eq_iff_iff];simp only[Bool.and_eq_true];simp only at hb;constructor
 · intro h;simp only[h,hb,and_self,true_and,and_true]
 · intro h;simp only[h,hb,and_self,true_and,and_true]
theorem zeA (r:ReM):(zeroB r 8&&z0a r 8)=docB r S8:=by
 have hb:=z2j (r.any,r.lo,r.hi);unfold zeroB z0a docB idR staR;simp only[hs_8,hc_8,Bool.true_or,Bool.false_or,Bool.not_true,Bool.not_false,Bool.true_and,if_true,Bool.false_eq_true,if_false,Bool.and_assoc];rw[Bool.eq_iff_iff];simp only[Bool.and_eq_true];simp only at hb;constructor
 · intro h;simp only[h,hb,and_self,true_and,and_true]
 · intro h;simp only[h,hb,and_self,true_and,and_true]
theorem zbj (r:ReM):(zeroB r 128&&z0a r 128)=docB r S128:=by
 have hb:=z2j (r.any,r.lo,r.hi);unfold zeroB z0a docB idR staR;simp only[hs_128,zd1,Bool.true_or,Bool.false_or,Bool.not_true,Bool.not_false,Bool.true_and,if_true,Bool.false_eq_true,if_false,Bool.and_assoc];rw[Bool.eq_iff_iff];simp only[Bool.and_eq_true];simp only at hb;constructor
 · intro h;simp only[h,hb,and_self,true_and,and_true]
 · intro h;simp only[h,hb,and_self,true_and,and_true]
theorem zbk (r:ReM):(zeroB r 768&&z0a r 768)=docB r S768:=by
 have hb:=z2j (r.any,r.lo,r.hi);unfold zeroB z0a docB idR staR;simp only[hs_768,zd2,Bool.true_or,Bool.false_or,Bool.not_true,Bool.not_false,Bool.true_and,if_true,Bool.false_eq_true,if_false,Bool.and_assoc];rw[Bool.eq_iff_iff];simp only[Bool.and_eq_true];simp only at hb;constructor
 · intro h;simp only[h,hb,and_self,true_and,and_true]
 · intro h;simp only[h,hb,and_self,true_and,and_true]
theorem zd4 (r:ReM):(zeroB r 16&&z0a r 16)=docB r S16:=by
 have hb:=z2j (r.any,r.lo,r.hi);unfold zeroB z0a docB idR staR;simp only[hs_16,hc_16,Bool.true_or,Bool.false_or,Bool.not_true,Bool.not_false,Bool.true_and,if_true,Bool.false_eq_true,if_false,Bool.and_assoc];rw[Bool.eq_iff_iff];simp only[Bool.and_eq_true];simp only at hb;constructor
 · intro h;simp only[h,hb,and_self,true_and,and_true]
 · intro h;simp only[h,hb,and_self,true_and,and_true]
section
variable (σ:St)
theorem zd5 (r:ReM) (hd:dOf r.op=⟨#[]⟩):Ans Tryz.prog 89 [reV r] σ (Bo false) σ:=by
 have k1:=z0R σ r.op;rw[hd]at k1;have hn:((⟨#[]⟩:ByteArray).toList==(⟨#[]⟩:ByteArray).toList)=true:=by decide +kernel
 refine Ans.of_run t89 ?_;unfold reV reC;simp -implicitDefEqProofs only[c89,r89,go_sem];refine CO.intro k1 ?_;simp -implicitDefEqProofs only[go_sem,hn];exact Fini.ret rfl
theorem zbl (r:ReM) (hr:ReSm r):Ans Tryz.prog 89 [reV r] σ (Bo (mayR r)) σ:=by
 unfold mayR;rcases ops17 r.op with h|h|h|h|h|h|h|h|h|h|h|h|h|h|h|h|h|h
 · have e:fOf r.op=(0,true):=by rw[h];rfl
   rw[e];simp only[Bool.true_and];rw[z50];exact z4Z σ r hr (by rw[h];rfl)
 · have e:fOf r.op=(1,true):=by rw[h];rfl
   rw[e];simp only[Bool.true_and];rw[z4h];exact z4g σ r hr (by rw[h];rfl)
 · have e:fOf r.op=(3,true):=by rw[h];rfl
   rw[e];simp only[Bool.true_and];rw[zam];exact zal σ r hr (by rw[h];rfl)
 · have e:fOf r.op=(3,true):=by rw[h];rfl
   rw[e];simp only[Bool.true_and];rw[zam];exact zal σ r hr (by rw[h];rfl)
 · have e:fOf r.op=(116,true):=by rw[h];rfl
   rw[e];simp only[Bool.true_and];rw[zbh];exact zbd σ r hr (by rw[h];rfl)
 · have e:fOf r.op=(117,true):=by rw[h];rfl
   rw[e];simp only[Bool.true_and];rw[zbi];exact zbe σ r hr (by rw[h];rfl)
 · have e:fOf r.op=(1,true):=by rw[h];rfl
   rw[e];simp only[Bool.true_and];rw[z4h];exact z4g σ r hr (by rw[h];rfl)
 · have e:fOf r.op=(8,true):=by rw[h];rfl
   rw[e];simp only[Bool.true_and];rw[zeA];exact zez σ r hr (by rw[h];rfl)
 · have e:fOf r.op=(128,true):=by rw[h];rfl
   rw[e];simp only[Bool.true_and];rw[zbj];exact zbf σ r hr (by rw[h];rfl)
 · have e:fOf r.op=(1,true):=by rw[h];rfl
   rw[e];simp only[Bool.true_and];rw[z4h];exact z4g σ r hr (by rw[h];rfl)
 · have e:fOf r.op=(768,true):=by rw[h];rfl
   rw[e];simp only[Bool.true_and];rw[zbk];exact zbg σ r hr (by rw[h];rfl)
 · have e:fOf r.op=(1,true):=by rw[h];rfl
   rw[e];simp only[Bool.true_and];rw[z4h];exact z4g σ r hr (by rw[h];rfl)
 · have e:fOf r.op=(16,true):=by rw[h];rfl
   rw[e];simp only[Bool.true_and];rw[zd4];exact zd3 σ r hr (by rw[h];rfl)
 · have e:fOf r.op=(0,true):=by rw[h];rfl
   rw[e];simp only[Bool.true_and];rw[z50];exact z4Z σ r hr (by rw[h];rfl)
 · have e:fOf r.op=(1,true):=by rw[h];rfl
   rw[e];simp only[Bool.true_and];rw[z4h];exact z4g σ r hr (by rw[h];rfl)
 · have e:fOf r.op=(0,true):=by rw[h];rfl
   rw[e];simp only[Bool.true_and];rw[z50];exact z4Z σ r hr (by rw[h];rfl)
 · have e:fOf r.op=(0,true):=by rw[h];rfl
   rw[e];simp only[Bool.true_and];rw[z50];exact z4Z σ r hr (by rw[h];rfl)
 · rw[zcM h];exact zd5 σ r (zf8 h)
end
section
variable (σ:St)
theorem z7n (n:Nat) (hn:n<18446744073709551616):Ans Tryz.prog 75 [UN n] σ (.sl 1 (byv (putN n))) σ:=(z4X σ n hn).shut (by rw[z04]) (z1F _ _)
theorem z8m (r:RuM) (hr:RSm r):Ans Tryz.prog 20 [ruV r] σ (.sl 1 (byv (z1t r))) σ:=by
 have hi:=fun s=>z1C s r hr
 unfold z1t
 cases hR:ruIs r with
 |false =>
  have:Ans Tryz.prog 20 [ruV r] σ .nils σ:=by
   refine Ans.of_run t20 ?_;unfold ruV at hi⊢;simp -implicitDefEqProofs only[c20,r20,go_sem];refine CO.intro (hi _) ?_;rw[hR];simp -implicitDefEqProofs only[go_sem];exact Fini.ret rfl
  exact this.subR (.nils 1)
 |true =>
  obtain⟨h1,h2,h3,h4,h5⟩:=z1X hR;have hpl:=z4Y hR;have m1:=fun s=>z6D s r.src hr.src h1
  have m2:=fun s=>z6E s r.tgt hr.tgt
  have e2:z0S r.tgt=putL r.tgt:=by unfold z0S;rw[h2];rfl
  rw[e2]at m2;have b1:=fun s=>z3F s (r.any,r.lo,r.hi)
  unfold bandV at b1;have n1:=fun s=>z7n s r.eq.length (by omega)
  have hw:=z1y (n:=r.eq.length) (by omega)
  have hl0:=z8h hR
  have e3:byv (putL r.src)++byv (putL r.tgt)++byv (putBd (r.any,r.lo,r.hi))++byv (putN r.eq.length)=byv (preR r 0):=by
   rw[z5O,headR];simp only[z0l,List.append_assoc]
  have e4:(putL r.src).length+(putL r.tgt).length+(putBd (r.any,r.lo,r.hi)).length+(putN r.eq.length).length=(preR r 0).length:=by
   rw[z5O,headR];simp only[List.length_append];omega
  have hp0:=hpl 0 (Nat.zero_le _);rw[←e4]at hp0;have q1:(putL r.src).length+(putL r.tgt).length≤4294967296:=by omega
  have q2:(putL r.src).length+(putL r.tgt).length+(putBd (r.any,r.lo,r.hi)).length≤4294967296:=by omega
  have q3:(putL r.src).length+(putL r.tgt).length+(putBd (r.any,r.lo,r.hi)).length+(putN r.eq.length).length≤4294967296:=by omega
  refine Ans.of_run' t20 (fun hbel _=>?_)
  unfold ruV at hi⊢;simp -implicitDefEqProofs only[c20,r20,go_sem];refine CO.intro (hi _) ?_;rw[hR];simp -implicitDefEqProofs only[go_sem];refine CD.intro (m1 _) ?_;simp -implicitDefEqProofs only[go_sem];refine CD.intro (m2 _) ?_;simp -implicitDefEqProofs only[go_sem,g0,s0,z04,z0o,bc,q1,List.length_append];refine CD.intro (b1 _) ?_;simp -implicitDefEqProofs only[go_sem,g0,s0,z04,z0o,bc,q1,q2,z0F,hw,List.length_append];refine CO.intro (n1 _) ?_;simp -implicitDefEqProofs only[go_sem,g0,s0,z04,z0o,bc,q1,q2,q3,z0F,hw,List.length_append];refine Go.Ab.L.count r.eq.length (fun i=>mkE 42 [(1,.rp [.sl 3 (mvs3 r.src),.sl 3 (mvs3 r.tgt),Bo r.any,Fl r.lo,Fl r.hi,.sl 1 (txs r.eq)]),(3,.osl σ.length (preR r i).length),(4,I i)]) (fun i=>σ++[.row 1 (byv (preR r i))]) ?_ ?_ (by rw[←e4];rfl) (by rw[←e3])
  · intro i hi J hJ;have hx:=zcp r.eq i hi;have hs:=h5 r.eq[i] (List.getElem_mem hi);have hp:=hpl (i+1) (by omega)
    rw[z8g r i hi]at hJ hp;generalize r.eq[i]=s at hx hs hJ hp;generalize preR r i=pre at hJ hp⊢;have hin:=wrap_succ (i:=i) (by omega)
    rw[List.length_append]at hp hJ;have l1:pre.length+(txtB s).length≤4294967296:=by omega
    simp -implicitDefEqProofs only[mkE,go_sem,z0F,z0c hi,dec_lt hi,hx];refine CO.intro (z1H _ s (by omega)) ?_
    simp -implicitDefEqProofs only[go_sem,g0,s0,z04,z0o,bc,l1,hin];simp only[z0l]at hJ;exact hJ
  · intro J;have d0:decide ((r.eq.length:Int)<r.eq.length)=false:=by simp
    simp -implicitDefEqProofs only[mkE,go_sem,z0F,d0,g0,s0,z04,z7i];exact Fini.trim2 (σ':=σ) (ex:=[_]) rfl rfl (Nat.le_refl _) (z1F _ _) hbel
end
end Go.Proofs.YtmkmhhjkdaklbaaGreat
