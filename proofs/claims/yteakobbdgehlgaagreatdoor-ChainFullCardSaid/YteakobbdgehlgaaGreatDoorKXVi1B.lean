/- What the functions do, over abstract values: printed by a program, checked by the kernel. No condition. -/
import Derived.Test.YteakobbdgehlgaaGreatDoorProg
import Derived.Test.YteakobbdgehlgaaGreatDoorAbStepB
import Derived.Test.YteakobbdgehlgaaGreatDoorKMCode2B
import Derived.Test.YteakobbdgehlgaaGreatDoorAbSXB
import Derived.Test.YteakobbdgehlgaaGreatDoorAbArgB
set_option linter.unusedSimpArgs false
set_option linter.unusedVariables false
set_option linter.unusedSectionVars false
namespace Go.Proofs.YteakobbdgehlgaaGreatDoor
open Go Go.Ab
set_option maxRecDepth 100000
def c143:ACode :=
 (sq_ [pr_ 2 mf_]
 (.seq (sq_ [mv_ 5 0,
 pr_ 6 (.lenv (.tmp 5)),
 pr_ 7 (bk_ .gtr 6 .i64 5)]
 (.cond (.tmp 7)
 (sq_ [pr_ 2 mf_]
 .ret)
 .skip))
 (.seq (sq_ [mv_ 8 0,
 pr_ 9 (.lenv (.tmp 8)),
 pr_ 10 (mi_ .i64 0)]
 (.block 0 (.loop [1,2,3,4,5,6,7,11,12,13,14,15,16,17,18,19,20,21,22,23,24,25,26,27,28,29,30,31,32] (sq_ [pr_ 11 (bt_ .lss 10 9)]
 (.seq (.cond (.tmp 11)
 .skip
 (.exit 0))
 (.seq (.block 1 (sq_ [mv_ 12 10,
 pr_ 13 (.iadrs 3 (.tmp 8) (.tmp 10)),
 pr_ 14 (lt_ 3 13),
 pr_ 4 (.allocm [.pl (.int .i64 0),.pl (.string .empty),.pl (.string .empty)]),
 mv_ 3 12,
 st_ (so_ 3 4 14)]
 (.seq (.draw [⟨pr_ 15 (lt_ 3 4),[],false,0,0⟩,
 ⟨c1_ 16 155 15,[0],true,0,0⟩,
 ⟨pr_ 17 (no_ 16),[0,1],false,1,1⟩,
 ⟨mv_ 18 17,[0,1,2],false,1,1⟩,
 ⟨gp_ 19 18 false (mo_ 3),[0,1,2,3],false,1,1⟩,
 ⟨gp_ 20 18 false (bk_ .gtr 19 .i64 0),[0,1,2,3,4],false,1,1⟩,
 ⟨gp_ 21 18 false (mo_ 20),(List.range 6),false,1,1⟩,
 ⟨gp_ 22 21 true (mo_ 0),(List.range 7),false,1,1⟩,
 ⟨gp_ 23 21 true (mo_ 3),(List.range 7),false,1,1⟩,
 ⟨gp_ 24 21 true (bk_ .sub 23 .i64 1),[0,1,2,3,4,5,6,8],false,1,1⟩,
 ⟨gp_ 25 21 true (.iadrs 3 (.tmp 22) (.tmp 24)),(List.range 10),false,1,1⟩,
 ⟨gp_ 26 21 true (lt_ 3 25),(List.range 11),false,1,1⟩,
 ⟨gp_ 27 21 true (lt_ 3 4),(List.range 7),false,1,1⟩,
 ⟨gc_ 28 21 true 156 [(.tmp 26),(.tmp 27)],(List.range 13),true,0,0⟩,
 ⟨gp_ 29 21 true (bk_ .geq 28 .i64 0),(List.range 14),false,2,2⟩,
 ⟨gp_ 30 18 false (pa_ 21 29),(List.range 15),false,2,2⟩,
 ⟨pr_ 31 (po_ 18 30),(List.range 16),false,2,2⟩])
 (.cond (.tmp 31)
 (sq_ [pr_ 2 mf_]
 .ret)
 .skip))))
 (.after (.after (.ops [pr_ 32 (bk_ .add 10 .i64 1),
 mv_ 10 32]) (.clear [4])) (.keep 0))))))))
 (sq_ [pr_ 2 mt_]
 .ret))))
def o143:List Tmp:=[4]
def r143:List RV:=[.tmp 2]
theorem t143:Text Tryz.prog 143 o143 c143 r143 33:=.mk_ Tryz.f143 rfl
def c144:ACode :=
 (sq_ [pr_ 2 (.mov (.const (.float Go.FloatKind.f64 0)))]
 (sq_ [mv_ 6 0,
 c1_ 7 130 6,
 c1_ 8 129 7,
 mv_ 5 8,
 pr_ 9 (ex_ 0 5),
 pr_ 10 (ex_ 1 5),
 mv_ 3 9,
 mv_ 4 10]
 (sq_ [mv_ 11 0,
 mv_ 12 4,
 cl_ 13 120 [(.tmp 11),(.tmp 12)]]
 (sq_ [mv_ 14 3,
 mv_ 2 14]
 .ret))))
def o144:List Tmp:=[]
def r144:List RV:=[.tmp 2]
theorem t144:Text Tryz.prog 144 o144 c144 r144 15:=.mk_ Tryz.f144 rfl
def c145:ACode :=
 (sq_ [pr_ 1 (.boxr (.tmp 0)),
 pr_ 2 mf_]
 (.seq (sq_ [pr_ 3 (fa_ 0 1),
 pr_ 4 (lf_ 1 3)]
 (.cond (.tmp 4)
 (sq_ [pr_ 5 (fa_ 1 1),
 pr_ 6 (lf_ 1 5),
 c1_ 7 149 6,
 pr_ 8 (bk_ .eql 7 .u64 0),
 mv_ 9 8,
 gp_ 10 9 true (fa_ 2 1),
 gp_ 11 9 true (lf_ 1 10),
 gc_ 12 9 true 149 [(.tmp 11)],
 gp_ 13 9 true (bk_ .eql 12 .u64 0),
 pr_ 14 (pa_ 9 13),
 mv_ 2 14]
 .ret)
 .skip))
 (sq_ [pr_ 15 (fa_ 1 1),
 pr_ 16 (lf_ 1 15),
 pr_ 17 (fa_ 2 1),
 pr_ 18 (lf_ 1 17),
 pr_ 19 (bt_ .leq 16 18),
 mv_ 2 19]
 .ret)))
def o145:List Tmp:=[]
def r145:List RV:=[.tmp 2]
theorem t145:Text Tryz.prog 145 o145 c145 r145 20:=.mk_ Tryz.f145 rfl
def c146:ACode :=
 (sq_ [pr_ 1 (.boxr (.tmp 0)),
 pr_ 2 mf_]
 (.seq (sq_ [pr_ 5 (fa_ 0 1),
 pr_ 6 (lf_ 1 5),
 pr_ 7 (.lenv (.tmp 6)),
 pr_ 8 (bk_ .eql 7 .i64 0),
 mv_ 9 8,
 gp_ 10 9 false (fa_ 1 1),
 gp_ 11 9 false (lf_ 1 10),
 gp_ 12 9 false (.lenv (.tmp 11)),
 gp_ 13 9 false (bk_ .eql 12 .i64 0),
 pr_ 14 (po_ 9 13),
 mv_ 15 14,
 gp_ 16 15 false (fa_ 0 1),
 gp_ 17 15 false (lf_ 1 16),
 gc_ 18 15 false 143 [(.tmp 17)],
 gp_ 19 15 false (no_ 18),
 pr_ 20 (po_ 15 19),
 mv_ 21 20,
 gp_ 22 21 false (fa_ 1 1),
 gp_ 23 21 false (lf_ 1 22),
 gc_ 24 21 false 143 [(.tmp 23)],
 gp_ 25 21 false (no_ 24),
 pr_ 26 (po_ 21 25),
 mv_ 27 26,
 gp_ 28 27 false (fa_ 2 1),
 gp_ 29 27 false (lt_ 3 28),
 gc_ 30 27 false 145 [(.tmp 29)],
 gp_ 31 27 false (no_ 30),
 pr_ 32 (po_ 27 31),
 mv_ 33 32,
 gp_ 34 33 false (fa_ 5 1),
 gp_ 35 33 false (lf_ 1 34),
 gp_ 36 33 false (.lenv (.tmp 35)),
 gp_ 37 33 false (bk_ .gtr 36 .i64 4),
 pr_ 38 (po_ 33 37)]
 (.cond (.tmp 38)
 (sq_ [pr_ 2 mf_]
 .ret)
 .skip))
 (.seq (sq_ [pr_ 39 (fa_ 5 1),
 pr_ 40 (lf_ 1 39),
 pr_ 41 (.lenv (.tmp 40)),
 pr_ 42 (mi_ .i64 0)]
 (.block 0 (.loop [0,2,3,4,5,6,7,8,9,10,11,12,13,14,15,16,17,18,19,20,21,22,23,24,25,26,27,28,29,30,31,32,33,34,35,36,37,38,39,43,44,45,46,47,48,49,50,51,52,53,54,55,56,57,58,59,60,61,62,63,64] (sq_ [pr_ 43 (bt_ .lss 42 41)]
 (.seq (.cond (.tmp 43)
 .skip
 (.exit 0))
 (.seq (.block 1 (sq_ [mv_ 44 42,
 pr_ 45 (.iadrs 1 (.tmp 40) (.tmp 42)),
 pr_ 46 (lf_ 1 45),
 mv_ 3 44,
 mv_ 4 46]
 (sq_ [mv_ 47 4,
 c1_ 48 157 47,
 pr_ 49 (no_ 48),
 mv_ 50 49,
 gp_ 51 50 false (mo_ 3),
 gp_ 52 50 false (bk_ .gtr 51 .i64 0),
 gp_ 53 50 false (mo_ 52),
 gp_ 54 53 true (mo_ 4),
 gp_ 55 53 true (fa_ 5 1),
 gp_ 56 53 true (lf_ 1 55),
 gp_ 57 53 true (mo_ 3),
 gp_ 58 53 true (bk_ .sub 57 .i64 1),
 gp_ 59 53 true (.iadrs 1 (.tmp 56) (.tmp 58)),
 gp_ 60 53 true (lf_ 1 59),
 gp_ 61 53 true (bt_ .leq 54 60),
 gp_ 62 50 false (pa_ 53 61),
 pr_ 63 (po_ 50 62)]
 (.cond (.tmp 63)
 (sq_ [pr_ 2 mf_]
 .ret)
 .skip))))
 (.ops [pr_ 64 (bk_ .add 42 .i64 1),
 mv_ 42 64])))))))
 (sq_ [pr_ 2 mt_]
 .ret))))
def o146:List Tmp:=[]
def r146:List RV:=[.tmp 2]
theorem t146:Text Tryz.prog 146 o146 c146 r146 65:=.mk_ Tryz.f146 rfl
def c147:ACode :=
 (sq_ [pr_ 2 mf_]
 (.seq (sq_ [mv_ 5 0,
 pr_ 6 (.lenv (.tmp 5)),
 pr_ 7 (bk_ .lss 6 .i64 1),
 mv_ 8 7,
 gp_ 9 8 false (mo_ 0),
 gp_ 10 8 false (.lenv (.tmp 9)),
 gp_ 11 8 false (bk_ .gtr 10 .i64 6),
 pr_ 12 (po_ 8 11)]
 (.cond (.tmp 12)
 (sq_ [pr_ 2 mf_]
 .ret)
 .skip))
 (.seq (sq_ [mv_ 13 0,
 pr_ 14 (.lenv (.tmp 13)),
 pr_ 15 (mi_ .i64 0)]
 (.block 0 (.loop [1,2,3,4,5,6,7,8,9,10,11,12,16,17,18,19,20,21,22,23,24,25,26,27,28,29,30,31,32,33,34,35,36,37,38,39,40,41,42,43,44,45] (sq_ [pr_ 16 (bt_ .lss 15 14)]
 (.seq (.cond (.tmp 16)
 .skip
 (.exit 0))
 (.seq (.block 1 (sq_ [mv_ 17 15,
 pr_ 18 (.iadrs 2 (.tmp 13) (.tmp 15)),
 pr_ 19 (lt_ 2 18),
 pr_ 4 (.allocm [.pl (.string .empty),.pl (.string .empty)]),
 mv_ 3 17,
 st_ (so_ 2 4 19)]
 (.seq (.after (.after (.draw [⟨pr_ 20 (fa_ 0 4),[],false,0,0⟩,
 ⟨pr_ 21 (lf_ 1 20),[0],false,0,0⟩,
 ⟨c1_ 22 157 21,[0,1],true,0,0⟩,
 ⟨pr_ 23 (no_ 22),[0,1,2],false,1,1⟩,
 ⟨mv_ 24 23,[0,1,2,3],false,1,1⟩,
 ⟨gp_ 25 24 false (fa_ 1 4),[0,1,2,3,4],false,1,1⟩,
 ⟨gp_ 26 24 false (lf_ 1 25),(List.range 6),false,1,1⟩,
 ⟨gc_ 27 24 false 158 [(.tmp 26)],(List.range 7),true,0,0⟩,
 ⟨gp_ 28 24 false (no_ 27),(List.range 8),false,2,2⟩,
 ⟨pr_ 29 (po_ 24 28),(List.range 9),false,2,2⟩,
 ⟨mv_ 30 29,(List.range 10),false,2,2⟩,
 ⟨gp_ 31 30 false (mo_ 3),(List.range 11),false,2,2⟩,
 ⟨gp_ 32 30 false (bk_ .gtr 31 .i64 0),(List.range 12),false,2,2⟩,
 ⟨gp_ 33 30 false (mo_ 32),(List.range 13),false,2,2⟩,
 ⟨gp_ 34 33 true (fa_ 0 4),(List.range 14),false,2,2⟩,
 ⟨gp_ 35 33 true (lf_ 1 34),(List.range 15),false,2,2⟩,
 ⟨gp_ 36 33 true (mo_ 0),(List.range 14),false,2,2⟩,
 ⟨gp_ 37 33 true (mo_ 3),(List.range 14),false,2,2⟩,
 ⟨gp_ 38 33 true (bk_ .sub 37 .i64 1),[0,1,2,3,4,5,6,7,8,9,10,11,12,13,17],false,2,2⟩,
 ⟨gp_ 39 33 true (.iadrs 2 (.tmp 36) (.tmp 38)),[0,1,2,3,4,5,6,7,8,9,10,11,12,13,16,17,18],false,2,2⟩,
 ⟨gp_ 40 33 true (fa_ 0 39),[0,1,2,3,4,5,6,7,8,9,10,11,12,13,16,17,18,19],false,2,2⟩,
 ⟨gp_ 41 33 true (lf_ 1 40),[0,1,2,3,4,5,6,7,8,9,10,11,12,13,16,17,18,19,20],false,2,2⟩,
 ⟨gp_ 42 33 true (bt_ .leq 35 41),(List.range 22),false,2,2⟩,
 ⟨gp_ 43 30 false (pa_ 33 42),(List.range 23),false,2,2⟩,
 ⟨pr_ 44 (po_ 30 43),(List.range 24),false,2,2⟩]) (.clear [4,20,25,34])) (.keep 0))
 (.cond (.tmp 44)
 (sq_ [pr_ 2 mf_]
 .ret)
 .skip))))
 (.ops [pr_ 45 (bk_ .add 15 .i64 1),
 mv_ 15 45])))))))
 (sq_ [pr_ 2 mt_]
 .ret))))
def o147:List Tmp:=[]
def r147:List RV:=[.tmp 2]
theorem t147:Text Tryz.prog 147 o147 c147 r147 46:=.mk_ Tryz.f147 rfl
def c149:ACode :=
 (sq_ [pr_ 2 (mi_ .u64 0)]
 (.seq (sq_ [mv_ 3 0,
 c1_ 4 159 3]
 (.cond (.tmp 4)
 (sq_ [pr_ 2 (mi_ .u64 9221120237041090561)]
 .ret)
 .skip))
 (sq_ [mv_ 5 0,
 c1_ 6 111 5,
 mv_ 2 6]
 .ret)))
def o149:List Tmp:=[]
def r149:List RV:=[.tmp 2]
theorem t149:Text Tryz.prog 149 o149 c149 r149 7:=.mk_ Tryz.f149 rfl
def c150:ACode :=
 (sq_ [pr_ 2 (mi_ .u64 0),
 pr_ 3 mf_]
 (.seq (sq_ [mv_ 7 0,
 pr_ 8 (.lenv (.tmp 7)),
 pr_ 9 (bk_ .lss 8 .i64 8)]
 (.cond (.tmp 9)
 (sq_ [pr_ 2 (mi_ .u64 0),
 pr_ 3 mf_]
 .ret)
 .skip))
 (sq_ [pr_ 4 (mi_ .u64 0)]
 (.seq (sq_ [mv_ 10 0,
 pr_ 11 (.slcv 1 (.tmp 10) none (some (.const (.int .i64 8)))),
 pr_ 12 (.lenv (.tmp 11)),
 pr_ 13 (mi_ .i64 0)]
 (.block 0 (.loop [0,1,2,3,5,6,7,8,9,10,14,15,16,17,18,19,20,21,22,23] (sq_ [pr_ 14 (bt_ .lss 13 12)]
 (.seq (.cond (.tmp 14)
 .skip
 (.exit 0))
 (.seq (.block 1 (sq_ [pr_ 15 (.iadrs 1 (.tmp 11) (.tmp 13)),
 pr_ 16 (lf_ 1 15),
 mv_ 6 16]
 (.ops [mv_ 17 4,
 pr_ 18 (bk_ .shl 17 .u64 8),
 mv_ 19 6,
 pr_ 20 (.convi .u64 (.tmp 19)),
 pr_ 21 (bt_ .or 18 20),
 mv_ 4 21])))
 (.ops [pr_ 22 (bk_ .add 13 .i64 1),
 mv_ 13 22])))))))
 (sq_ [mv_ 23 4,
 mv_ 2 23,
 pr_ 3 mt_]
 .ret)))))
def o150:List Tmp:=[]
def r150:List RV:=[.tmp 2,.tmp 3]
theorem t150:Text Tryz.prog 150 o150 c150 r150 24:=.mk_ Tryz.f150 rfl
def c151:ACode :=
 (sq_ [pr_ 2 (.boxr (.tmp 0)),
 pr_ 4 mf_]
 (sq_ [mv_ 5 1,
 pr_ 6 (bk_ .and 5 .i64 1),
 pr_ 7 (bk_ .gtr 6 .i64 0),
 mv_ 8 7,
 gp_ 9 8 false (fa_ 2 2),
 gp_ 10 8 false (lf_ 1 9),
 gp_ 11 8 false (bk_ .eql 10 .i64 0),
 pr_ 12 (po_ 8 11),
 mv_ 13 12,
 gp_ 14 13 true (mo_ 1),
 gp_ 15 13 true (bk_ .and 14 .i64 2),
 gp_ 16 13 true (bk_ .gtr 15 .i64 0),
 gp_ 17 13 true (mo_ 16),
 gp_ 18 17 false (fa_ 3 2),
 gp_ 19 17 false (lf_ 1 18),
 gp_ 20 17 false (.bin false .eql (.tmp 19) (.const (.string (ByteArray.mk #[])))),
 gp_ 21 13 true (po_ 17 20),
 pr_ 22 (pa_ 13 21),
 mv_ 23 22,
 gp_ 24 23 true (mo_ 1),
 gp_ 25 23 true (bk_ .and 24 .i64 4),
 gp_ 26 23 true (bk_ .gtr 25 .i64 0),
 gp_ 27 23 true (mo_ 26),
 gp_ 28 27 false (fa_ 4 2),
 gp_ 29 27 false (lf_ 1 28),
 gp_ 30 27 false (bk_ .eql 29 .u64 0),
 gp_ 31 27 false (mo_ 30),
 gp_ 32 31 true (fa_ 5 2),
 gp_ 33 31 true (lf_ 1 32),
 gp_ 34 31 true (bk_ .eql 33 .u64 0),
 gp_ 35 27 false (pa_ 31 34),
 gp_ 36 23 true (po_ 27 35),
 pr_ 37 (pa_ 23 36),
 mv_ 38 37,
 gp_ 39 38 true (mo_ 1),
 gp_ 40 38 true (bk_ .and 39 .i64 8),
 gp_ 41 38 true (bk_ .gtr 40 .i64 0),
 gp_ 42 38 true (mo_ 41),
 gp_ 43 42 false (fa_ 6 2),
 gp_ 44 42 false (lf_ 1 43),
 gp_ 45 42 false (bk_ .eql 44 .i64 0),
 gp_ 46 38 true (po_ 42 45),
 pr_ 47 (pa_ 38 46),
 mv_ 48 47,
 gp_ 49 48 true (mo_ 1),
 gp_ 50 48 true (bk_ .and 49 .i64 16),
 gp_ 51 48 true (bk_ .gtr 50 .i64 0),
 gp_ 52 48 true (mo_ 51),
 gp_ 53 52 false (fa_ 7 2),
 gp_ 54 52 false (lf_ 1 53),
 gp_ 55 52 false (.lenv (.tmp 54)),
 gp_ 56 52 false (bk_ .eql 55 .i64 0),
 gp_ 57 48 true (po_ 52 56),
 pr_ 58 (pa_ 48 57),
 mv_ 59 58,
 gp_ 60 59 true (mo_ 1),
 gp_ 61 59 true (bk_ .and 60 .i64 64),
 gp_ 62 59 true (bk_ .gtr 61 .i64 0),
 gp_ 63 59 true (mo_ 62),
 gp_ 64 63 false (fa_ 8 2),
 gp_ 65 63 false (lt_ 3 64),
 gc_ 66 63 false 160 [(.tmp 65)],
 gp_ 67 59 true (po_ 63 66),
 pr_ 68 (pa_ 59 67),
 mv_ 69 68,
 gp_ 70 69 true (mo_ 1),
 gp_ 71 69 true (bk_ .and 70 .i64 128),
 gp_ 72 69 true (bk_ .gtr 71 .i64 0),
 gp_ 73 69 true (mo_ 72),
 gp_ 74 73 false (fa_ 11 2),
 gp_ 75 73 false (lt_ 6 74),
 gc_ 76 73 false 161 [(.tmp 75)],
 gp_ 77 69 true (po_ 73 76),
 pr_ 78 (pa_ 69 77),
 mv_ 79 78,
 gp_ 80 79 true (mo_ 1),
 gp_ 81 79 true (bk_ .and 80 .i64 256),
 gp_ 82 79 true (bk_ .gtr 81 .i64 0),
 gp_ 83 79 true (mo_ 82),
 gp_ 84 83 false (fa_ 17 2),
 gp_ 85 83 false (lf_ 1 84),
 gp_ 86 83 false (.lenv (.tmp 85)),
 gp_ 87 83 false (bk_ .eql 86 .i64 0),
 gp_ 88 79 true (po_ 83 87),
 pr_ 89 (pa_ 79 88),
 mv_ 90 89,
 gp_ 91 90 true (mo_ 1),
 gp_ 92 90 true (bk_ .and 91 .i64 512),
 gp_ 93 90 true (bk_ .gtr 92 .i64 0),
 gp_ 94 90 true (mo_ 93),
 gp_ 95 94 false (fa_ 18 2),
 gp_ 96 94 false (lf_ 1 95),
 gc_ 97 94 false 162 [(.tmp 96)],
 gp_ 98 90 true (po_ 94 97),
 pr_ 99 (pa_ 90 98),
 mv_ 4 99]
 .ret))
def o151:List Tmp:=[]
def r151:List RV:=[.tmp 4]
theorem t151:Text Tryz.prog 151 o151 c151 r151 100:=.mk_ Tryz.f151 rfl
def c152:ACode :=
 (sq_ [pr_ 2 (.boxr (.tmp 0)),
 pr_ 4 mf_]
 (sq_ [pr_ 5 (fa_ 2 2),
 pr_ 6 (lf_ 1 5),
 pr_ 7 (bk_ .geq 6 .i64 0),
 mv_ 8 7,
 gp_ 9 8 true (fa_ 2 2),
 gp_ 10 8 true (lf_ 1 9),
 gp_ 11 8 true (bk_ .leq 10 .i64 2147483647),
 pr_ 12 (pa_ 8 11),
 mv_ 13 12,
 gp_ 14 13 true (mo_ 1),
 gp_ 15 13 true (bk_ .and 14 .i64 2),
 gp_ 16 13 true (bk_ .eql 15 .i64 0),
 gp_ 17 13 true (mo_ 16),
 gp_ 18 17 false (fa_ 3 2),
 gp_ 19 17 false (lf_ 1 18),
 gc_ 20 17 false 163 [(.tmp 19)],
 gp_ 21 13 true (po_ 17 20),
 pr_ 22 (pa_ 13 21),
 mv_ 23 22,
 gp_ 24 23 true (fa_ 4 2),
 gp_ 25 23 true (lf_ 1 24),
 gp_ 26 23 true (bk_ .leq 25 .u64 1099511627776),
 pr_ 27 (pa_ 23 26),
 mv_ 28 27,
 gp_ 29 28 true (fa_ 5 2),
 gp_ 30 28 true (lf_ 1 29),
 gp_ 31 28 true (bk_ .leq 30 .u64 1099511627776),
 pr_ 32 (pa_ 28 31),
 mv_ 33 32,
 gp_ 34 33 true (fa_ 6 2),
 gp_ 35 33 true (lf_ 1 34),
 gp_ 36 33 true (bk_ .geq 35 .i64 0),
 pr_ 37 (pa_ 33 36),
 mv_ 38 37,
 gp_ 39 38 true (fa_ 6 2),
 gp_ 40 38 true (lf_ 1 39),
 gp_ 41 38 true (bk_ .leq 40 .i64 3),
 pr_ 42 (pa_ 38 41),
 mv_ 43 42,
 gp_ 44 43 true (fa_ 7 2),
 gp_ 45 43 true (lf_ 1 44),
 gc_ 46 43 true 143 [(.tmp 45)],
 pr_ 47 (pa_ 43 46),
 mv_ 48 47,
 gp_ 49 48 true (mo_ 1),
 gp_ 50 48 true (bk_ .and 49 .i64 32),
 gp_ 51 48 true (bk_ .eql 50 .i64 0),
 gp_ 52 48 true (mo_ 51),
 gp_ 53 52 false (fa_ 7 2),
 gp_ 54 52 false (lf_ 1 53),
 gp_ 55 52 false (.lenv (.tmp 54)),
 gp_ 56 52 false (bk_ .gtr 55 .i64 0),
 gp_ 57 48 true (po_ 52 56),
 pr_ 58 (pa_ 48 57),
 mv_ 59 58,
 gp_ 60 59 true (mo_ 1),
 gp_ 61 59 true (bk_ .and 60 .i64 64),
 gp_ 62 59 true (bk_ .eql 61 .i64 0),
 gp_ 63 59 true (mo_ 62),
 gp_ 64 63 false (fa_ 8 2),
 gp_ 65 63 false (lt_ 3 64),
 gc_ 66 63 false 145 [(.tmp 65)],
 gp_ 67 59 true (po_ 63 66),
 pr_ 68 (pa_ 59 67),
 mv_ 69 68,
 gp_ 70 69 true (mo_ 1),
 gp_ 71 69 true (bk_ .and 70 .i64 128),
 gp_ 72 69 true (bk_ .eql 71 .i64 0),
 gp_ 73 69 true (mo_ 72),
 gp_ 74 73 false (fa_ 11 2),
 gp_ 75 73 false (lt_ 6 74),
 gc_ 76 73 false 146 [(.tmp 75)],
 gp_ 77 69 true (po_ 73 76),
 pr_ 78 (pa_ 69 77),
 mv_ 79 78,
 gp_ 80 79 true (mo_ 1),
 gp_ 81 79 true (bk_ .and 80 .i64 256),
 gp_ 82 79 true (bk_ .eql 81 .i64 0),
 gp_ 83 79 true (mo_ 82),
 gp_ 84 83 false (fa_ 17 2),
 gp_ 85 83 false (lf_ 1 84),
 gc_ 86 83 false 147 [(.tmp 85)],
 gp_ 87 79 true (po_ 83 86),
 pr_ 88 (pa_ 79 87),
 mv_ 4 88]
 .ret))
def o152:List Tmp:=[]
def r152:List RV:=[.tmp 4]
theorem t152:Text Tryz.prog 152 o152 c152 r152 89:=.mk_ Tryz.f152 rfl
def c155:ACode :=
 (sq_ [pr_ 1 (.boxr (.tmp 0)),
 pr_ 2 mf_]
 (.seq (sq_ [pr_ 5 (fa_ 1 1),
 pr_ 6 (lf_ 1 5),
 c1_ 7 157 6,
 pr_ 8 (no_ 7)]
 (.cond (.tmp 8)
 (sq_ [pr_ 2 mf_]
 .ret)
 .skip))
 (.seq (sq_ [pr_ 9 (lt_ 3 1),
 c1_ 10 165 9]
 (.cond (.tmp 10)
 (sq_ [pr_ 12 (fa_ 2 1),
 pr_ 13 (lf_ 1 12),
 c1_ 14 166 13,
 mv_ 11 14,
 pr_ 15 (ex_ 0 11),
 pr_ 16 (ex_ 1 11),
 ⟨some 3,none,.fresh 6 3 (.tmp 15)⟩,
 mv_ 4 16]
 (sq_ [mv_ 17 4,
 mv_ 2 17]
 .ret))
 .skip))
 (sq_ [pr_ 18 (fa_ 0 1),
 pr_ 19 (lf_ 1 18),
 pr_ 20 (bk_ .eql 19 .i64 1),
 mv_ 21 20,
 gp_ 22 21 false (fa_ 0 1),
 gp_ 23 21 false (lf_ 1 22),
 gp_ 24 21 false (bk_ .eql 23 .i64 2),
 pr_ 25 (po_ 21 24),
 mv_ 26 25,
 gp_ 27 26 true (fa_ 2 1),
 gp_ 28 26 true (lf_ 1 27),
 gp_ 29 26 true (.lens (.tmp 28)),
 gp_ 30 26 true (bk_ .leq 29 .i64 24),
 pr_ 31 (pa_ 26 30),
 mv_ 2 31]
 .ret))))
def o155:List Tmp:=[]
def r155:List RV:=[.tmp 2]
theorem t155:Text Tryz.prog 155 o155 c155 r155 32:=.mk_ Tryz.f155 rfl
def c156:ACode :=
 (sq_ [pr_ 2 (.boxr (.tmp 0)),
 pr_ 3 (.boxr (.tmp 1)),
 pr_ 4 (mi_ .i64 0)]
 (.seq (.draw [⟨pr_ 5 (fa_ 1 2),[],false,0,0⟩,
 ⟨pr_ 6 (lf_ 1 5),[0],false,0,0⟩,
 ⟨pr_ 7 (fa_ 1 3),[],false,0,0⟩,
 ⟨pr_ 8 (lf_ 1 7),[2],false,0,0⟩,
 ⟨cl_ 9 168 [(.tmp 6),(.tmp 8)],[0,1,2,3],true,0,0⟩,
 ⟨pr_ 10 (fa_ 0 2),[],false,0,1⟩,
 ⟨pr_ 11 (lf_ 1 10),[5],false,0,1⟩,
 ⟨pr_ 12 (fa_ 0 3),[],false,0,1⟩,
 ⟨pr_ 13 (lf_ 1 12),[7],false,0,1⟩,
 ⟨cl_ 14 169 [(.tmp 11),(.tmp 13)],(List.range 9),true,0,0⟩,
 ⟨pr_ 15 (fa_ 2 2),[],false,0,2⟩,
 ⟨pr_ 16 (lf_ 1 15),[10],false,0,2⟩,
 ⟨pr_ 17 (fa_ 2 3),[],false,0,2⟩,
 ⟨pr_ 18 (lf_ 1 17),[12],false,0,2⟩,
 ⟨cl_ 19 168 [(.tmp 16),(.tmp 18)],(List.range 14),true,0,0⟩,
 ⟨pr_ 20 (.bsl false 1 false 3 [.pl (.int .i64 0)] [(0,1,(.tmp 9)),(1,1,(.tmp 14)),(2,1,(.tmp 19))]),(List.range 15),false,3,3⟩,
 ⟨c1_ 21 167 20,(List.range 16),true,0,0⟩,
 ⟨mv_ 4 21,(List.range 17),false,4,4⟩])
 .ret))
def o156:List Tmp:=[]
def r156:List RV:=[.tmp 4]
theorem t156:Text Tryz.prog 156 o156 c156 r156 22:=.mk_ Tryz.f156 rfl
def c157:ACode :=
 (sq_ [pr_ 2 mf_]
 (.seq (sq_ [mv_ 4 0,
 pr_ 5 (.lens (.tmp 4)),
 pr_ 6 (bk_ .lss 5 .i64 1),
 mv_ 7 6,
 gp_ 8 7 false (mo_ 0),
 gp_ 9 7 false (.lens (.tmp 8)),
 gp_ 10 7 false (bk_ .gtr 9 .i64 12),
 pr_ 11 (po_ 7 10),
 mv_ 12 11,
 gp_ 13 12 false (mo_ 0),
 gp_ 14 12 false (.idxs (.tmp 13) (.const (.int .i64 0))),
 gc_ 15 12 false 170 [(.tmp 14)],
 gp_ 16 12 false (no_ 15),
 pr_ 17 (po_ 12 16)]
 (.cond (.tmp 17)
 (sq_ [pr_ 2 mf_]
 .ret)
 .skip))
 (.seq (sq_ [mv_ 18 0,
 pr_ 19 (.lens (.tmp 18)),
 pr_ 20 (mi_ .i64 0)]
 (.block 0 (.loop [1,2,3,4,5,6,7,8,9,10,11,12,13,14,15,16,17,18,21,22,23,24,25,26,27,28,29,30,31,32,33,34,35,36,37,38,39,40] (sq_ [pr_ 21 (bt_ .lss 20 19)]
 (.seq (.cond (.tmp 21)
 .skip
 (.exit 0))
 (.seq (.block 1 (sq_ [mv_ 22 20,
 mv_ 3 22]
 (sq_ [mv_ 23 0,
 mv_ 24 3,
 pr_ 25 (.idxs (.tmp 23) (.tmp 24)),
 c1_ 26 170 25,
 pr_ 27 (no_ 26),
 mv_ 28 27,
 gp_ 29 28 true (mo_ 0),
 gp_ 30 28 true (mo_ 3),
 gp_ 31 28 true (.idxs (.tmp 29) (.tmp 30)),
 gp_ 32 28 true (bk_ .lss 31 .u8 48),
 gp_ 33 28 true (mo_ 32),
 gp_ 34 33 false (mo_ 0),
 gp_ 35 33 false (mo_ 3),
 gp_ 36 33 false (.idxs (.tmp 34) (.tmp 35)),
 gp_ 37 33 false (bk_ .gtr 36 .u8 57),
 gp_ 38 28 true (po_ 33 37),
 pr_ 39 (pa_ 28 38)]
 (.cond (.tmp 39)
 (sq_ [pr_ 2 mf_]
 .ret)
 .skip))))
 (.ops [pr_ 40 (bk_ .add 20 .i64 1),
 mv_ 20 40])))))))
 (sq_ [pr_ 2 mt_]
 .ret))))
def o157:List Tmp:=[]
def r157:List RV:=[.tmp 2]
theorem t157:Text Tryz.prog 157 o157 c157 r157 41:=.mk_ Tryz.f157 rfl
def c158:ACode :=
 (sq_ [pr_ 2 mf_]
 (sq_ [mv_ 3 0,
 pr_ 4 (.lens (.tmp 3)),
 pr_ 5 (bk_ .geq 4 .i64 1),
 mv_ 6 5,
 gp_ 7 6 true (mo_ 0),
 gp_ 8 6 true (.lens (.tmp 7)),
 gp_ 9 6 true (bk_ .leq 8 .i64 24),
 pr_ 10 (pa_ 6 9),
 mv_ 2 10]
 .ret))
def o158:List Tmp:=[]
def r158:List RV:=[.tmp 2]
theorem t158:Text Tryz.prog 158 o158 c158 r158 11:=.mk_ Tryz.f158 rfl
def c159:ACode :=
 (sq_ [pr_ 2 mf_]
 (sq_ [mv_ 3 0,
 mv_ 4 0,
 pr_ 5 (bt_ .neq 3 4),
 mv_ 2 5]
 .ret))
def o159:List Tmp:=[]
def r159:List RV:=[.tmp 2]
theorem t159:Text Tryz.prog 159 o159 c159 r159 6:=.mk_ Tryz.f159 rfl
def c160:ACode :=
 (sq_ [pr_ 1 (.boxr (.tmp 0)),
 pr_ 2 mf_]
 (sq_ [pr_ 3 (fa_ 0 1),
 pr_ 4 (lf_ 1 3),
 pr_ 5 (no_ 4),
 mv_ 6 5,
 gp_ 7 6 true (fa_ 1 1),
 gp_ 8 6 true (lf_ 1 7),
 gc_ 9 6 true 162 [(.tmp 8)],
 pr_ 10 (pa_ 6 9),
 mv_ 11 10,
 gp_ 12 11 true (fa_ 2 1),
 gp_ 13 11 true (lf_ 1 12),
 gc_ 14 11 true 162 [(.tmp 13)],
 pr_ 15 (pa_ 11 14),
 mv_ 2 15]
 .ret))
def o160:List Tmp:=[]
def r160:List RV:=[.tmp 2]
theorem t160:Text Tryz.prog 160 o160 c160 r160 16:=.mk_ Tryz.f160 rfl
def c161:ACode :=
 (sq_ [pr_ 1 (.boxr (.tmp 0)),
 pr_ 2 mf_]
 (sq_ [pr_ 3 (fa_ 0 1),
 pr_ 4 (lf_ 1 3),
 pr_ 5 (.lenv (.tmp 4)),
 pr_ 6 (bk_ .eql 5 .i64 0),
 mv_ 7 6,
 gp_ 8 7 true (fa_ 1 1),
 gp_ 9 7 true (lf_ 1 8),
 gp_ 10 7 true (.lenv (.tmp 9)),
 gp_ 11 7 true (bk_ .eql 10 .i64 0),
 pr_ 12 (pa_ 7 11),
 mv_ 13 12,
 gp_ 14 13 true (fa_ 5 1),
 gp_ 15 13 true (lf_ 1 14),
 gp_ 16 13 true (.lenv (.tmp 15)),
 gp_ 17 13 true (bk_ .eql 16 .i64 0),
 pr_ 18 (pa_ 13 17),
 mv_ 19 18,
 gp_ 20 19 true (fa_ 2 1),
 gp_ 21 19 true (lt_ 3 20),
 gc_ 22 19 true 160 [(.tmp 21)],
 pr_ 23 (pa_ 19 22),
 mv_ 2 23]
 .ret))
def o161:List Tmp:=[]
def r161:List RV:=[.tmp 2]
theorem t161:Text Tryz.prog 161 o161 c161 r161 24:=.mk_ Tryz.f161 rfl
def c162:ACode :=
 (sq_ [pr_ 2 mf_]
 (sq_ [mv_ 3 0,
 c1_ 4 149 3,
 pr_ 5 (bk_ .eql 4 .u64 0),
 mv_ 2 5]
 .ret))
def o162:List Tmp:=[]
def r162:List RV:=[.tmp 2]
theorem t162:Text Tryz.prog 162 o162 c162 r162 6:=.mk_ Tryz.f162 rfl
def c163:ACode :=
 (sq_ [pr_ 2 mf_]
 (sq_ [mv_ 3 0,
 pr_ 4 (.lens (.tmp 3)),
 pr_ 5 (bk_ .geq 4 .i64 4),
 mv_ 6 5,
 gp_ 7 6 true (mo_ 0),
 gp_ 8 6 true (.lens (.tmp 7)),
 gp_ 9 6 true (bk_ .leq 8 .i64 16),
 pr_ 10 (pa_ 6 9),
 mv_ 2 10]
 .ret))
def o163:List Tmp:=[]
def r163:List RV:=[.tmp 2]
theorem t163:Text Tryz.prog 163 o163 c163 r163 11:=.mk_ Tryz.f163 rfl
def c165:ACode :=
 (sq_ [pr_ 1 (.boxr (.tmp 0)),
 pr_ 2 mf_]
 (sq_ [pr_ 3 (fa_ 0 1),
 pr_ 4 (lf_ 1 3),
 pr_ 5 (bk_ .eql 4 .i64 3),
 mv_ 6 5,
 gp_ 7 6 false (fa_ 0 1),
 gp_ 8 6 false (lf_ 1 7),
 gp_ 9 6 false (bk_ .eql 8 .i64 4),
 pr_ 10 (po_ 6 9),
 mv_ 2 10]
 .ret))
def o165:List Tmp:=[]
def r165:List RV:=[.tmp 2]
theorem t165:Text Tryz.prog 165 o165 c165 r165 11:=.mk_ Tryz.f165 rfl
def c166:ACode :=
 (sq_ [pr_ 2 (.allocm z6_),
 pr_ 3 mf_]
 (sq_ [mv_ 6 0,
 mv_ 7 0,
 pr_ 8 (.lens (.tmp 7)),
 pr_ 9 (bk_ .gtr 8 .i64 40),
 pr_ 10 (.build [.pl (.string .empty),.pl (.int .i64 0),.pl (.bool false)] [(0,1,(.tmp 6)),(2,1,(.tmp 9))]),
 pr_ 11 (.boxm (.tmp 10)),
 mv_ 4 11]
 (sq_ [mv_ 12 4,
 cl_ 13 173 [(.tmp 12),(.const (.int .i64 0))],
 ⟨some 5,none,.fresh 6 5 (.tmp 13)⟩]
 (.seq (sq_ [mv_ 14 4,
 pr_ 15 (nc_ 14),
 pr_ 16 (fa_ 2 15),
 pr_ 17 (lf_ 1 16),
 mv_ 18 17,
 gp_ 19 18 false (mo_ 4),
 gp_ 20 18 false (nc_ 19),
 gp_ 21 18 false (fa_ 1 20),
 gp_ 22 18 false (lf_ 1 21),
 gp_ 23 18 false (mo_ 0),
 gp_ 24 18 false (.lens (.tmp 23)),
 gp_ 25 18 false (bt_ .lss 22 24),
 pr_ 26 (po_ 18 25)]
 (.cond (.tmp 26)
 (sq_ [pr_ 27 (.build z6_ []),
 st_ (so_ 6 2 27),
 pr_ 3 mf_]
 .ret)
 .skip))
 (sq_ [pr_ 28 (lt_ 6 5),
 st_ (so_ 6 2 28),
 pr_ 3 mt_]
 .ret)))))
def o166:List Tmp:=[2,11]
def r166:List RV:=[.cell 2 6 true,.tmp 3]
theorem t166:Text Tryz.prog 166 o166 c166 r166 29:=.mk_ Tryz.f166 rfl
def c167:ACode :=
 (sq_ [pr_ 2 (mi_ .i64 0)]
 (sq_ [pr_ 3 (mi_ .i64 0)]
 (.seq (sq_ [mv_ 6 0,
 pr_ 7 (.lenv (.tmp 6)),
 pr_ 8 (mi_ .i64 0)]
 (.block 0 (.loop [0,1,2,4,5,9,10,11,12,13,14,15,16,17] (sq_ [pr_ 9 (bt_ .lss 8 7)]
 (.seq (.cond (.tmp 9)
 .skip
 (.exit 0))
 (.seq (.block 1 (sq_ [pr_ 10 (.iadrs 1 (.tmp 6) (.tmp 8)),
 pr_ 11 (lf_ 1 10),
 mv_ 5 11]
 (sq_ [mv_ 12 5,
 mv_ 13 3,
 pr_ 14 (bt_ .neq 12 13)]
 (.cond (.tmp 14)
 (sq_ [mv_ 15 5,
 mv_ 2 15]
 .ret)
 .skip))))
 (.ops [pr_ 16 (bk_ .add 8 .i64 1),
 mv_ 8 16])))))))
 (sq_ [mv_ 17 3,
 mv_ 2 17]
 .ret))))
def o167:List Tmp:=[]
def r167:List RV:=[.tmp 2]
theorem t167:Text Tryz.prog 167 o167 c167 r167 18:=.mk_ Tryz.f167 rfl
def c168:ACode :=
 (sq_ [pr_ 4 (mi_ .i64 0)]
 (sq_ [mv_ 5 0,
 mv_ 6 1,
 cl_ 7 174 [(.tmp 5),(.tmp 6)],
 mv_ 4 7]
 .ret))
def o168:List Tmp:=[]
def r168:List RV:=[.tmp 4]
theorem t168:Text Tryz.prog 168 o168 c168 r168 8:=.mk_ Tryz.f168 rfl
def c169:ACode :=
 (sq_ [pr_ 4 (mi_ .i64 0)]
 (sq_ [mv_ 7 0,
 c1_ 8 175 7,
 mv_ 5 8]
 (sq_ [mv_ 9 1,
 c1_ 10 175 9,
 mv_ 6 10]
 (.seq (sq_ [mv_ 11 5]
 (.cond (.tmp 11)
 (.seq (sq_ [mv_ 12 6]
 (.cond (.tmp 12)
 (sq_ [pr_ 4 (mi_ .i64 0)]
 .ret)
 .skip))
 (sq_ [pr_ 4 (.mov (.const (.int .i64 (-1))))]
 .ret))
 .skip))
 (.seq (sq_ [mv_ 13 6]
 (.cond (.tmp 13)
 (sq_ [pr_ 4 (mi_ .i64 1)]
 .ret)
 .skip))
 (.seq (sq_ [mv_ 14 0,
 mv_ 15 1,
 pr_ 16 (bt_ .lss 14 15)]
 (.cond (.tmp 16)
 (sq_ [pr_ 4 (.mov (.const (.int .i64 (-1))))]
 .ret)
 .skip))
 (.seq (sq_ [mv_ 17 0,
 mv_ 18 1,
 pr_ 19 (bt_ .gtr 17 18)]
 (.cond (.tmp 19)
 (sq_ [pr_ 4 (mi_ .i64 1)]
 .ret)
 .skip))
 (sq_ [pr_ 4 (mi_ .i64 0)]
 .ret))))))))
def o169:List Tmp:=[]
def r169:List RV:=[.tmp 4]
theorem t169:Text Tryz.prog 169 o169 c169 r169 20:=.mk_ Tryz.f169 rfl
def c170:ACode :=
 (sq_ [pr_ 2 mf_]
 (sq_ [mv_ 3 0,
 pr_ 4 (bk_ .geq 3 .u8 97),
 mv_ 5 4,
 gp_ 6 5 true (mo_ 0),
 gp_ 7 5 true (bk_ .leq 6 .u8 122),
 pr_ 8 (pa_ 5 7),
 mv_ 9 8,
 gp_ 10 9 false (mo_ 0),
 gp_ 11 9 false (bk_ .geq 10 .u8 65),
 gp_ 12 9 false (mo_ 11),
 gp_ 13 12 true (mo_ 0),
 gp_ 14 12 true (bk_ .leq 13 .u8 90),
 gp_ 15 9 false (pa_ 12 14),
 pr_ 16 (po_ 9 15),
 mv_ 17 16,
 gp_ 18 17 false (mo_ 0),
 gp_ 19 17 false (bk_ .eql 18 .u8 95),
 pr_ 20 (po_ 17 19),
 mv_ 2 20]
 .ret))
def o170:List Tmp:=[]
def r170:List RV:=[.tmp 2]
theorem t170:Text Tryz.prog 170 o170 c170 r170 21:=.mk_ Tryz.f170 rfl
def c173:ACode :=
 (sq_ [pr_ 4 (.allocm z6_)]
 (sq_ [mv_ 6 0,
 mv_ 7 1,
 cl_ 8 177 [(.tmp 6),(.tmp 7)],
 pr_ 9 (.bsl true 6 true 1 z6_ [(0,6,(.tmp 8))]),
 mv_ 5 9]
 (.seq (.block 0 (.loop [2,3,6,7,8,9,10,11,12,13,14,15,16,17,18,19,20,21,22,23,24,25] (.seq (sq_ [mv_ 10 0,
 cl_ 11 178 [(.tmp 10),(.const (.int .u8 124))]]
 (.cond (.tmp 11)
 .skip
 (.exit 0)))
 (.block 1 (.ops [mv_ 12 5,
 mv_ 13 0,
 mv_ 14 1,
 cl_ 15 177 [(.tmp 13),(.tmp 14)],
 pr_ 16 (.bsl false 6 true 1 z6_ [(0,6,(.tmp 15))]),
 pr_ 17 (.app 6 (.tmp 12) (.tmp 16)),
 mv_ 5 17])))))
 (.seq (sq_ [mv_ 18 5,
 pr_ 19 (.lenv (.tmp 18)),
 pr_ 20 (bk_ .eql 19 .i64 1)]
 (.cond (.tmp 20)
 (sq_ [mv_ 21 5,
 pr_ 22 (.iadrs 6 (.tmp 21) (.const (.int .i64 0))),
 pr_ 23 (lt_ 6 22),
 st_ (so_ 6 4 23)]
 .ret)
 .skip))
 (.seq (.ghost (.shut 5) (.ops [mv_ 24 5,
 pr_ 25 (.build z6_ [(0,1,(.const (.int .i64 3))),(5,1,(.tmp 24))]),
 st_ (so_ 6 4 25)]))
 .ret)))))
def o173:List Tmp:=[4,9]
def r173:List RV:=[.cell 4 6 true]
theorem t173:Text Tryz.prog 173 o173 c173 r173 26:=.mk_ Tryz.f173 rfl
def c174:ACode :=
 (sq_ [pr_ 4 (mi_ .i64 0)]
 (sq_ [mv_ 5 0,
 mv_ 6 1,
 cl_ 7 179 [(.tmp 5),(.tmp 6)],
 mv_ 4 7]
 .ret))
def o174:List Tmp:=[]
def r174:List RV:=[.tmp 4]
theorem t174:Text Tryz.prog 174 o174 c174 r174 8:=.mk_ Tryz.f174 rfl
def c175:ACode :=
 (sq_ [pr_ 2 mf_]
 (sq_ [mv_ 3 0,
 mv_ 4 0,
 pr_ 5 (bt_ .neq 3 4),
 mv_ 2 5]
 .ret))
def o175:List Tmp:=[]
def r175:List RV:=[.tmp 2]
theorem t175:Text Tryz.prog 175 o175 c175 r175 6:=.mk_ Tryz.f175 rfl
def c177:ACode :=
 (sq_ [pr_ 4 (.allocm z6_)]
 (sq_ [pr_ 5 (.mov (.const (.slice none 0 0)))]
 (.seq (.block 0 (.loop [2,3,6,7,8,9,10,11,12,13,14,15,16,17,18,19,20,21,22,23,24,25,26,27,28,29,30,31,32] (.seq (sq_ [mv_ 6 0,
 c1_ 7 181 6,
 pr_ 8 (no_ 7),
 mv_ 9 8,
 gp_ 10 9 true (mo_ 0),
 gc_ 11 9 true 182 [(.tmp 10),(.const (.int .u8 124))],
 gp_ 12 9 true (no_ 11),
 pr_ 13 (pa_ 9 12),
 mv_ 14 13,
 gp_ 15 14 true (mo_ 0),
 gc_ 16 14 true 182 [(.tmp 15),(.const (.int .u8 41))],
 gp_ 17 14 true (no_ 16),
 pr_ 18 (pa_ 14 17)]
 (.cond (.tmp 18)
 .skip
 (.exit 0)))
 (.block 1 (.ops [mv_ 19 5,
 mv_ 20 0,
 mv_ 21 1,
 cl_ 22 183 [(.tmp 20),(.tmp 21)],
 pr_ 23 (.bsl false 6 true 1 z6_ [(0,6,(.tmp 22))]),
 pr_ 24 (.app 6 (.tmp 19) (.tmp 23)),
 mv_ 5 24])))))
 (.seq (sq_ [mv_ 25 5,
 pr_ 26 (.lenv (.tmp 25)),
 pr_ 27 (bk_ .eql 26 .i64 1)]
 (.cond (.tmp 27)
 (sq_ [mv_ 28 5,
 pr_ 29 (.iadrs 6 (.tmp 28) (.const (.int .i64 0))),
 pr_ 30 (lt_ 6 29),
 st_ (so_ 6 4 30)]
 .ret)
 .skip))
 (.seq (.ghost (.shut 5) (.ops [mv_ 31 5,
 pr_ 32 (.build z6_ [(0,1,(.const (.int .i64 2))),(5,1,(.tmp 31))]),
 st_ (so_ 6 4 32)]))
 .ret)))))
def o177:List Tmp:=[4]
def r177:List RV:=[.cell 4 6 true]
theorem t177:Text Tryz.prog 177 o177 c177 r177 33:=.mk_ Tryz.f177 rfl
def c178:ACode :=
 (sq_ [pr_ 4 mf_]
 (.seq (sq_ [mv_ 5 0,
 mv_ 6 1,
 cl_ 7 182 [(.tmp 5),(.tmp 6)],
 pr_ 8 (no_ 7)]
 (.cond (.tmp 8)
 (sq_ [pr_ 4 mf_]
 .ret)
 .skip))
 (sq_ [mv_ 9 0,
 pr_ 10 (nc_ 9),
 pr_ 11 (fa_ 1 10),
 pr_ 12 (lf_ 1 11),
 pr_ 13 (bk_ .add 12 .i64 1),
 pr_ 14 (nc_ 9),
 pr_ 15 (fa_ 1 14),
 st_ (so_ 1 15 13)]
 (sq_ [pr_ 4 mt_]
 .ret))))
def o178:List Tmp:=[]
def r178:List RV:=[.tmp 4]
theorem t178:Text Tryz.prog 178 o178 c178 r178 16:=.mk_ Tryz.f178 rfl
def c181:ACode :=
 (sq_ [pr_ 2 mf_]
 (.seq (.draw [⟨mv_ 3 0,[],false,0,0⟩,
 ⟨pr_ 4 (nc_ 3),[0],false,0,0⟩,
 ⟨pr_ 5 (fa_ 2 4),[0,1],false,0,0⟩,
 ⟨pr_ 6 (lf_ 1 5),[0,1,2],false,0,0⟩,
 ⟨mv_ 7 6,[0,1,2,3],false,0,0⟩,
 ⟨gp_ 8 7 false (mo_ 0),[0,1,2,3,4],false,0,0⟩,
 ⟨gp_ 9 7 false (nc_ 8),(List.range 6),false,0,0⟩,
 ⟨gp_ 10 7 false (fa_ 1 9),(List.range 7),false,0,0⟩,
 ⟨gp_ 11 7 false (lf_ 1 10),(List.range 8),false,0,0⟩,
 ⟨gp_ 12 7 false (mo_ 0),[0,1,2,3,4],false,0,0⟩,
 ⟨gp_ 13 7 false (nc_ 12),[0,1,2,3,4,9],false,0,0⟩,
 ⟨gp_ 14 7 false (fa_ 0 13),[0,1,2,3,4,9,10],false,0,0⟩,
 ⟨gp_ 15 7 false (lf_ 1 14),[0,1,2,3,4,9,10,11],false,0,0⟩,
 ⟨gp_ 16 7 false (.lens (.tmp 15)),[0,1,2,3,4,9,10,11,12],false,0,0⟩,
 ⟨gp_ 17 7 false (bt_ .geq 11 16),(List.range 14),false,0,0⟩,
 ⟨pr_ 18 (po_ 7 17),(List.range 15),false,0,0⟩,
 ⟨mv_ 2 18,(List.range 16),false,0,0⟩])
 .ret))
def o181:List Tmp:=[]
def r181:List RV:=[.tmp 2]
theorem t181:Text Tryz.prog 181 o181 c181 r181 19:=.mk_ Tryz.f181 rfl
def c182:ACode :=
 (sq_ [pr_ 4 mf_]
 (.seq (.draw [⟨mv_ 5 0,[],false,0,0⟩,
 ⟨c1_ 6 181 5,[0],true,0,0⟩,
 ⟨pr_ 7 (no_ 6),[0,1],false,1,1⟩,
 ⟨mv_ 8 7,[0,1,2],false,1,1⟩,
 ⟨gp_ 9 8 true (mo_ 0),[0,1,2,3],false,1,1⟩,
 ⟨gp_ 10 8 true (nc_ 9),[0,1,2,3,4],false,1,1⟩,
 ⟨gp_ 11 8 true (fa_ 0 10),(List.range 6),false,1,1⟩,
 ⟨gp_ 12 8 true (lf_ 1 11),(List.range 7),false,1,1⟩,
 ⟨gp_ 13 8 true (mo_ 0),[0,1,2,3],false,1,1⟩,
 ⟨gp_ 14 8 true (nc_ 13),[0,1,2,3,8],false,1,1⟩,
 ⟨gp_ 15 8 true (fa_ 1 14),[0,1,2,3,8,9],false,1,1⟩,
 ⟨gp_ 16 8 true (lf_ 1 15),[0,1,2,3,8,9,10],false,1,1⟩,
 ⟨gp_ 17 8 true (.idxs (.tmp 12) (.tmp 16)),(List.range 12),false,1,1⟩,
 ⟨gp_ 18 8 true (mo_ 1),[0,1,2,3],false,1,1⟩,
 ⟨gp_ 19 8 true (bt_ .eql 17 18),(List.range 14),false,1,1⟩,
 ⟨pr_ 20 (pa_ 8 19),(List.range 15),false,1,1⟩,
 ⟨mv_ 4 20,(List.range 16),false,1,1⟩])
 .ret))
def o182:List Tmp:=[]
def r182:List RV:=[.tmp 4]
theorem t182:Text Tryz.prog 182 o182 c182 r182 21:=.mk_ Tryz.f182 rfl
def c183:ACode :=
 (sq_ [pr_ 4 (.allocm z6_)]
 (sq_ [mv_ 6 0,
 mv_ 7 1,
 cl_ 8 189 [(.tmp 6),(.tmp 7)],
 ⟨some 5,none,.fresh 6 5 (.tmp 8)⟩]
 (.seq (.block 0 (sq_ [mv_ 10 0,
 cl_ 11 178 [(.tmp 10),(.const (.int .u8 42))],
 mv_ 9 11]
 (.cond (.tmp 9)
 (sq_ [pr_ 12 (lt_ 6 5),
 pr_ 13 (.bsl false 6 true 1 z6_ [(0,6,(.tmp 12))]),
 pr_ 14 (.build z6_ [(0,1,(.const (.int .i64 4))),(5,1,(.tmp 13))]),
 st_ (so_ 6 4 14)]
 .ret)
 (sq_ [mv_ 16 0,
 cl_ 17 178 [(.tmp 16),(.const (.int .u8 43))],
 mv_ 15 17]
 (.cond (.tmp 15)
 (sq_ [pr_ 18 (lt_ 6 5),
 pr_ 19 (.bsl false 6 true 1 z6_ [(0,6,(.tmp 18))]),
 pr_ 20 (.build z6_ [(0,1,(.const (.int .i64 5))),(5,1,(.tmp 19))]),
 st_ (so_ 6 4 20)]
 .ret)
 (sq_ [mv_ 22 0,
 cl_ 23 178 [(.tmp 22),(.const (.int .u8 63))],
 mv_ 21 23]
 (.cond (.tmp 21)
 (sq_ [pr_ 24 (lt_ 6 5),
 pr_ 25 (.bsl false 6 true 1 z6_ [(0,6,(.tmp 24))]),
 pr_ 26 (.build z6_ [(0,1,(.const (.int .i64 6))),(5,1,(.tmp 25))]),
 st_ (so_ 6 4 26)]
 .ret)
 .skip)))))))
 (sq_ [pr_ 27 (lt_ 6 5),
 st_ (so_ 6 4 27)]
 .ret))))
def o183:List Tmp:=[4]
def r183:List RV:=[.cell 4 6 true]
theorem t183:Text Tryz.prog 183 o183 c183 r183 28:=.mk_ Tryz.f183 rfl
def c189:ACode :=
 (sq_ [pr_ 4 (.allocm z6_)]
 (sq_ [pr_ 7 (.build z6_ [(0,1,(.const (.int .i64 1)))]),
 pr_ 5 (.allocm z6_),
 st_ (so_ 6 5 7)]
 (.seq (sq_ [mv_ 8 0,
 c1_ 9 191 8,
 mv_ 6 9]
 (sq_ [mv_ 10 6]
 (.block 0 (sq_ [pr_ 27 (bk_ .eql 10 .u8 40),
 mv_ 26 27]
 (.cond (.tmp 26)
 (sq_ [mv_ 28 0,
 mv_ 29 0,
 pr_ 30 (nc_ 29),
 pr_ 31 (fa_ 2 30),
 pr_ 32 (lf_ 1 31),
 mv_ 33 32,
 gp_ 34 33 false (mo_ 1),
 gp_ 35 33 false (bk_ .eql 34 .i64 8),
 pr_ 36 (po_ 33 35),
 pr_ 37 (nc_ 28),
 pr_ 38 (fa_ 2 37),
 st_ (so_ 1 38 36)]
 (.seq (sq_ [mv_ 39 0,
 pr_ 40 (nc_ 39),
 pr_ 41 (fa_ 2 40),
 pr_ 42 (lf_ 1 41),
 pr_ 43 (no_ 42)]
 (.cond (.tmp 43)
 (.ops [mv_ 44 0,
 mv_ 45 1,
 pr_ 46 (bk_ .add 45 .i64 1),
 cl_ 47 173 [(.tmp 44),(.tmp 46)],
 st_ (so_ 6 5 47)])
 .skip))
 (.ops [mv_ 48 0,
 mv_ 49 0,
 cl_ 50 178 [(.tmp 49),(.const (.int .u8 41))],
 pr_ 51 (no_ 50),
 mv_ 52 51,
 gp_ 53 52 false (mo_ 0),
 gp_ 54 52 false (nc_ 53),
 gp_ 55 52 false (fa_ 2 54),
 gp_ 56 52 false (lf_ 1 55),
 pr_ 57 (po_ 52 56),
 pr_ 58 (nc_ 48),
 pr_ 59 (fa_ 2 58),
 st_ (so_ 1 59 57)])))
 (sq_ [pr_ 61 (bk_ .eql 10 .u8 91),
 mv_ 60 61]
 (.cond (.tmp 60)
 (.ops [mv_ 62 0,
 c1_ 63 192 62,
 pr_ 64 (fa_ 1 5),
 st_ (so_ 4 64 63)])
 (sq_ [pr_ 66 (bk_ .eql 10 .u8 46),
 mv_ 65 66]
 (.cond (.tmp 65)
 (.ops [pr_ 67 (fa_ 1 5),
 pr_ 68 (lt_ 4 67),
 c1_ 69 193 68,
 pr_ 70 (fa_ 1 5),
 st_ (so_ 4 70 69)])
 (sq_ [pr_ 72 (bk_ .eql 10 .u8 92),
 mv_ 71 72]
 (.cond (.tmp 71)
 (.ops [pr_ 73 (fa_ 1 5),
 mv_ 74 0,
 c1_ 75 195 74,
 cl_ 76 194 [(.tmp 73),(.tmp 75)]])
 (sq_ [mv_ 11 0,
 mv_ 12 0,
 pr_ 13 (nc_ 12),
 pr_ 14 (fa_ 2 13),
 pr_ 15 (lf_ 1 14),
 mv_ 16 15,
 gp_ 17 16 false (mo_ 6),
 gc_ 18 16 false 196 [(.const (.string (ByteArray.mk #[42,43,63,93]))),(.tmp 17)],
 gp_ 19 16 false (bk_ .geq 18 .i64 0),
 pr_ 20 (po_ 16 19),
 pr_ 21 (nc_ 11),
 pr_ 22 (fa_ 2 21),
 st_ (so_ 1 22 20)]
 (.ops [pr_ 23 (fa_ 1 5),
 mv_ 24 6,
 cl_ 25 194 [(.tmp 23),(.tmp 24)]])))))))))))))
 (sq_ [pr_ 77 (lt_ 6 5),
 st_ (so_ 6 4 77)]
 .ret))))
def o189:List Tmp:=[4,5]
def r189:List RV:=[.cell 4 6 true]
theorem t189:Text Tryz.prog 189 o189 c189 r189 78:=.mk_ Tryz.f189 rfl
def c191:ACode :=
 (sq_ [pr_ 2 (mi_ .u8 0)]
 (.seq (sq_ [mv_ 3 0,
 c1_ 4 181 3]
 (.cond (.tmp 4)
 (sq_ [mv_ 5 0,
 pr_ 6 (nc_ 5),
 pr_ 7 (fa_ 2 6),
 st_ (.store 1 (.tmp 7) (.const (.bool true)))]
 (sq_ [pr_ 2 (mi_ .u8 0)]
 .ret))
 .skip))
 (sq_ [mv_ 8 0,
 pr_ 9 (nc_ 8),
 pr_ 10 (fa_ 1 9),
 pr_ 11 (lf_ 1 10),
 pr_ 12 (bk_ .add 11 .i64 1),
 pr_ 13 (nc_ 8),
 pr_ 14 (fa_ 1 13),
 st_ (so_ 1 14 12)]
 (.seq (.draw [⟨mv_ 15 0,[],false,0,0⟩,
 ⟨pr_ 16 (nc_ 15),[0],false,0,0⟩,
 ⟨pr_ 17 (fa_ 0 16),[0,1],false,0,0⟩,
 ⟨pr_ 18 (lf_ 1 17),[0,1,2],false,0,0⟩,
 ⟨mv_ 19 0,[],false,0,0⟩,
 ⟨pr_ 20 (nc_ 19),[4],false,0,0⟩,
 ⟨pr_ 21 (fa_ 1 20),[4,5],false,0,0⟩,
 ⟨pr_ 22 (lf_ 1 21),[4,5,6],false,0,0⟩,
 ⟨pr_ 23 (bk_ .sub 22 .i64 1),[4,5,6,7],false,0,0⟩,
 ⟨pr_ 24 (.idxs (.tmp 18) (.tmp 23)),(List.range 9),false,0,0⟩,
 ⟨mv_ 2 24,(List.range 10),false,0,0⟩])
 .ret))))
def o191:List Tmp:=[]
def r191:List RV:=[.tmp 2]
theorem t191:Text Tryz.prog 191 o191 c191 r191 25:=.mk_ Tryz.f191 rfl
def c192:ACode :=
 (sq_ [pr_ 2 (.allocm [.pl (.int .u64 0),.pl (.int .u64 0),.pl (.int .u64 0),.pl (.int .u64 0)])]
 (sq_ [pr_ 3 (.allocm [.pl (.int .u64 0),.pl (.int .u64 0),.pl (.int .u64 0),.pl (.int .u64 0)])]
 (sq_ [mv_ 9 0,
 cl_ 10 178 [(.tmp 9),(.const (.int .u8 94))],
 mv_ 4 10]
 (.seq (sq_ [pr_ 5 mt_]
 (.block 0 (.loop [1,6,7,8,9,10,11,12,13,14,15,16,17,18,19,20,21,22,23,24,25,26,27,28,29,30,31,32,33,34,35,36,37,38,39,40,41,42,43,44,45,46,47,48,49,50,51,52,53,54,55,56,57,58,59,60,61,62,63,64,65,66,67] (.seq (sq_ [mv_ 11 5,
 mv_ 12 11,
 gp_ 13 12 false (mo_ 0),
 gc_ 14 12 false 181 [(.tmp 13)],
 gp_ 15 12 false (no_ 14),
 gp_ 16 12 false (mo_ 15),
 gp_ 17 16 true (mo_ 0),
 gc_ 18 16 true 182 [(.tmp 17),(.const (.int .u8 93))],
 gp_ 19 16 true (no_ 18),
 gp_ 20 12 false (pa_ 16 19),
 pr_ 21 (po_ 12 20)]
 (.cond (.tmp 21)
 .skip
 (.exit 0)))
 (.seq (.block 1 (sq_ [mv_ 22 0,
 c1_ 23 197 22,
 mv_ 6 23]
 (sq_ [mv_ 24 6,
 mv_ 7 24]
 (.seq (sq_ [mv_ 25 0,
 cl_ 26 178 [(.tmp 25),(.const (.int .u8 45))]]
 (.cond (.tmp 26)
 (.ops [mv_ 27 0,
 c1_ 28 197 27,
 mv_ 7 28])
 .skip))
 (sq_ [mv_ 29 0,
 mv_ 30 0,
 pr_ 31 (nc_ 30),
 pr_ 32 (fa_ 2 31),
 pr_ 33 (lf_ 1 32),
 mv_ 34 33,
 gp_ 35 34 false (mo_ 7),
 gp_ 36 34 false (mo_ 6),
 gp_ 37 34 false (bt_ .lss 35 36),
 pr_ 38 (po_ 34 37),
 pr_ 39 (nc_ 29),
 pr_ 40 (fa_ 2 39),
 st_ (so_ 1 40 38)]
 (sq_ [mv_ 41 6,
 pr_ 42 (.convi .i64 (.tmp 41)),
 mv_ 8 42]
 (.block 2 (.loop [1,5,6,9,10,11,12,13,14,15,16,17,18,19,20,21,22,23,24,25,26,27,28,29,30,31,32,33,34,35,36,37,38,39,40,41,42,43,44,45,46,47,48,49,50,51,52,53,54,55,56,57,58,59,60,61,62,63,64,65,66,67] (.seq (sq_ [mv_ 43 8,
 mv_ 44 7,
 pr_ 45 (.convi .i64 (.tmp 44)),
 pr_ 46 (bt_ .leq 43 45)]
 (.cond (.tmp 46)
 .skip
 (.exit 2)))
 (.seq (.block 3 (.ops [mv_ 49 8,
 pr_ 50 (.convi .u8 (.tmp 49)),
 cl_ 51 194 [(.tmp 3),(.tmp 50)]]))
 (.ops [mv_ 47 8,
 pr_ 48 (bk_ .add 47 .i64 1),
 mv_ 8 48])))))))))))
 (.ops [pr_ 5 mf_]))))))
 (sq_ [mv_ 52 0,
 mv_ 53 0,
 cl_ 54 178 [(.tmp 53),(.const (.int .u8 93))],
 pr_ 55 (no_ 54),
 mv_ 56 55,
 gp_ 57 56 false (mo_ 0),
 gp_ 58 56 false (nc_ 57),
 gp_ 59 56 false (fa_ 2 58),
 gp_ 60 56 false (lf_ 1 59),
 pr_ 61 (po_ 56 60),
 pr_ 62 (nc_ 52),
 pr_ 63 (fa_ 2 62),
 st_ (so_ 1 63 61)]
 (.seq (sq_ [mv_ 64 4]
 (.cond (.tmp 64)
 (sq_ [pr_ 65 (lt_ 4 3),
 c1_ 66 193 65,
 st_ (so_ 4 2 66)]
 .ret)
 .skip))
 (sq_ [pr_ 67 (lt_ 4 3),
 st_ (so_ 4 2 67)]
 .ret)))))))
def o192:List Tmp:=[2,3]
def r192:List RV:=[.cell 2 4 true]
theorem t192:Text Tryz.prog 192 o192 c192 r192 68:=.mk_ Tryz.f192 rfl
def c193:ACode :=
 (sq_ [pr_ 1 (.boxm (.tmp 0)),
 pr_ 2 (.allocm [.pl (.int .u64 0),.pl (.int .u64 0),.pl (.int .u64 0),.pl (.int .u64 0)])]
 (.seq (sq_ [pr_ 4 (mi_ .i64 0)]
 (.block 0 (.loop [0,3,5,6,7,8,9,10,11,12,13,14] (sq_ [pr_ 5 (bk_ .lss 4 .i64 4)]
 (.seq (.cond (.tmp 5)
 .skip
 (.exit 0))
 (.seq (.block 1 (sq_ [mv_ 6 4,
 mv_ 3 6]
 (.ops [mv_ 7 3,
 mv_ 8 3,
 pr_ 9 (.iadra 1 4 (.tmp 1) (.tmp 8)),
 pr_ 10 (lf_ 1 9),
 pr_ 11 (.un .xor (.tmp 10)),
 pr_ 12 (.iadra 1 4 (.tmp 1) (.tmp 7)),
 st_ (so_ 1 12 11)])))
 (.ops [pr_ 13 (bk_ .add 4 .i64 1),
 mv_ 4 13])))))))
 (sq_ [pr_ 14 (lt_ 4 1),
 st_ (so_ 4 2 14)]
 .ret)))
def o193:List Tmp:=[1,2]
def r193:List RV:=[.cell 2 4 true]
theorem t193:Text Tryz.prog 193 o193 c193 r193 15:=.mk_ Tryz.f193 rfl
def c194:ACode :=
 (.draw [⟨mv_ 4 0,[],false,0,0⟩,
 ⟨mv_ 5 1,[],false,0,0⟩,
 ⟨pr_ 6 (bk_ .quo 5 .u8 64),[1],false,0,0⟩,
 ⟨pr_ 7 (nc_ 4),[0],false,0,0⟩,
 ⟨pr_ 8 (.iadra 1 4 (.tmp 7) (.tmp 6)),[0,1,2,3],false,0,0⟩,
 ⟨pr_ 9 (lf_ 1 8),[0,1,2,3,4],false,0,0⟩,
 ⟨mv_ 10 1,[],false,0,0⟩,
 ⟨pr_ 11 (bk_ .rem 10 .u8 64),[6],false,0,0⟩,
 ⟨pr_ 12 (.bin false .shl (.const (.int .u64 1)) (.tmp 11)),[6,7],false,0,0⟩,
 ⟨pr_ 13 (bt_ .or 9 12),(List.range 9),false,0,0⟩,
 ⟨pr_ 14 (nc_ 4),[0],false,0,0⟩,
 ⟨pr_ 15 (.iadra 1 4 (.tmp 14) (.tmp 6)),(List.range 11),false,0,0⟩,
 ⟨st_ (so_ 1 15 13),(List.range 12),true,0,0⟩])
def o194:List Tmp:=[]
def r194:List RV:=[]
theorem t194:Text Tryz.prog 194 o194 c194 r194 16:=.mk_ Tryz.f194 rfl
def c195:ACode :=
 (sq_ [pr_ 2 (mi_ .u8 0)]
 (sq_ [mv_ 4 0,
 c1_ 5 191 4,
 mv_ 3 5]
 (sq_ [mv_ 6 0,
 mv_ 7 0,
 pr_ 8 (nc_ 7),
 pr_ 9 (fa_ 2 8),
 pr_ 10 (lf_ 1 9),
 mv_ 11 10,
 gp_ 12 11 false (mo_ 3),
 gc_ 13 11 false 196 [(.const (.string (ByteArray.mk #[124,42,43,63,40,41,91,93,46,92,94,45]))),(.tmp 12)],
 gp_ 14 11 false (bk_ .lss 13 .i64 0),
 pr_ 15 (po_ 11 14),
 pr_ 16 (nc_ 6),
 pr_ 17 (fa_ 2 16),
 st_ (so_ 1 17 15)]
 (sq_ [mv_ 18 3,
 mv_ 2 18]
 .ret))))
def o195:List Tmp:=[]
def r195:List RV:=[.tmp 2]
theorem t195:Text Tryz.prog 195 o195 c195 r195 19:=.mk_ Tryz.f195 rfl
def c196:ACode :=
 (sq_ [pr_ 4 (mi_ .i64 0)]
 (sq_ [mv_ 5 0,
 mv_ 6 1,
 cl_ 7 198 [(.tmp 5),(.tmp 6)],
 mv_ 4 7]
 .ret))
def o196:List Tmp:=[]
def r196:List RV:=[.tmp 4]
theorem t196:Text Tryz.prog 196 o196 c196 r196 8:=.mk_ Tryz.f196 rfl
def c197:ACode :=
 (sq_ [pr_ 2 (mi_ .u8 0)]
 (sq_ [mv_ 4 0,
 c1_ 5 191 4,
 mv_ 3 5]
 (.seq (sq_ [mv_ 6 3,
 pr_ 7 (bk_ .eql 6 .u8 92)]
 (.cond (.tmp 7)
 (sq_ [mv_ 8 0,
 c1_ 9 195 8,
 mv_ 2 9]
 .ret)
 .skip))
 (sq_ [mv_ 10 0,
 mv_ 11 0,
 pr_ 12 (nc_ 11),
 pr_ 13 (fa_ 2 12),
 pr_ 14 (lf_ 1 13),
 mv_ 15 14,
 gp_ 16 15 false (mo_ 3),
 gc_ 17 15 false 196 [(.const (.string (ByteArray.mk #[92,93,91,94,45]))),(.tmp 16)],
 gp_ 18 15 false (bk_ .geq 17 .i64 0),
 pr_ 19 (po_ 15 18),
 pr_ 20 (nc_ 10),
 pr_ 21 (fa_ 2 20),
 st_ (so_ 1 21 19)]
 (sq_ [mv_ 22 3,
 mv_ 2 22]
 .ret)))))
def o197:List Tmp:=[]
def r197:List RV:=[.tmp 2]
theorem t197:Text Tryz.prog 197 o197 c197 r197 23:=.mk_ Tryz.f197 rfl
def c198:ACode :=
 (sq_ [pr_ 4 (mi_ .i64 0)]
 (sq_ [mv_ 5 0,
 mv_ 6 1,
 cl_ 7 199 [(.tmp 5),(.tmp 6)],
 mv_ 4 7]
 .ret))
def o198:List Tmp:=[]
def r198:List RV:=[.tmp 4]
theorem t198:Text Tryz.prog 198 o198 c198 r198 8:=.mk_ Tryz.f198 rfl
abbrev I (n:Int):AV:=.pl (.int .i64 n)
abbrev Bo (b:Bool):AV:=.pl (.bool b)
abbrev Sx (s:ByteArray):AV:=.pl (.string s)
theorem wrapN {n:Int} (h: -9223372036854775808≤n) (h':n<9223372036854775808):IntKind.i64.wrap n=n:=by
 simp only[IntKind.wrap,IntKind.bits,IntKind.signed];simp;omega
theorem Fini.ret2 {n m:Nat} {rvs:List RV} {r r':AV} {σ σ':St} {env:Env} (h:resA env σ rvs=some r') (e:r'=r) (e':σ=σ'):Fini m rvs r σ' .ret env σ:=by
 subst e;subst e';exact Fini.ret h
theorem Fini.trim2 {m:Nat} {rvs:List RV} {r:AV} {σ σ' ex:St} {env:Env} (h:resA env σ rvs=some r) (he:σ=σ'++ex) (hl:m≤σ'.length) (hb:Bel σ'.length r) (ho:∀o∈σ',BelO σ'.length o):Fini m rvs r σ' .ret env σ:=by
 subst he;exact⟨r,σ'++ex,h,rfl,rfl,.inr ⟨hl,by simp,hb,ho⟩⟩
def names:List ByteArray:=[⟨#[115,101,118]⟩,⟨#[106,111,98]⟩,⟨#[104,111,115,116]⟩,⟨#[95,120]⟩,⟨#[90,111,110,101,57]⟩]
def values:List ByteArray:=[⟨#[97]⟩,⟨#[98]⟩,⟨#[99,114,105,116]⟩,⟨#[119,97,114,110]⟩,⟨#[97,98]⟩,⟨#[0,255]⟩,⟨#[97,98,97,98,97,98,97,98,97,98,97,98,97,98,97,98,97,98,97,98,97,98,97,98]⟩]
def pats:List ByteArray:=[⟨#[97,124,98]⟩,⟨#[]⟩,⟨#[40,99,114,105,116,124,119,97,114,110,41]⟩,⟨#[91,97,45,99,93,43,46,42]⟩,⟨#[46,43]⟩,⟨#[40,97,98,41,42]⟩,⟨#[97,63,98,63]⟩,⟨#[91,94,97,93,42]⟩,⟨#[97,42,97,42,97,42,97,42,97,42,97,42,97,42,97,42,97,42,97,42,97,42,97,42,97,42,97,42]⟩]
section
variable (σ:St)
abbrev mat (k:Int) (n v:ByteArray):AV:=.agg [I k,Sx n,Sx v]
end
end Go.Proofs.YteakobbdgehlgaaGreatDoor
namespace Go.Proofs.YteakobbdgehlgaaGreatDoor.Sha
open Go Go.Ab
set_option maxRecDepth 100000
abbrev I (n:Int):AV:=.pl (.int .i64 n)
abbrev UN (n:Nat):AV:=.pl (.int .u64 (n:Int))
def ror (a:BitVec 32) (n:Nat):BitVec 32:=a <<< (32-n) ||| a >>> n
theorem zb2:∀n:Fin 32,1≤n.val→and64 (IntKind.u64.wrap (-(n.val:Int))) 31=((32-n.val:Nat):Int):=by decide +kernel
theorem zb3:∀n:Fin 32,IntKind.u64.wrap (32-((32-n.val:Nat):Int))=((n.val:Nat):Int):=by decide +kernel
theorem z9q:∀n:Fin 32,IntKind.u64.wrap (32-((n.val:Nat):Int))=((32-n.val:Nat):Int):=by decide +kernel
section
variable (σ:St)
theorem z1F (a:BitVec 32) (n:Nat) (h0:1≤n) (h1:n<32):Ans Tryz.prog 93 [V32 a,I (-(n:Int))] σ (V32 (ror a n)) σ:=by
 have k1:=zb2 ⟨n,h1⟩ h0;have k2:=zb3 ⟨n,h1⟩;simp only at k1 k2;have p1:((0:Int)≤((32-n:Nat):Int))=True:=eq_true (Int.natCast_nonneg _);have p2:((0:Int)≤((n:Nat):Int))=True:=eq_true (Int.natCast_nonneg _);have s1:=V_shl a (32-n) (by omega)
 have s2:=V_shr a n (by omega)
 have s3:=V_or (a <<< (32-n)) (a >>> n);unfold ror;refine Ans.of_run t93 ?_;simp -implicitDefEqProofs only[c93,r93,go_sem,k1,k2,p1,p2,s1,s2,s3,Int.toNat_natCast];exact Fini.ret rfl
theorem turned_ans (a:BitVec 32) (n:Nat) (h0:1≤n) (h1:n<32):Ans Tryz.prog 100 [V32 a,UN n] σ (V32 (ror a n)) σ:=by
 have k2:=z9q ⟨n,h1⟩;simp only at k2;have p1:((0:Int)≤((32-n:Nat):Int))=True:=eq_true (Int.natCast_nonneg _);have p2:((0:Int)≤((n:Nat):Int))=True:=eq_true (Int.natCast_nonneg _);have s1:=V_shl a (32-n) (by omega)
 have s2:=V_shr a n (by omega)
 have s3:=V_or (a >>> n) (a <<< (32-n));unfold ror;rw[BitVec.or_comm];refine Ans.of_run t100 ?_;simp -implicitDefEqProofs only[c100,r100,go_sem,k2,p1,p2,s1,s2,s3,Int.toNat_natCast];exact Fini.ret rfl
end
def sg0 (a:BitVec 32):BitVec 32:=ror a 7 ^^^ ror a 18 ^^^ a >>> 3
def sg1 (a:BitVec 32):BitVec 32:=ror a 17 ^^^ ror a 19 ^^^ a >>> 10
def word4 (a b c d:UInt8):BitVec 32:=b32 a <<< 24 ||| b32 b <<< 16 ||| b32 c <<< 8 ||| b32 d
abbrev gB (b:List UInt8) (i:Nat):UInt8:=b.getD i 0
abbrev gW (w:List (BitVec 32)) (i:Nat):BitVec 32:=w.getD i 0
def nextW (b:List UInt8) (w:List (BitVec 32)) (i:Nat):BitVec 32 :=
 if i<16 then word4 (gB b (4*i)) (gB b (4*i+1)) (gB b (4*i+2)) (gB b (4*i+3))
 else gW w (i-16)+sg0 (gW w (i-15))+gW w (i-7)+sg1 (gW w (i-2))
def z07 (b:List UInt8):Nat→List (BitVec 32)
 |0=>List.replicate 64 0
 |i+1=>(z07 b i).set i (nextW b (z07 b i) i)
theorem z0M (b:List UInt8):∀i,(z07 b i).length=64
 |0=>List.length_replicate
 |i+1=>by rw[z07,List.length_set,z0M b i]
def wv (w:List (BitVec 32)):List AV:=w.map V32
def bv (b:List UInt8):List AV:=b.map fun c=>.pl (.int .u8 ((c.toNat:Nat):Int))
theorem z13 (w:List (BitVec 32)):(wv w).length=w.length:=List.length_map ..
theorem z0h (b:List UInt8):(bv b).length=b.length:=List.length_map ..
theorem zak {b:List UInt8} {i:Nat} (h:i<b.length):(bv b)[i]?=some (.pl (.int .u8 (((gB b i).toNat:Nat):Int))):=by
 unfold bv gB;rw[List.getElem?_map,List.getElem?_eq_getElem h,List.getD_eq_getElem?_getD,List.getElem?_eq_getElem h];rfl
theorem z2v {w:List (BitVec 32)} {i:Nat} (h:i<w.length):(wv w)[i]?=some (V32 (gW w i)):=by
 unfold wv gW;rw[List.getElem?_map,List.getElem?_eq_getElem h,List.getD_eq_getElem?_getD,List.getElem?_eq_getElem h];rfl
theorem zal (w:List (BitVec 32)) (i:Nat) (x:BitVec 32):(wv w).set i (V32 x)=wv (w.set i x):=by unfold wv;rw[List.map_set]
section
variable (σ:St)
theorem z1q (b:List UInt8):(bv b).all AV.one=true:=by
 unfold bv;rw[List.all_eq_true];intro x hx;obtain⟨c,_,rfl⟩:=List.mem_map.1 hx;rfl
theorem z5m (w:List (BitVec 32)):(wv w).all AV.one=true:=by
 unfold wv;rw[List.all_eq_true];intro x hx;obtain⟨c,_,rfl⟩:=List.mem_map.1 hx;rfl
theorem z6e {w:List (BitVec 32)} {n:Nat} (h:w.length=n):List.take n (wv w)=wv w:=List.take_of_length_le (by rw[z13];omega)
theorem z9r {w:List (BitVec 32)} {n:Nat} (h:w.length=n):List.drop n (wv w)=[]:=List.drop_of_length_le (by rw[z13];omega)
theorem z6L (n:Nat) (w:List (BitVec 32)):Bel n (.agg (wv w)):=.agg _ fun i hi=>by
 have e:(wv w)[i]'hi=V32 (w[i]'(by rw[z13]at hi;exact hi)):=by simp[wv]
 rw[e];exact .pl _
theorem z8d {b:List UInt8} {i:Nat} (h:i<b.length):(List.drop (i*1) (bv b)).head?=some (.pl (.int .u8 (((gB b i).toNat:Nat):Int))):=by
 rw[Nat.mul_one,List.head?_drop,zak h]
theorem z0l {n:Nat} (h:n<1000):IntKind.i64.wrap (n:Int)=(n:Int):=by
 simp only[IntKind.wrap,IntKind.bits,IntKind.signed];simp;omega
theorem z5n {w:List (BitVec 32)} {i:Nat} (h:i<w.length) (x:BitVec 32):List.take i (wv w)++[V32 x]++List.drop (i+1) (wv w)=wv (w.set i x):=by
 rw[←zal,List.set_eq_take_append_cons_drop,if_pos (by rw[z13];exact h)]
 simp
theorem G0 (x:Ob) (ex:St):(σ++x::ex)[σ.length]?=some x:=by rw[List.getElem?_append_right (by simp)];simp
theorem S0 (x y:Ob) (ex:St):(σ++x::ex).set σ.length y=σ++y::ex:=by rw[List.set_append_right _ _ (by simp)];simp
theorem G1 (x y:Ob) (ex:St):(σ++x::y::ex)[σ.length+1]?=some y:=by rw[List.getElem?_append_right (by simp)];simp
theorem S1 (x y z:Ob) (ex:St):(σ++x::y::ex).set (σ.length+1) z=σ++x::z::ex:=by rw[List.set_append_right _ _ (by simp)];simp
theorem z7w (b:List UInt8) (hb:b.length=64):Ans Tryz.prog 92 [.agg (bv b)] σ (.agg (wv (z07 b 64))) σ:=by
 have hl:=z0h b;have ha:=z1q b;have hz:([.pl (.int .u32 0),.pl (.int .u32 0),.pl (.int .u32 0),.pl (.int .u32 0),.pl (.int .u32 0),.pl (.int .u32 0),.pl (.int .u32 0),.pl (.int .u32 0),.pl (.int .u32 0),.pl (.int .u32 0),.pl (.int .u32 0),.pl (.int .u32 0),.pl (.int .u32 0),.pl (.int .u32 0),.pl (.int .u32 0),.pl (.int .u32 0),.pl (.int .u32 0),.pl (.int .u32 0),.pl (.int .u32 0),.pl (.int .u32 0),.pl (.int .u32 0),.pl (.int .u32 0),.pl (.int .u32 0),.pl (.int .u32 0),.pl (.int .u32 0),.pl (.int .u32 0),.pl (.int .u32 0),.pl (.int .u32 0),.pl (.int .u32 0),.pl (.int .u32 0),.pl (.int .u32 0),.pl (.int .u32 0),.pl (.int .u32 0),.pl (.int .u32 0),.pl (.int .u32 0),.pl (.int .u32 0),.pl (.int .u32 0),.pl (.int .u32 0),.pl (.int .u32 0),.pl (.int .u32 0),.pl (.int .u32 0),.pl (.int .u32 0),.pl (.int .u32 0),.pl (.int .u32 0),.pl (.int .u32 0),.pl (.int .u32 0),.pl (.int .u32 0),.pl (.int .u32 0),.pl (.int .u32 0),.pl (.int .u32 0),.pl (.int .u32 0),.pl (.int .u32 0),.pl (.int .u32 0),.pl (.int .u32 0),.pl (.int .u32 0),.pl (.int .u32 0),.pl (.int .u32 0),.pl (.int .u32 0),.pl (.int .u32 0),.pl (.int .u32 0),.pl (.int .u32 0),.pl (.int .u32 0),.pl (.int .u32 0),.pl (.int .u32 0)]:List AV)=wv (z07 b 0):=rfl;refine Ans.of_run' t92 (fun hbel _=>?_)
 simp -implicitDefEqProofs only[c92,r92,go_sem,hl,hb,ha,List.append_assoc,List.cons_append,List.nil_append,List.length_append,List.length_cons,List.length_nil];rw[hz];clear hz;refine Go.Ab.L.count 16 (fun i=>mkE 89 [(1,.rp (bv b)),(2,.ptr σ.length 0),(3,.ptr (σ.length+1) 0),(10,I i)]) (fun i=>σ++[.box (wv (z07 b 0)),.box (wv (z07 b i))]) ?_ ?_ rfl rfl
 · intro i hi J hJ;have e1:IntKind.i64.wrap (4*(i:Int))=((4*i:Nat):Int):=by rw[←z0l (n:=4*i) (by omega)];congr 1
   have e2:∀k:Nat,k<4→IntKind.i64.wrap (((4*i:Nat):Int)+(k:Int))=((4*i+k:Nat):Int):=fun k hk=>by rw[←z0l (n:=4*i+k) (by omega)];congr 1
   have f1:=e2 1 (by decide)
   have f2:=e2 2 (by decide)
   have f3:=e2 3 (by decide)
   have hd:decide ((i:Int)<16)=true:=decide_eq_true (by omega)
   have l0:(((4*i:Nat):Int)<((64:Nat):Int))=True:=eq_true (by omega)
   have l1:(((4*i+1:Nat):Int)<((64:Nat):Int))=True:=eq_true (by omega)
   have l2:(((4*i+2:Nat):Int)<((64:Nat):Int))=True:=eq_true (by omega)
   have l3:(((4*i+3:Nat):Int)<((64:Nat):Int))=True:=eq_true (by omega)
   have p0:∀n:Nat,((0:Int)≤(n:Int))=True:=fun n=>eq_true (Int.natCast_nonneg _)
   have hh:∀k,k<64→(List.drop k (bv b)).head?=some (.pl (.int .u8 (((gB b k).toNat:Nat):Int))):=fun k hk=>by have:=z8d (b:=b) (i:=k) (by omega);rwa [Nat.mul_one]at this
   have h0:=hh (4*i) (by omega)
   have h1:=hh (4*i+1) (by omega)
   have h2:=hh (4*i+2) (by omega)
   have h3:=hh (4*i+3) (by omega)
   have k1:((1:Nat):Int)=1:=rfl;have k2:((2:Nat):Int)=2:=rfl;have k3:((3:Nat):Int)=3:=rfl;rw[k1]at f1;rw[k2]at f2;rw[k3]at f3;have l4:((i:Int)<((64:Nat):Int))=True:=eq_true (by omega)
   have w1:=z0M b i;have hs:=zal (z07 b i) i (nextW b (z07 b i) i);have hn:nextW b (z07 b i) i=word4 (gB b (4*i)) (gB b (4*i+1)) (gB b (4*i+2)) (gB b (4*i+3)):=by unfold nextW;rw[if_pos hi]
   have v1:=V_shl (b32 (gB b (4*i))) 24 (by decide)
   have v2:=V_shl (b32 (gB b (4*i+1))) 16 (by decide)
   have v3:=V_shl (b32 (gB b (4*i+2))) 8 (by decide)
   have l5:(i≤63)=True:=eq_true (by omega)
   have hp:=fun x=>z5n (w:=z07 b i) (i:=i) (by omega) x
   have t24:Int.toNat 24=24:=rfl;have t16:Int.toNat 16=16:=rfl;have t8:Int.toNat 8=8:=rfl;have wi:IntKind.i64.wrap ((i:Int)+1)=((i+1:Nat):Int):=by rw[←z0l (n:=i+1) (by omega)];congr 1
   simp -implicitDefEqProofs only[mkE,go_sem,t24,t16,t8,wi,e1,l5,hp,l4,w1,z13,G1,S1,v1,v2,v3,Nat.mul_one,h0,h1,h2,h3,f1,f2,f3,hd,l0,l1,l2,l3,p0,Int.toNat_natCast,z6J,V_or];unfold word4 at hn;have hw:z07 b (i+1)=(z07 b i).set i (nextW b (z07 b i) i):=rfl;rw[hw,hn]at hJ;exact hJ
 · intro J;have hd:decide (((16:Nat):Int)<16)=false:=rfl;simp -implicitDefEqProofs only[mkE,go_sem,hd];refine Go.Ab.L.count 48 (fun k=>mkE 89 [(2,.ptr σ.length 0),(3,.ptr (σ.length+1) 0),(5,I ((16+k:Nat):Int))]) (fun k=>σ++[.box (wv (z07 b 0)),.box (wv (z07 b (16+k)))]) ?_ ?_ rfl rfl
   · intro k hk J hJ;have hd:decide ((((16+k:Nat)):Int)<64)=true:=decide_eq_true (by omega)
     generalize hi:16+k=i at hd hJ⊢;have e:∀m:Nat,m≤i→IntKind.i64.wrap ((i:Int)-(m:Int))=((i-m:Nat):Int):=fun m hm=>by rw[←z0l (n:=i-m) (by omega)];congr 1;omega
     have f1:=e 15 (by omega)
     have f2:=e 2 (by omega)
     have f3:=e 16 (by omega)
     have f4:=e 7 (by omega)
     have k1:((15:Nat):Int)=15:=rfl;have k2:((2:Nat):Int)=2:=rfl;have k3:((16:Nat):Int)=16:=rfl;have k4:((7:Nat):Int)=7:=rfl;rw[k1]at f1;rw[k2]at f2;rw[k3]at f3;rw[k4]at f4;have l:∀m:Nat,(((i-m:Nat):Int)<((64:Nat):Int))=True:=fun m=>eq_true (by omega)
     have p0:∀n:Nat,((0:Int)≤(n:Int))=True:=fun n=>eq_true (Int.natCast_nonneg _)
     have w1:=z0M b i;have hh:∀m:Nat,(List.drop (i-m) (wv (z07 b i))).head?=some (V32 (gW (z07 b i) (i-m))):=fun m=>by rw[List.head?_drop,z2v (by omega)]
     have li:(i-15≤63)=True:=eq_true (by omega)
     have li:(i≤63)=True:=eq_true (by omega)
     have l0:((i:Int)<((64:Nat):Int))=True:=eq_true (by omega)
     have hp:=fun x=>z5n (w:=z07 b i) (i:=i) (by omega) x
     have hn:nextW b (z07 b i) i=gW (z07 b i) (i-16)+sg0 (gW (z07 b i) (i-15))+gW (z07 b i) (i-7)+sg1 (gW (z07 b i) (i-2)):=by unfold nextW;rw[if_neg (by omega)]
     have hw:z07 b (i+1)=(z07 b i).set i (nextW b (z07 b i) i):=rfl;have hi1:16+(k+1)=i+1:=by omega
     have wi:IntKind.i64.wrap ((i:Int)+1)=((i+1:Nat):Int):=by rw[←z0l (n:=i+1) (by omega)];congr 1
     rw[hi1,hw,hn]at hJ;unfold sg0 sg1 at hJ;simp -implicitDefEqProofs only[mkE,go_sem,hd,f1,f2,f3,f4,l,p0,G1,S1,w1,z13,hh,Nat.mul_one,Int.toNat_natCast,l0,li,hp,wi];have r7:∀(A:BitVec 32) s,Ans Tryz.prog 93 [V32 A,.pl (.int .i64 (-7))] s (V32 (ror A 7)) s:=fun A s=>z1F s A 7 (by decide) (by decide)
     have r18:∀(A:BitVec 32) s,Ans Tryz.prog 93 [V32 A,.pl (.int .i64 (-18))] s (V32 (ror A 18)) s:=fun A s=>z1F s A 18 (by decide) (by decide)
     have r17:∀(A:BitVec 32) s,Ans Tryz.prog 93 [V32 A,.pl (.int .i64 (-17))] s (V32 (ror A 17)) s:=fun A s=>z1F s A 17 (by decide) (by decide)
     have r19:∀(A:BitVec 32) s,Ans Tryz.prog 93 [V32 A,.pl (.int .i64 (-19))] s (V32 (ror A 19)) s:=fun A s=>z1F s A 19 (by decide) (by decide)
     have t3:Int.toNat 3=3:=rfl;have t10:Int.toNat 10=10:=rfl;have v3:=fun A=>V_shr A 3 (by decide)
     have v10:=fun A=>V_shr A 10 (by decide)
     refine CO.intro (r7 _ _) ?_;simp -implicitDefEqProofs only[go_sem];refine CO.intro (r18 _ _) ?_;simp -implicitDefEqProofs only[go_sem,V_xor,t3,v3];refine CO.intro (r17 _ _) ?_;simp -implicitDefEqProofs only[go_sem];refine CO.intro (r19 _ _) ?_;simp -implicitDefEqProofs only[go_sem,V_xor,t10,v10,f3,f4,l,p0,G1,S1,w1,z13,hh,Nat.mul_one,Int.toNat_natCast,l0,li,hp,wi,V_add];exact hJ
   · intro J;have hd:decide (((16+48:Nat):Int)<64)=false:=rfl;have w0:=z0M b 0;have w1:=z0M b 64;have z0:((0:Nat)+64≤64)=True:=eq_true (by decide)
     have a1:=z5m (z07 b 64);have k1:=z6e w1;have k2:=z9r w0;have ab:=z6L σ.length (z07 b 64);simp -implicitDefEqProofs only[mkE,go_sem,hd,G0,S0,G1,S1,w0,w1,z13,a1,k1,k2,List.append_nil];exact Fini.trim2 (σ':=σ) (ex:=[_,_]) (by simp -implicitDefEqProofs only[go_sem,resA,z03,rvA,oneOf,G0,w1,z13,k1]<;>rfl) rfl (Nat.le_refl _) ab hbel
end
structure S8 where
 a:BitVec 32
 b:BitVec 32
 c:BitVec 32
 d:BitVec 32
 e:BitVec 32
 f:BitVec 32
 g:BitVec 32
 h:BitVec 32
def S8.l (s:S8):List (BitVec 32):=[s.a,s.b,s.c,s.d,s.e,s.f,s.g,s.h]
def s8v (s:S8):List AV:=[V32 s.a,V32 s.b,V32 s.c,V32 s.d,V32 s.e,V32 s.f,V32 s.g,V32 s.h]
def t1W (K W:BitVec 32) (s:S8):BitVec 32:=s.h+(ror s.e 6 ^^^ ror s.e 11 ^^^ ror s.e 25)+((s.e &&& s.f) ^^^ (~~~ s.e &&& s.g))+K+W
def t2W (s:S8):BitVec 32:=(ror s.a 2 ^^^ ror s.a 13 ^^^ ror s.a 22)+((s.a &&& s.b) ^^^ (s.a &&& s.c) ^^^ (s.b &&& s.c))
def rnd (K W:BitVec 32) (s:S8):S8:=⟨t1W K W s+t2W s,s.a,s.b,s.c,s.d+t1W K W s,s.e,s.f,s.g⟩
def shaK:List Nat:=[1116352408,1899447441,3049323471,3921009573,961987163,1508970993,2453635748,2870763221,3624381080,310598401,607225278,1426881987,1925078388,2162078206,2614888103,3248222580,3835390401,4022224774,264347078,604807628,770255983,1249150122,1555081692,1996064986,2554220882,2821834349,2952996808,3210313671,3336571891,3584528711,113926993,338241895,666307205,773529912,1294757372,1396182291,1695183700,1986661051,2177026350,2456956037,2730485921,2820302411,3259730800,3345764771,3516065817,3600352804,4094571909,275423344,430227734,506948616,659060556,883997877,958139571,1322822218,1537002063,1747873779,1955562222,2024104815,2227730452,2361852424,2428436474,2756734187,3204031479,3329325298]
def kW (i:Nat):BitVec 32:=BitVec.ofNat 32 (shaK.getD i 0)
def rounds (w:List (BitVec 32)) (s:S8):Nat→S8
 |0=>s
 |i+1=>rnd (kW i) (gW w i) (rounds w s i)
def addTo (h x:List (BitVec 32)):Nat→List (BitVec 32)
 |0=>x
 |j+1=>(addTo h x j).set j (gW (addTo h x j) j+gW h j)
theorem z1M (h x:List (BitVec 32)) (hx:x.length=8):∀j,(addTo h x j).length=8
 |0=>hx
 |j+1=>by rw[addTo,List.length_set,z1M h x hx j]
def z2P (h:S8) (b:List UInt8):List (BitVec 32):=addTo h.l (rounds (z07 b 64) h 64).l 8
def kV:List Value:=shaK.map fun n:Nat=>Value.int .u32 (n:Int)
theorem zb4:∀n∈shaK,n<4294967296:=by decide +kernel
theorem zbQ {i:Nat} (h:i<64):(kW i).toNat=shaK.getD i 0:=by
 have hl:shaK.length=64:=rfl;have:=zb4 (shaK[i]'(by omega)) (List.getElem_mem _)
 unfold kW;rw[BitVec.toNat_ofNat,List.getD_eq_getElem?_getD,List.getElem?_eq_getElem (by omega),Option.getD_some]
 exact Nat.mod_eq_of_lt this
theorem z8e {i:Nat} (h:i<64):(List.map AV.pl (List.drop i kV)).head?=some (V32 (kW i)):=by
 have hl:shaK.length=64:=rfl;unfold kV;rw[List.head?_map,List.head?_drop,List.getElem?_map,List.getElem?_eq_getElem (by omega)]
 show some (AV.pl (Value.int .u32 ((shaK[i]'(by omega):Nat):Int)))=_
 unfold V32;rw[zbQ h,List.getD_eq_getElem?_getD,List.getElem?_eq_getElem (by omega),Option.getD_some]
section
variable (σ:St)
theorem z8f (h:S8) (b:List UInt8) (hb:b.length=64) (hG:∀ex,gloA (σ++ex) 0=some kV):Ans Tryz.prog 56 [.agg (s8v h),.agg (bv b)] σ (.agg (wv (z2P h b))) σ:=by
 have hl:=z0h b;have ha:=z1q b;have htk:List.take 64 (bv b)=bv b:=List.take_of_length_le (by rw[hl];omega)
 have hsp:=fun s=>z7w s b hb
 have wl:=z0M b 64;generalize hw0:z07 b 64=w at hsp wl;have wa:=z5m w;refine Ans.of_run' t56 (fun hbel _=>?_)
 unfold s8v;simp -implicitDefEqProofs only[c56,r56,go_sem,hl,hb,ha,htk];refine CO.intro (hsp _) ?_;simp -implicitDefEqProofs only[go_sem,z13,wl,wa,List.append_assoc,List.cons_append,List.nil_append,List.length_append,List.length_cons,List.length_nil,G0,S0,G1,S1];have hs8:([V32 h.a,V32 h.b,V32 h.c,V32 h.d,V32 h.e,V32 h.f,V32 h.g,V32 h.h]:List AV)=s8v (rounds w h 0):=rfl;refine Go.Ab.L.count 64 (fun i=>mkE 114 [(2,.rp (s8v h)),(4,.ptr σ.length 0),(5,.rp (wv w)),(6,.ptr (σ.length+1) 0),(21,I i)]) (fun i=>σ++[.box [.pl (.int .u32 0),.pl (.int .u32 0),.pl (.int .u32 0),.pl (.int .u32 0),.pl (.int .u32 0),.pl (.int .u32 0),.pl (.int .u32 0),.pl (.int .u32 0)],.box (s8v (rounds w h i))]) ?_ ?_ ?_ ?_
 · intro i hi J hJ;have hd:decide ((i:Int)<64)=true:=decide_eq_true (by omega)
   generalize hs:rounds w h i=s;have hw:rounds w h (i+1)=rnd (kW i) (gW w i) (rounds w h i):=rfl;rw[hw,hs]at hJ;have l0:((0:Int)<((8:Nat):Int))=True:=eq_true (by decide)
   have n0:Int.toNat 0=0:=rfl;have l1:((1:Int)<((8:Nat):Int))=True:=eq_true (by decide)
   have n1:Int.toNat 1=1:=rfl;have l2:((2:Int)<((8:Nat):Int))=True:=eq_true (by decide)
   have n2:Int.toNat 2=2:=rfl;have l3:((3:Int)<((8:Nat):Int))=True:=eq_true (by decide)
   have n3:Int.toNat 3=3:=rfl;have l4:((4:Int)<((8:Nat):Int))=True:=eq_true (by decide)
   have n4:Int.toNat 4=4:=rfl;have l5:((5:Int)<((8:Nat):Int))=True:=eq_true (by decide)
   have n5:Int.toNat 5=5:=rfl;have l6:((6:Int)<((8:Nat):Int))=True:=eq_true (by decide)
   have n6:Int.toNat 6=6:=rfl;have l7:((7:Int)<((8:Nat):Int))=True:=eq_true (by decide)
   have n7:Int.toNat 7=7:=rfl;have q6:∀(A:BitVec 32) s,Ans Tryz.prog 93 [V32 A,.pl (.int .i64 (-6))] s (V32 (ror A 6)) s:=fun A s=>z1F s A 6 (by decide) (by decide)
   have q11:∀(A:BitVec 32) s,Ans Tryz.prog 93 [V32 A,.pl (.int .i64 (-11))] s (V32 (ror A 11)) s:=fun A s=>z1F s A 11 (by decide) (by decide)
   have q25:∀(A:BitVec 32) s,Ans Tryz.prog 93 [V32 A,.pl (.int .i64 (-25))] s (V32 (ror A 25)) s:=fun A s=>z1F s A 25 (by decide) (by decide)
   have q2:∀(A:BitVec 32) s,Ans Tryz.prog 93 [V32 A,.pl (.int .i64 (-2))] s (V32 (ror A 2)) s:=fun A s=>z1F s A 2 (by decide) (by decide)
   have q13:∀(A:BitVec 32) s,Ans Tryz.prog 93 [V32 A,.pl (.int .i64 (-13))] s (V32 (ror A 13)) s:=fun A s=>z1F s A 13 (by decide) (by decide)
   have q22:∀(A:BitVec 32) s,Ans Tryz.prog 93 [V32 A,.pl (.int .i64 (-22))] s (V32 (ror A 22)) s:=fun A s=>z1F s A 22 (by decide) (by decide)
   have hm:(if IntKind.u32.signed=true then(-1:Int) else IntKind.u32.max)=4294967295:=rfl
   have hK:=fun ex=>hG ex
   have hkv:=z8e hi;have l64:((i:Int)<((64:Nat):Int))=True:=eq_true (by omega)
   have p0:((0:Int)≤(i:Int))=True:=eq_true (Int.natCast_nonneg _);have hwi:(List.drop i (wv w)).head?=some (V32 (gW w i)):=by rw[List.head?_drop,z2v (by omega)]
   have wi:IntKind.i64.wrap ((i:Int)+1)=((i+1:Nat):Int):=by rw[←z0l (n:=i+1) (by omega)];congr 1
   unfold s8v;simp -implicitDefEqProofs only[mkE,go_sem,hd,G1,S1,l0,l1,l2,l3,l4,l5,l6,l7,n0,n1,n2,n3,n4,n5,n6,n7,Nat.mul_one,List.drop_succ_cons,List.drop_zero,List.head?_cons];refine CO.intro (q6 _ _) ?_;simp -implicitDefEqProofs only[go_sem];refine CO.intro (q11 _ _) ?_;simp -implicitDefEqProofs only[go_sem,V_xor];refine CO.intro (q25 _ _) ?_;simp -implicitDefEqProofs only[go_sem,V_xor,V_and,hm,V_not,V_add,G1,S1,l0,l1,l2,l3,l4,l5,l6,l7,n0,n1,n2,n3,n4,n5,n6,n7,Nat.mul_one,List.drop_succ_cons,List.drop_zero,List.head?_cons,l64,p0,hwi,hK,hkv,Int.toNat_natCast];refine CO.intro (q2 _ _) ?_;simp -implicitDefEqProofs only[go_sem];refine CO.intro (q13 _ _) ?_;simp -implicitDefEqProofs only[go_sem,V_xor];refine CO.intro (q22 _ _) ?_;simp -implicitDefEqProofs only[go_sem,V_xor,V_and,hm,V_not,V_add,G1,S1,l0,l1,l2,l3,l4,l5,l6,l7,n0,n1,n2,n3,n4,n5,n6,n7,Nat.mul_one,List.drop_succ_cons,List.drop_zero,List.head?_cons,l64,p0,wi,Int.toNat_natCast];unfold rnd t1W t2W s8v at hJ;exact hJ
 · intro J0;have hd0:decide (((64:Nat):Int)<64)=false:=rfl;have hr:z2P h b=addTo h.l (rounds w h 64).l 8:=by unfold z2P;rw[←hw0]
   rw[hr];generalize rounds w h 64=x;have hx8:s8v x=wv (addTo h.l x.l 0):=rfl;have hh8:s8v h=wv h.l:=rfl;simp -implicitDefEqProofs only[mkE,go_sem,hd0];rw[hx8];refine Go.Ab.L.count 8 (fun j=>mkE 114 [(2,.rp (s8v h)),(4,.ptr σ.length 0),(6,.ptr (σ.length+1) 0),(101,I j)]) (fun j=>σ++[.box [.pl (.int .u32 0),.pl (.int .u32 0),.pl (.int .u32 0),.pl (.int .u32 0),.pl (.int .u32 0),.pl (.int .u32 0),.pl (.int .u32 0),.pl (.int .u32 0)],.box (wv (addTo h.l x.l j))]) ?_ ?_ rfl rfl
   · intro j hj J hJ;have hd:decide ((j:Int)<8)=true:=decide_eq_true (by omega)
     have l8:((j:Int)<((8:Nat):Int))=True:=eq_true (by omega)
     have p0:((0:Int)≤(j:Int))=True:=eq_true (Int.natCast_nonneg _);have w1:=z1M h.l x.l rfl j;have h1:(List.drop j (wv (addTo h.l x.l j))).head?=some (V32 (gW (addTo h.l x.l j) j)):=by rw[List.head?_drop,z2v (by omega)]
     have h2:(List.drop j (wv h.l)).head?=some (V32 (gW h.l j)):=by rw[List.head?_drop,z2v (by show j<8;exact hj)]
     have li:(j≤7)=True:=eq_true (by omega)
     have hp:=fun y=>z5n (w:=addTo h.l x.l j) (i:=j) (by omega) y
     have wi:IntKind.i64.wrap ((j:Int)+1)=((j+1:Nat):Int):=by rw[←z0l (n:=j+1) (by omega)];congr 1
     have hw:addTo h.l x.l (j+1)=(addTo h.l x.l j).set j (gW (addTo h.l x.l j) j+gW h.l j):=rfl;rw[hw]at hJ;rw[hh8]at hJ⊢;simp -implicitDefEqProofs only[mkE,go_sem,hd,l8,p0,G1,S1,w1,z13,h1,h2,Nat.mul_one,Int.toNat_natCast,V_add,li,hp,wi];exact hJ
   · intro J;have hd:decide (((8:Nat):Int)<8)=false:=rfl;have w1:=z1M h.l x.l rfl 8;have a1:=z5m (addTo h.l x.l 8);have k1:=z6e w1;have ab:=z6L σ.length (addTo h.l x.l 8);simp -implicitDefEqProofs only[mkE,go_sem,hd,G0,S0,G1,S1,w1,z13,a1,k1,List.append_nil,List.drop_succ_cons,List.drop_zero,List.drop_nil];exact Fini.trim2 (σ':=σ) (ex:=[_,_]) (by simp -implicitDefEqProofs only[go_sem,resA,z03,rvA,oneOf,G0,w1,z13,k1]<;>rfl) rfl (Nat.le_refl _) ab hbel
 · rfl
 · rfl
end
end Go.Proofs.YteakobbdgehlgaaGreatDoor.Sha
namespace Go.Proofs.YteakobbdgehlgaaGreatDoor.Sha
open Go Go.Ab Go.Cod
set_option maxRecDepth 100000
theorem z5o (v:AV):∀n:Nat,chunks 1 false n (z05 [v] n)=List.replicate n v
 |0=>rfl
 |n+1=>by
  rw[chunks,z05,List.replicate_succ];show v::chunks 1 false n (z05 [v] n)=_;rw[z5o v n]
theorem wrdB_len (w:Nat):(wrdB w).length=8:=rfl
theorem z19 (b:List UInt8) (f:AV→Bool) (h:∀c:UInt8,f (.pl (.int .u8 ((c.toNat:Nat):Int)))=true):(bv b).all f=true:=by
 unfold bv;rw[List.all_eq_true];intro x hx;obtain⟨c,_,rfl⟩:=List.mem_map.1 hx;exact h c
theorem z1U (n:Nat) (b:List UInt8):Bel n (.sl 1 (bv b)):=.sl 1 _ fun i hi=>by
 have e:(bv b)[i]'hi=.pl (.int .u8 (((b[i]'(by rw[z0h]at hi;exact hi)).toNat:Nat):Int)):=by simp[bv]
 rw[e];exact .pl _
theorem z6f (n:Nat) (b:List UInt8):Bel n (.agg (bv b)):=.agg _ fun i hi=>by
 have e:(bv b)[i]'hi=.pl (.int .u8 (((b[i]'(by rw[z0h]at hi;exact hi)).toNat:Nat):Int)):=by simp[bv]
 rw[e];exact .pl _
theorem z3R (a b:List UInt8):bv (a++b)=bv a++bv b:=List.map_append ..
abbrev Z8:AV:=.pl (.int .u8 0)
theorem zbR (n:Nat):bv (List.replicate n 0)=List.replicate n Z8:=by unfold bv;rw[List.map_replicate];rfl
def padZ (n:Nat):Nat:=(119-n%64)%64
def padB (b:List UInt8):List UInt8:=b++(128::(List.replicate (padZ b.length) 0++wrdB (8*b.length)))
theorem z2C (n:Nat):padZ n<64:=Nat.mod_lt _ (by decide)
theorem z4O (n:Nat):(n+1+padZ n)%64=56:=by unfold padZ;omega
theorem z4P (n i:Nat) (h:i<padZ n):(n+1+i)%64≠56:=by unfold padZ at h;omega
theorem z6O (b:List UInt8):(padB b).length%64=0:=by
 have:=z4O b.length;unfold padB;simp only[List.length_append,List.length_cons,List.length_replicate,wrdB_len];omega
def rowP (b:List UInt8) (j:Nat):List UInt8:=b++(128::(List.replicate (padZ b.length) 0++((wrdB (8*b.length)).take j++List.replicate (8-j) 0)))
theorem z9u (b:List UInt8):rowP b 8=padB b:=by unfold rowP padB;rw[List.take_of_length_le (by rw[wrdB_len];decide)];simp
theorem z6P (b:List UInt8) (j:Nat) (hj:j≤8):(rowP b j).length=b.length+1+padZ b.length+8:=by
 unfold rowP;simp only[List.length_append,List.length_cons,List.length_replicate,List.length_take,wrdB_len];omega
theorem z9v (b:List UInt8) (j:Nat) (hj:j<8):(rowP b j).set (b.length+1+padZ b.length+j) ((wrdB (8*b.length)).getD j 0)=rowP b (j+1):=by
 unfold rowP;have hw:=wrdB_len (8*b.length);generalize wrdB (8*b.length)=w at hw;have e:b.length+1+padZ b.length+j=b.length+(1+(padZ b.length+j)):=by omega
 rw[e,List.set_append_right _ _ (by omega),Nat.add_sub_cancel_left,Nat.add_comm 1,List.set_cons_succ,List.set_append_right _ _ (by simp)]
 have e2:padZ b.length+j-(List.replicate (padZ b.length) (0:UInt8)).length=j:=by simp
 rw[e2,List.set_append_right _ _ (by rw[List.length_take];omega)]
 have e3:j-(w.take j).length=0:=by rw[List.length_take];omega
 have e4:List.replicate (8-j) (0:UInt8)=0::List.replicate (8-(j+1)) 0:=by rw[show 8-j=(8-(j+1))+1 by omega,List.replicate_succ]
 rw[e3,e4,List.set_cons_zero,List.take_succ_eq_append_getElem (by omega),List.getD_eq_getElem?_getD,List.getElem?_eq_getElem (by omega),Option.getD_some,List.append_assoc]
 rfl
theorem z8h (b:List UInt8):(bv b++List.replicate (padZ b.length+9) Z8).set b.length (.pl (.int .u8 128))=bv (rowP b 0):=by
 rw[List.set_append_right _ _ (by rw[z0h];omega),z0h,Nat.sub_self,show padZ b.length+9=(padZ b.length+8)+1 by omega,List.replicate_succ,List.set_cons_zero]
 unfold rowP;rw[z3R,List.take_zero,List.nil_append,List.replicate_append_replicate];show _=bv b++(_::bv _);rw[zbR];rfl
theorem zb5 (D j:Nat) (hj:j<8):((((wrdB D).getD j 0).toNat:Nat):Int)=((D/2^(56-8*j)%256:Nat):Int):=by
 match j,hj with
 |0,_|1,_|2,_|3,_|4,_|5,_|6,_=>rfl
 |7,_ =>
  show((D.toUInt8.toNat:Nat):Int)=_;simp[Nat.toUInt8]
theorem zbS (n:Nat):IntKind.u8.wrap (n:Int)=((n%256:Nat):Int):=by
 simp only[IntKind.wrap,IntKind.bits,IntKind.signed];simp
theorem shr64 (D k:Nat) (h:k≤64):((D:Nat):Int).fdiv (2^(min k 64))=((D/2^k:Nat):Int):=by
 rw[Nat.min_eq_left h,Int.fdiv_eq_ediv_of_nonneg _ (Int.pow_nonneg (by omega))]
 simp
theorem z8i (b:List UInt8) (i:Nat) (c:UInt8):(bv b).set i (.pl (.int .u8 ((c.toNat:Nat):Int)))=bv (b.set i c):=by unfold bv;rw[List.map_set]
section
variable (σ:St)
theorem zb6 (b:List UInt8) (hb:b.length≤100000):Ans Tryz.prog 55 [.sl 1 (bv b)] σ (.sl 1 (bv (padB b))) σ:=by
 have hl:=z0h b;have w1:IntKind.i64.wrap (((b.length:Nat):Int)+1)=((b.length+1:Nat):Int):=by simp only[IntKind.wrap,IntKind.bits,IntKind.signed];simp;omega
 refine Ans.of_run' t55 (fun hbel _=>?_)
 simp -implicitDefEqProofs only[c55,r55,go_sem,hl,w1];refine Go.Ab.L.count (padZ b.length) (fun i=>mkE 45 [(0,.sl 1 (bv b)),(3,I ((b.length+1+i:Nat):Int))]) (fun _=>σ) ?_ ?_ rfl rfl
 · intro i hi J hJ;have hm:(((b.length+1+i:Nat):Int)).tmod 64=(((b.length+1+i)%64:Nat):Int):=rfl
   have hn:((((b.length+1+i)%64:Nat):Int) != 56)=true:=by
    have:=z4P b.length i hi;simp;omega
   have w2:IntKind.i64.wrap (((b.length+1+i:Nat):Int)+1)=((b.length+1+(i+1):Nat):Int):=by simp only[IntKind.wrap,IntKind.bits,IntKind.signed];have:=z2C b.length;simp;omega
   simp -implicitDefEqProofs only[mkE,go_sem,hm,hn,w2];exact hJ
 · intro J;have hm:(((b.length+1+padZ b.length:Nat):Int)).tmod 64=(((b.length+1+padZ b.length)%64:Nat):Int):=rfl;rw[z4O]at hm;have hn:(((56:Nat):Int) != 56)=false:=rfl;have hz:=z2C b.length;generalize hN:b.length+1+padZ b.length=N at hm;have w2:IntKind.i64.wrap ((N:Int)+8)=((N+8:Nat):Int):=by simp only[IntKind.wrap,IntKind.bits,IntKind.signed];simp;omega
   generalize hM:N+8=M at w2;have cm:(((M:Nat):Int)≤(M:Nat)∧((M:Nat):Int)≤4294967296)=True:=eq_true ⟨Int.le_refl _,by omega⟩
   have hr:List.take M (chunks 1 false M (z05 [AV.pl (.int .u8 0)] M))=List.replicate M (AV.pl (.int .u8 0)):=by rw[z5o,List.take_of_length_le (by simp)]
   have cm':(((M:Nat):Int)≤4294967296)=True:=eq_true (by omega)
   have hmin:b.length.min M=b.length:=Nat.min_eq_left (by omega)
   have tk:List.take b.length (bv b)=bv b:=List.take_of_length_le (by rw[hl];exact Nat.le_refl _)
   have dr:List.drop b.length (List.replicate M (AV.pl (.int .u8 0)))=List.replicate (padZ b.length+9) Z8:=by rw[List.drop_replicate];congr 1;omega
   have hl2:(List.replicate M (AV.pl (.int .u8 0))).length=M:=List.length_replicate;have hl3:(bv b++List.replicate (padZ b.length+9) Z8).length=M:=by rw[List.length_append,hl,List.length_replicate];omega
   have lt3:(((b.length:Nat):Int)<((M:Nat):Int))=True:=eq_true (by omega)
   have ge3:(bv b++List.replicate (padZ b.length+9) Z8)[b.length]?=some Z8:=by rw[List.getElem?_append_right (by omega),hl,Nat.sub_self,List.getElem?_replicate,if_pos (by omega)]
   have hr0:=z8h b;simp -implicitDefEqProofs only[mkE,go_sem,hm,hn,w2,cm,hl3,lt3,ge3,hr0,cm',hr,hl,hmin,tk,dr,hl2,z19,G0,S0,Int.toNat_natCast,Int.le_refl]
   have wd:IntKind.u64.wrap (IntKind.u64.wrap ((b.length:Nat):Int)*8)=((8*b.length:Nat):Int):=by
    have e:IntKind.u64.wrap ((b.length:Nat):Int)=((b.length:Nat):Int):=by simp only[IntKind.wrap,IntKind.bits,IntKind.signed];simp;omega
    rw[e];simp only[IntKind.wrap,IntKind.bits,IntKind.signed];simp;omega
   rw[wd];refine Go.Ab.L.count 8 (fun j=>mkE 45 [(3,I N),(4,.osl σ.length M),(5,.pl (.int .u64 ((8*b.length:Nat):Int))),(29,I j)]) (fun j=>σ++[.row 1 (bv (rowP b j))]) ?_ ?_ rfl rfl
   · intro j hj J hJ;have hd:decide ((j:Int)<8)=true:=decide_eq_true (by omega)
     have x1:IntKind.i64.wrap ((N:Int)+(j:Int))=((N+j:Nat):Int):=by simp only[IntKind.wrap,IntKind.bits,IntKind.signed];simp;omega
     have x2:IntKind.i64.wrap (8*(j:Int))=((8*j:Nat):Int):=by rw[←z0l (n:=8*j) (by omega)];congr 1
     have x3:IntKind.i64.wrap (56-((8*j:Nat):Int))=((56-8*j:Nat):Int):=by rw[←z0l (n:=56-8*j) (by omega)];congr 1;omega
     have p0:∀n:Nat,((0:Int)≤(n:Int))=True:=fun n=>eq_true (Int.natCast_nonneg _)
     have x4:=shr64 (8*b.length) (56-8*j) (by omega)
     have x5:=zb5 (8*b.length) j hj;have x6:=zbS (8*b.length/2^(56-8*j));rw[←x5]at x6;have wi:IntKind.i64.wrap ((j:Int)+1)=((j+1:Nat):Int):=by rw[←z0l (n:=j+1) (by omega)];congr 1
     have hlj:(rowP b j).length=M:=by rw[z6P b j (by omega)];omega
     have hlj2:=z0h (rowP b j);have lt4:(((N+j:Nat):Int)<((M:Nat):Int))=True:=eq_true (by omega)
     have ge4:(bv (rowP b j))[N+j]?=some (.pl (.int .u8 (((gB (rowP b j) (N+j)).toNat:Nat):Int))):=zak (by omega)
     have st:=z8i (rowP b j) (N+j) ((wrdB (8*b.length)).getD j 0);have st2:=z9v b j hj;rw[hN]at st2;rw[st2]at st;simp -implicitDefEqProofs only[mkE,go_sem,hd,x1,x2,x3,p0,x4,x6,wi,hlj,hlj2,lt4,ge4,st,G0,S0,Int.toNat_natCast];exact hJ
   · intro J;have hd:decide (((8:Nat):Int)<8)=false:=rfl;have e8:=z9u b;have hl8:(rowP b 8).length=M:=by rw[z6P b 8 (by decide)];omega
     have hl9:=z0h (rowP b 8);simp -implicitDefEqProofs only[mkE,go_sem,hd,G0,S0,hl8,hl9];rw[←e8];exact Fini.trim2 (σ':=σ) (ex:=[_]) rfl rfl (Nat.le_refl _) (z1U _ _) hbel
end
def zer32:List UInt8:=List.replicate 32 0
theorem z3g (s:S8):(s8v s).length=8:=rfl
theorem z2Q (s:S8):List.take 8 (s8v s)=s8v s:=rfl
theorem z4Q (s:S8):(s8v s).all AV.one=true:=rfl
theorem z6Q (s:S8):List.drop 8 (s8v s)=[]:=rfl
def toS (l:List (BitVec 32)):S8:=⟨gW l 0,gW l 1,gW l 2,gW l 3,gW l 4,gW l 5,gW l 6,gW l 7⟩
theorem toS_l {l:List (BitVec 32)} (h:l.length=8):wv l=s8v (toS l):=by
 match l,h with
 |[a,b,c,d,e,f,g,i],_=>rfl
theorem z4n (h:S8) (b:List UInt8):(z2P h b).length=8:=z1M _ _ rfl 8
def firstS:S8:=⟨1779033703,3144134277,1013904242,2773480762,1359893119,2600822924,528734635,1541459225⟩
def z1z (p:List UInt8):Nat→S8
 |0=>firstS
 |i+1=>toS (z2P (z1z p i) ((p.drop (64*i)).take 64))
def byteS (h:S8) (i:Nat):UInt8:=lo8 (gW h.l (i/4) >>> (24-8*(i%4)))
def outTo (h:S8):Nat→List UInt8
 |0=>List.replicate 32 0
 |i+1=>(outTo h i).set i (byteS h i)
theorem z1O (h:S8):∀i,(outTo h i).length=32
 |0=>List.length_replicate
 |i+1=>by rw[outTo,List.length_set,z1O h i]
def shaB (b:List UInt8):List UInt8:=outTo (z1z (padB b) ((padB b).length/64)) 32
theorem z1A (b:List UInt8):(shaB b).length=32:=z1O _ _
theorem z8j (b:List UInt8) (k:Nat):(bv b).take k=bv (b.take k):=by unfold bv;rw[List.map_take]
theorem z8k (b:List UInt8) (k:Nat):(bv b).drop k=bv (b.drop k):=by unfold bv;rw[List.map_drop]
section
variable (σ:St)
theorem G2 (x y z:Ob) (ex:St):(σ++x::y::z::ex)[σ.length+2]?=some z:=by rw[List.getElem?_append_right (by simp)];simp
theorem S2 (x y z u:Ob) (ex:St):(σ++x::y::z::ex).set (σ.length+2) u=σ++x::y::u::ex:=by rw[List.set_append_right _ _ (by simp)];simp
theorem zam {b:List UInt8} {i:Nat} (h:i<b.length) (x:UInt8):List.take i (bv b)++[.pl (.int .u8 ((x.toNat:Nat):Int))]++List.drop (i+1) (bv b)=bv (b.set i x):=by
 rw[←z8i,List.set_eq_take_append_cons_drop,if_pos (by rw[z0h];exact h)]
 simp
theorem z6g (b:List UInt8) (hb:b.length≤100000) (hG:∀ex,gloA (σ++ex) 0=some kV):Ans Tryz.prog 27 [.sl 1 (bv b)] σ (.agg (bv (shaB b))) σ:=by
 have hp:=fun s=>zb6 s b hb
 have h64:=z6O b;unfold shaB;have hpl:(padB b).length=64*((padB b).length/64):=by omega
 generalize padB b=p at hp h64 hpl;generalize hn:p.length/64=n at hpl;have hr:=fun ex h bl (hbl:bl.length=64)=>z8f (σ++ex) h bl hbl (fun ex2=>by rw[List.append_assoc];exact hG _)
 refine Ans.of_run' t27 (fun hbel _=>?_)
 simp -implicitDefEqProofs only[c27,r27,go_sem,List.append_assoc,List.cons_append,List.nil_append,List.length_append,List.length_cons,List.length_nil,G0,S0,G1,S1];refine CO.intro (hp _) ?_;simp -implicitDefEqProofs only[go_sem];refine Go.Ab.L.count n (fun i=>mkE 38 [(2,.ptr σ.length 0),(3,.ptr (σ.length+1) 0),(4,.sl 1 (bv (p.drop (64*i))))]) (fun i=>σ++[.box (bv zer32),.box (s8v (z1z p i))]) ?_ ?_ ?_ ?_
 · intro i hi J hJ;have hd:decide ((0:Int)<((p.drop (64*i)).length:Nat))=true:=decide_eq_true (by rw[List.length_drop];omega)
   have hlb:=z0h (p.drop (64*i));have hll:(p.drop (64*i)).length=p.length-64*i:=List.length_drop;have l64:((64:Int)≤((p.drop (64*i)).length:Nat))=True:=eq_true (by rw[hll];omega)
   have tk:=z8j (p.drop (64*i)) 64;have dk:=z8k (p.drop (64*i)) 64;have htl:((p.drop (64*i)).take 64).length=64:=by rw[List.length_take,hll];omega
   have hst:z1z p (i+1)=toS (z2P (z1z p i) ((p.drop (64*i)).take 64)):=rfl;have hre:=fun ex=>hr ex (z1z p i) _ htl
   rw[hst]at hJ;have t8:=toS_l (z4n (z1z p i) ((p.drop (64*i)).take 64));rw[t8]at hre;have n64:Int.toNat 64=64:=rfl;have n0:Int.toNat 0=0:=rfl;have tkl:List.take (p.drop (64*i)).length (bv (p.drop (64*i)))=bv (p.drop (64*i)):=List.take_of_length_le (by rw[hlb];exact Nat.le_refl _)
   have hdd:List.drop 64 (List.drop (64*i) p)=List.drop (64*(i+1)) p:=by rw[List.drop_drop];congr 1
   have hla:=z0h ((p.drop (64*i)).take 64);have hall:=z1q ((p.drop (64*i)).take 64);have tk2:List.take 64 (bv ((p.drop (64*i)).take 64))=bv ((p.drop (64*i)).take 64):=List.take_of_length_le (by rw[hla,htl];exact Nat.le_refl _)
   simp -implicitDefEqProofs only[mkE,go_sem,hd,hlb,l64,tk,dk,htl,G1,S1,n64,n0,List.drop_zero,z3g,z2Q,hla,hall,tk2];refine CD.intro (hre _) ?_;simp -implicitDefEqProofs only[mkE,go_sem,hd,hlb,l64,tk,dk,htl,G1,S1,n64,n0,List.drop_zero,z3g,z2Q,z4Q,z6Q,List.append_nil,hla,hall,tk2,hdd,tkl,Int.le_refl];exact hJ
 · intro J0;have hd0:decide ((0:Int)<((p.drop (64*n)).length:Nat))=false:=decide_eq_false (by rw[List.length_drop];omega)
   have hlb:=z0h (p.drop (64*n));have hzz:([.pl (.int .u8 0),.pl (.int .u8 0),.pl (.int .u8 0),.pl (.int .u8 0),.pl (.int .u8 0),.pl (.int .u8 0),.pl (.int .u8 0),.pl (.int .u8 0),.pl (.int .u8 0),.pl (.int .u8 0),.pl (.int .u8 0),.pl (.int .u8 0),.pl (.int .u8 0),.pl (.int .u8 0),.pl (.int .u8 0),.pl (.int .u8 0),.pl (.int .u8 0),.pl (.int .u8 0),.pl (.int .u8 0),.pl (.int .u8 0),.pl (.int .u8 0),.pl (.int .u8 0),.pl (.int .u8 0),.pl (.int .u8 0),.pl (.int .u8 0),.pl (.int .u8 0),.pl (.int .u8 0),.pl (.int .u8 0),.pl (.int .u8 0),.pl (.int .u8 0),.pl (.int .u8 0),.pl (.int .u8 0)]:List AV)=bv zer32:=rfl;generalize z1z p n=H;simp -implicitDefEqProofs only[mkE,go_sem,hd0,hlb,List.append_assoc,List.cons_append,List.nil_append,List.length_append,List.length_cons,List.length_nil];refine Go.Ab.L.count 32 (fun i=>mkE 38 [(2,.ptr σ.length 0),(3,.ptr (σ.length+1) 0),(5,.ptr (σ.length+2) 0),(21,I i)]) (fun i=>σ++[.box (bv zer32),.box (s8v H),.box (bv (outTo H i))]) ?_ ?_ rfl rfl
   · intro i hi J hJ;have hd:decide ((i:Int)<32)=true:=decide_eq_true (by omega)
     have q1:((i:Int)).tdiv 4=((i/4:Nat):Int):=rfl;have q2:((i:Int)).tmod 4=((i%4:Nat):Int):=rfl;have q3:IntKind.i64.wrap (8*((i%4:Nat):Int))=((8*(i%4):Nat):Int):=by rw[←z0l (n:=8*(i%4)) (by omega)];congr 1
     have q4:IntKind.i64.wrap (24-((8*(i%4):Nat):Int))=((24-8*(i%4):Nat):Int):=by rw[←z0l (n:=24-8*(i%4)) (by omega)];congr 1;omega
     have q5:IntKind.i64.wrap ((i/4:Nat):Int)=((i/4:Nat):Int):=z0l (by omega)
     have p0:∀n:Nat,((0:Int)≤(n:Int))=True:=fun n=>eq_true (Int.natCast_nonneg _)
     have l8:(((i/4:Nat):Int)<((8:Nat):Int))=True:=eq_true (by omega)
     have l32:((i:Int)<((32:Nat):Int))=True:=eq_true (by omega)
     have hh:(List.drop (i/4) (s8v H)).head?=some (V32 (gW H.l (i/4))):=by rw[show s8v H=wv H.l from rfl,List.head?_drop,z2v (by show i/4<8;omega)]
     have v1:=V_shr (gW H.l (i/4)) (24-8*(i%4)) (by omega)
     have v2:=z6K (gW H.l (i/4) >>> (24-8*(i%4)));have wi:IntKind.i64.wrap ((i:Int)+1)=((i+1:Nat):Int):=by rw[←z0l (n:=i+1) (by omega)];congr 1
     have w1:=z1O H i;have w2:=z0h (outTo H i);have li:(i≤31)=True:=eq_true (by omega)
     have hp:=zam (b:=outTo H i) (i:=i) (by omega)
     have hw:outTo H (i+1)=(outTo H i).set i (byteS H i):=rfl;rw[hw]at hJ;unfold byteS at hJ;simp -implicitDefEqProofs only[mkE,go_sem,hd,q1,q2,q3,q4,q5,p0,l8,l32,hh,v1,v2,wi,w1,w2,li,hp,G1,S1,G2,S2,Nat.mul_one,Int.toNat_natCast];exact hJ
   · intro J;have hd:decide (((32:Nat):Int)<32)=false:=rfl;have w1:=z1O H 32;have w2:=z0h (outTo H 32);have w3:(bv zer32).length=32:=rfl;have a1:=z1q (outTo H 32);have k1:List.take 32 (bv (outTo H 32))=bv (outTo H 32):=List.take_of_length_le (by rw[w2,w1];exact Nat.le_refl _)
     have k2:List.drop 32 (bv zer32)=[]:=rfl;simp -implicitDefEqProofs only[mkE,go_sem,hd,G0,S0,G1,S1,G2,S2,w1,w2,w3,a1,k1,k2,List.append_nil];exact Fini.trim2 (σ':=σ) (ex:=[_,_,_]) (by simp -implicitDefEqProofs only[go_sem,resA,z03,rvA,oneOf,G0,w1,w2,k1]<;>rfl) rfl (Nat.le_refl _) (z6f _ _) hbel
 · rfl
 · rfl
end
end Go.Proofs.YteakobbdgehlgaaGreatDoor.Sha
namespace Go.Proofs.YteakobbdgehlgaaGreatDoor
open Go Go.Ab
set_option maxRecDepth 100000
abbrev Lab:=ByteArray×ByteArray
abbrev lv (x:Lab):AV:=.agg [Sx x.1,Sx x.2]
def lvs (L:List Lab):List AV:=L.map lv
theorem z1V (L:List Lab):(lvs L).length=L.length:=List.length_map ..
theorem zb7 (L:List Lab) (i:Nat) (h:i<L.length):(lvs L)[i]?=some (lv L[i]):=by simp[lvs,h]
section
variable (σ:St)
theorem z1i {i n:Nat} (h:i<n):((i:Int)<(n:Nat))=True:=by simp;omega
theorem zb8 {i n:Nat} (h:¬i<n):((i:Int)<(n:Nat))=False:=by simp;omega
theorem dec_lt {i n:Nat} (h:i<n):decide ((i:Int)<(n:Nat))=true:=by simp;omega
theorem zb9 {i n:Nat} (h:¬i<n):decide ((i:Int)<(n:Nat))=false:=by simp;omega
theorem wrap_succ {i:Nat} (h:i≤100000):IntKind.i64.wrap ((i:Int)+1)=((i+1:Nat):Int):=by rw[wrapN (by omega) (by omega)];rfl
def leS (a b:ByteArray):Bool:=Op.bytesLess a.toList b.toList||a.toList==b.toList
end
abbrev noL:Lab:=(⟨#[]⟩,⟨#[]⟩)
def pos (out:List Lab) (x:Lab):Nat→Nat
 |0=>0
 |n+1=>if Op.bytesLess x.1.toList (out.getD n noL).1.toList then pos out x n else n+1
theorem B_pl (n:Nat) (v:Value):Bel n (.pl v)=True:=eq_true (.pl v)
theorem B_any (n:Nat):Bel n .any=True:=eq_true .any
theorem z4o (n:Nat):Bel n .nils=True:=eq_true .nils
theorem B_tup (n:Nat):Bel n (.tup [])=True:=eq_true (.tup _ fun i hi=>absurd hi (Nat.not_lt_zero _))
theorem B_sl0 (n k:Nat):Bel n (.sl k [])=True:=eq_true (.sl k [] fun i hi=>absurd hi (Nat.not_lt_zero _))
theorem B_osl (n l k:Nat):Bel n (.osl l k)=(l<n):=by
 apply propext;constructor
 · intro h;cases h;assumption
 · intro h;exact .osl l k h
theorem B_ptr (n l k:Nat):Bel n (.ptr l k)=(l<n):=by
 apply propext;constructor
 · intro h;cases h;assumption
 · intro h;exact .ptr l k h
section
variable (σ:St)
theorem g0 (x:Ob) (ex:St):(σ++x::ex)[σ.length]?=some x:=by rw[List.getElem?_append_right (by simp)];simp
theorem s0 (x y:Ob) (ex:St):(σ++x::ex).set σ.length y=σ++y::ex:=by rw[List.set_append_right _ _ (by simp)];simp
end
section
variable (σ:St)
theorem g1 (x y:Ob) (ex:St):(σ++x::y::ex)[σ.length+1]?=some y:=by rw[List.getElem?_append_right (by simp)];simp
theorem s1 (x y z:Ob) (ex:St):(σ++x::y::ex).set (σ.length+1) z=σ++x::z::ex:=by rw[List.set_append_right _ _ (by simp)];simp
end
end Go.Proofs.YteakobbdgehlgaaGreatDoor
namespace Go.Proofs.YteakobbdgehlgaaGreatDoor
open Go Go.Ab Go.Cod
set_option maxRecDepth 100000
abbrev UN (n:Nat):AV:=.pl (.int .u64 n)
def bc (c:UInt8):AV:=.pl (.int .u8 c.toNat)
def byv (b:Byt):List AV:=b.map bc
theorem z0d (b:Byt):(byv b).length=b.length:=List.length_map ..
theorem zba:byv []=[]:=rfl
theorem z6R (c:UInt8) (b:Byt):byv (c::b)=bc c::byv b:=rfl
theorem z2i (a b:Byt):byv (a++b)=byv a++byv b:=List.map_append ..
theorem z3u (b:Byt) (k:Nat):(byv b).take k=byv (b.take k):=by simp[byv]
theorem z3v (b:Byt) (k:Nat):(byv b).drop k=byv (b.drop k):=by simp[byv]
theorem z3w (b:Byt) (f:AV→Bool) (h:∀c:UInt8,f (bc c)=true):(byv b).all f=true:=by
 simp only[byv,List.all_map,List.all_eq_true];intro c _;exact h c
theorem z8l (b:Byt) (i:Nat) (h:i<b.length):(byv b)[i]?=some (bc b[i]):=by simp[byv,h]
theorem zbT (n:Nat) (c:UInt8):Bel n (bc c):=.pl _
theorem z1W (n:Nat) (b:Byt):Bel n (.sl 1 (byv b)):=.sl 1 _ fun i hi=>by
 have:(byv b)[i]=bc (b[i]'(by rw[←z0d];exact hi)):=by simp[byv]
 rw[this];exact zbT n _
theorem z9w (s:ByteArray):(s.data.toList.map fun b=>(AV.pl (.int .u8 b.toNat)))=byv s.data.toList:=rfl
theorem z29:∀b:Byt,byteL (byv b)=some (b.map fun c=>(c.toNat:Int))
 |[]=>rfl
 |c::b=>by simp only[z6R,bc,byteL,z29 b,Option.map_some,List.map_cons]
theorem z2j (b:Byt):textOf (b.map fun c=>(c.toNat:Int))=⟨b.toArray⟩:=by
 unfold textOf;congr 2
 rw[List.map_map]
 conv=>rhs;rw[←List.map_id b]
 apply List.map_congr_left;intro c _;simp
theorem z1r {n:Nat} (h:n<18446744073709551616):IntKind.u64.wrap (n:Int)=(n:Int):=by
 simp only[IntKind.wrap,IntKind.bits,IntKind.signed];simp;omega
theorem z8m {n:Nat}:IntKind.u8.wrap (n:Int)=((n%256:Nat):Int):=by
 simp only[IntKind.wrap,IntKind.bits,IntKind.signed];simp
theorem or128:∀m:Fin 256,IntKind.u8.wrap ((BitVec.ofInt 8 (m.val:Int) ||| BitVec.ofInt 8 128).toNat:Int)=((m.val%128+128:Nat):Int):=by decide +kernel
theorem bc_of {n:Nat} (h:n<256):AV.pl (.int .u8 n)=bc n.toUInt8:=by
 rw[bc,toNat_toUInt8 h]
theorem row1 (σ:St) (x:Ob):(σ++[x])[σ.length]?=some x:=by simp
theorem shr7 (n:Nat):((n:Int).fdiv (2^min (7:Int).toNat 64))=((n/128:Nat):Int):=by
 have:(min (7:Int).toNat 64)=7:=rfl;rw[this];rw[Int.fdiv_eq_ediv_of_nonneg _ (by decide)]
 rfl
theorem z6S:∀(k n:Nat),n<128^(k+1)→(putN n).length≤k+1
 |0,n,h=>by rw[z14 (by simpa using h)];simp
 |k+1,n,h=>by
  by_cases h1:n<128
  · rw[z14 h1];simp
  · rw[z4L h1,List.length_cons];have:=z6S k (n/128) (Nat.div_lt_of_lt_mul (by rw[Nat.pow_succ,Nat.mul_comm]at h;exact h))
    omega
theorem z0P {n:Nat} (h:n<18446744073709551616):(putN n).length≤10:=z6S 9 n (Nat.lt_of_lt_of_le h (by decide))
theorem z8n (n:Nat):IntKind.u8.wrap ((BitVec.ofInt 8 (((n%256:Nat):Int)) ||| BitVec.ofInt 8 128).toNat:Int)=((n%128+128:Nat):Int):=by
 have:=or128 ⟨n%256,Nat.mod_lt _ (by decide)⟩
 simp only[show(n%256)%128=n%128 by omega]at this
 exact this
theorem u8_or (n:Nat):IntKind.u8.wrap ((BitVec.ofInt IntKind.u8.bits (((n%256:Nat):Int)) ||| BitVec.ofInt IntKind.u8.bits 128).toNat:Int)=((n%128+128:Nat):Int):=z8n n
theorem intle (a b:Nat):decide ((a:Int)≤(b:Int))=decide (a≤b):=by rw[Bool.eq_iff_iff];simp
theorem Fini.ret3 {n m:Nat} {rvs:List RV} {r r':AV} {σ σ':St} {env:Env} (h:resA env σ rvs=some r') (e:r'=r) (e':σ=σ'):Fini m rvs r σ' .ret env σ:=by
 subst e;subst e';exact Fini.ret h
section
variable (σ:St)
theorem z6h (n:Nat) (hn:n<18446744073709551616):Ans Tryz.prog 50 [UN n] σ (.osl σ.length (putN n).length) (σ++[.row 1 (byv (putN n))]):=by
 have h10:=z0P hn;refine Ans.of_run t50 ?_;simp -implicitDefEqProofs only[c50,r50,go_sem];refine Go.Ab.L.intro (α:={ p:Nat×Byt // p.1<18446744073709551616∧p.2++putN p.1=putN n }) (fun p=>p.1.1) (fun p=>mkE 19 [(0,UN p.1.1),(3,.osl σ.length p.1.2.length)]) (fun p=>σ++[.row 1 (byv p.1.2)]) ?_ ⟨(n,[]),hn,rfl⟩ rfl rfl
 rintro⟨⟨m,pre⟩,hm,hp⟩ J hJ;have hl:pre.length+(putN m).length≤10:=by rw[←List.length_append,hp];exact h10
 have hx:∀c:Int,(byv pre++[AV.pl (.int .u8 c)]).length=pre.length+1:=fun c=>by simp[z0d]
 have d0:=intle 128 m;simp only[Int.cast_ofNat_Int]at d0;have hw:=z1r hm;have hle:pre.length+1≤2^32:=by omega
 by_cases h:m<128
 · have d1:decide ((128:Int)≤m)=false:=by simp;omega
   have d2:IntKind.u8.wrap (m:Int)=m:=by rw[z8m];congr 1;omega
   simp -implicitDefEqProofs only[mkE,go_sem,d1,row1,z0d,List.length_singleton,hle,d2];refine Fini.ret3 (n:=0) rfl ?_ ?_
   · show AV.osl σ.length (pre.length+1)=AV.osl σ.length (putN n).length;rw[←hp,z14 h];simp
   · rw[List.set_append_right _ _ (Nat.le_refl _)];simp only[Nat.sub_self,List.set_cons_zero];rw[←hp,z2i,z14 h,bc_of (show m<256 by omega)]
     rfl
 · have d1:decide ((128:Int)≤m)=true:=by simp;omega
   simp -implicitDefEqProofs only[mkE,go_sem,d1,row1,z0d,List.length_singleton,hle,z8m (n:=m),u8_or,z8n,shr7,z1r (show m/128<18446744073709551616 by omega)]
   rw[List.set_append_right _ _ (Nat.le_refl _)];simp only[Nat.sub_self,List.set_cons_zero]
   have hgo:=hJ ⟨(m/128,pre++[(m%128+128).toUInt8]),by simp only;omega,by
    rw[←hp];simp only[List.append_assoc,List.singleton_append];rw[z4L h]⟩ (by simp only;omega)
   simp only[z2i,List.length_append,List.length_singleton]at hgo
   have key:∀v:Int,v=((m%128+128:Nat):Int)→J (mkE 19 [(0,UN (m/128)),(3,.osl σ.length (pre.length+1))]) (σ++[Ob.row 1 (byv pre++[AV.pl (.int .u8 v)])]):=by
    rintro _ rfl;rw[bc_of (show m%128+128<256 by omega)]
    exact hgo
   exact key _ (z8n m)
theorem z3S (s:ByteArray) (hs:s.size≤4294967280):Ans Tryz.prog 51 [Sx s] σ (.sl 1 (byv (txtB s))) σ:=by
 have h10:=z0P (n:=s.size) (by omega)
 have hsz:=z27 s;have hw:=z1r (n:=s.size) (by omega)
 have hle:(putN s.size).length+s.size≤2^32:=by omega
 refine Ans.of_run' t51 (fun hbel _=>?_)
 simp -implicitDefEqProofs only[c51,r51,go_sem,hw];refine CO.intro (z6h σ s.size (by omega)) ?_
 simp -implicitDefEqProofs only[go_sem,z9w,row1,z0d,hsz,hle];simp -implicitDefEqProofs only[go_sem,g0,s0,z0d,hsz,←z2i,List.length_append];exact Fini.trim2 (σ':=σ) (by show _=some (AV.sl 1 (byv (txtB s)));rfl) rfl (Nat.le_refl _) (z1W _ _) hbel
end
end Go.Proofs.YteakobbdgehlgaaGreatDoor
