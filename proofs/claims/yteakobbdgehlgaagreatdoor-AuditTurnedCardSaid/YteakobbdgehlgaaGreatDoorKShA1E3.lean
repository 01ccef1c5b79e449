/- What the functions do, over abstract values: printed by a program, checked by the kernel. No condition. -/
import Derived.Test.YteakobbdgehlgaaGreatDoorProg
import Derived.Test.YteakobbdgehlgaaGreatDoorAbStepE3
import Derived.Test.YteakobbdgehlgaaGreatDoorKMCode2E3
import Derived.Test.YteakobbdgehlgaaGreatDoorAbSXE3
import Derived.Test.YteakobbdgehlgaaGreatDoorAbArgE3
set_option linter.unusedSimpArgs false
set_option linter.unusedVariables false
set_option linter.unusedSectionVars false
set_option maxRecDepth 100000
namespace Go.Proofs.YteakobbdgehlgaaGreatDoor
open Go Go.Ab
def c143:ACode :=
 (sq_ [pr_ 2 mf_]
 (.seq (sq_ [mv_ 5 0,
 pr_ 6 (.lenv (.tmp 5)),
 pr_ 7 (bk_ .gtr 6 .i64 5)]
 (.cond (.tmp 7)
 (sq_ [pr_ 2 mf_]
 .ret)
 .skip))
 (.seq (sq_ [mv_ 8 0,
 pr_ 9 (.lenv (.tmp 8)),
 pr_ 10 (mi_ .i64 0)]
 (.block 0 (.loop [1,2,3,4,5,6,7,11,12,13,14,15,16,17,18,19,20,21,22,23,24,25,26,27,28,29,30,31,32] (sq_ [pr_ 11 (bt_ .lss 10 9)]
 (.seq (.cond (.tmp 11)
 .skip
 (.exit 0))
 (.seq (.block 1 (sq_ [mv_ 12 10,
 pr_ 13 (.iadrs 3 (.tmp 8) (.tmp 10)),
 pr_ 14 (lt_ 3 13),
 pr_ 4 (.allocm [.pl (.int .i64 0),.pl (.string .empty),.pl (.string .empty)]),
 mv_ 3 12,
 st_ (so_ 3 4 14)]
 (.seq (.draw [⟨pr_ 15 (lt_ 3 4),[],false,0,0⟩,
 ⟨c1_ 16 155 15,[0],true,0,0⟩,
 ⟨pr_ 17 (no_ 16),[0,1],false,1,1⟩,
 ⟨mv_ 18 17,[0,1,2],false,1,1⟩,
 ⟨gp_ 19 18 false (mo_ 3),[0,1,2,3],false,1,1⟩,
 ⟨gp_ 20 18 false (bk_ .gtr 19 .i64 0),[0,1,2,3,4],false,1,1⟩,
 ⟨gp_ 21 18 false (mo_ 20),(List.range 6),false,1,1⟩,
 ⟨gp_ 22 21 true (mo_ 0),(List.range 7),false,1,1⟩,
 ⟨gp_ 23 21 true (mo_ 3),(List.range 7),false,1,1⟩,
 ⟨gp_ 24 21 true (bk_ .sub 23 .i64 1),[0,1,2,3,4,5,6,8],false,1,1⟩,
 ⟨gp_ 25 21 true (.iadrs 3 (.tmp 22) (.tmp 24)),(List.range 10),false,1,1⟩,
 ⟨gp_ 26 21 true (lt_ 3 25),(List.range 11),false,1,1⟩,
 ⟨gp_ 27 21 true (lt_ 3 4),(List.range 7),false,1,1⟩,
 ⟨gc_ 28 21 true 156 [(.tmp 26),(.tmp 27)],(List.range 13),true,0,0⟩,
 ⟨gp_ 29 21 true (bk_ .geq 28 .i64 0),(List.range 14),false,2,2⟩,
 ⟨gp_ 30 18 false (pa_ 21 29),(List.range 15),false,2,2⟩,
 ⟨pr_ 31 (po_ 18 30),(List.range 16),false,2,2⟩])
 (.cond (.tmp 31)
 (sq_ [pr_ 2 mf_]
 .ret)
 .skip))))
 (.after (.after (.ops [pr_ 32 (bk_ .add 10 .i64 1),
 mv_ 10 32]) (.clear [4])) (.keep 0))))))))
 (sq_ [pr_ 2 mt_]
 .ret))))
def o143:List Tmp:=[4]
def r143:List RV:=[.tmp 2]
theorem t143:Text Tryz.prog 143 o143 c143 r143 33:=.mk_ Tryz.f143 rfl
def c144:ACode :=
 (sq_ [pr_ 2 (.mov (.const (.float Go.FloatKind.f64 0)))]
 (sq_ [mv_ 6 0,
 c1_ 7 130 6,
 c1_ 8 129 7,
 mv_ 5 8,
 pr_ 9 (ex_ 0 5),
 pr_ 10 (ex_ 1 5),
 mv_ 3 9,
 mv_ 4 10]
 (sq_ [mv_ 11 0,
 mv_ 12 4,
 cl_ 13 120 [(.tmp 11),(.tmp 12)]]
 (sq_ [mv_ 14 3,
 mv_ 2 14]
 .ret))))
def o144:List Tmp:=[]
def r144:List RV:=[.tmp 2]
theorem t144:Text Tryz.prog 144 o144 c144 r144 15:=.mk_ Tryz.f144 rfl
def c145:ACode :=
 (sq_ [pr_ 1 (.boxr (.tmp 0)),
 pr_ 2 mf_]
 (.seq (sq_ [pr_ 3 (fa_ 0 1),
 pr_ 4 (lf_ 1 3)]
 (.cond (.tmp 4)
 (sq_ [pr_ 5 (fa_ 1 1),
 pr_ 6 (lf_ 1 5),
 c1_ 7 149 6,
 pr_ 8 (bk_ .eql 7 .u64 0),
 mv_ 9 8,
 gp_ 10 9 true (fa_ 2 1),
 gp_ 11 9 true (lf_ 1 10),
 gc_ 12 9 true 149 [(.tmp 11)],
 gp_ 13 9 true (bk_ .eql 12 .u64 0),
 pr_ 14 (pa_ 9 13),
 mv_ 2 14]
 .ret)
 .skip))
 (sq_ [pr_ 15 (fa_ 1 1),
 pr_ 16 (lf_ 1 15),
 pr_ 17 (fa_ 2 1),
 pr_ 18 (lf_ 1 17),
 pr_ 19 (bt_ .leq 16 18),
 mv_ 2 19]
 .ret)))
def o145:List Tmp:=[]
def r145:List RV:=[.tmp 2]
theorem t145:Text Tryz.prog 145 o145 c145 r145 20:=.mk_ Tryz.f145 rfl
def c146:ACode :=
 (sq_ [pr_ 1 (.boxr (.tmp 0)),
 pr_ 2 mf_]
 (.seq (sq_ [pr_ 5 (fa_ 0 1),
 pr_ 6 (lf_ 1 5),
 pr_ 7 (.lenv (.tmp 6)),
 pr_ 8 (bk_ .eql 7 .i64 0),
 mv_ 9 8,
 gp_ 10 9 false (fa_ 1 1),
 gp_ 11 9 false (lf_ 1 10),
 gp_ 12 9 false (.lenv (.tmp 11)),
 gp_ 13 9 false (bk_ .eql 12 .i64 0),
 pr_ 14 (po_ 9 13),
 mv_ 15 14,
 gp_ 16 15 false (fa_ 0 1),
 gp_ 17 15 false (lf_ 1 16),
 gc_ 18 15 false 143 [(.tmp 17)],
 gp_ 19 15 false (no_ 18),
 pr_ 20 (po_ 15 19),
 mv_ 21 20,
 gp_ 22 21 false (fa_ 1 1),
 gp_ 23 21 false (lf_ 1 22),
 gc_ 24 21 false 143 [(.tmp 23)],
 gp_ 25 21 false (no_ 24),
 pr_ 26 (po_ 21 25),
 mv_ 27 26,
 gp_ 28 27 false (fa_ 2 1),
 gp_ 29 27 false (lt_ 3 28),
 gc_ 30 27 false 145 [(.tmp 29)],
 gp_ 31 27 false (no_ 30),
 pr_ 32 (po_ 27 31),
 mv_ 33 32,
 gp_ 34 33 false (fa_ 5 1),
 gp_ 35 33 false (lf_ 1 34),
 gp_ 36 33 false (.lenv (.tmp 35)),
 gp_ 37 33 false (bk_ .gtr 36 .i64 4),
 pr_ 38 (po_ 33 37)]
 (.cond (.tmp 38)
 (sq_ [pr_ 2 mf_]
 .ret)
 .skip))
 (.seq (sq_ [pr_ 39 (fa_ 5 1),
 pr_ 40 (lf_ 1 39),
 pr_ 41 (.lenv (.tmp 40)),
 pr_ 42 (mi_ .i64 0)]
 (.block 0 (.loop [0,2,3,4,5,6,7,8,9,10,11,12,13,14,15,16,17,18,19,20,21,22,23,24,25,26,27,28,29,30,31,32,33,34,35,36,37,38,39,43,44,45,46,47,48,49,50,51,52,53,54,55,56,57,58,59,60,61,62,63,64] (sq_ [pr_ 43 (bt_ .lss 42 41)]
 (.seq (.cond (.tmp 43)
 .skip
 (.exit 0))
 (.seq (.block 1 (sq_ [mv_ 44 42,
 pr_ 45 (.iadrs 1 (.tmp 40) (.tmp 42)),
 pr_ 46 (lf_ 1 45),
 mv_ 3 44,
 mv_ 4 46]
 (sq_ [mv_ 47 4,
 c1_ 48 157 47,
 pr_ 49 (no_ 48),
 mv_ 50 49,
 gp_ 51 50 false (mo_ 3),
 gp_ 52 50 false (bk_ .gtr 51 .i64 0),
 gp_ 53 50 false (mo_ 52),
 gp_ 54 53 true (mo_ 4),
 gp_ 55 53 true (fa_ 5 1),
 gp_ 56 53 true (lf_ 1 55),
 gp_ 57 53 true (mo_ 3),
 gp_ 58 53 true (bk_ .sub 57 .i64 1),
 gp_ 59 53 true (.iadrs 1 (.tmp 56) (.tmp 58)),
 gp_ 60 53 true (lf_ 1 59),
 gp_ 61 53 true (bt_ .leq 54 60),
 gp_ 62 50 false (pa_ 53 61),
 pr_ 63 (po_ 50 62)]
 (.cond (.tmp 63)
 (sq_ [pr_ 2 mf_]
 .ret)
 .skip))))
 (.ops [pr_ 64 (bk_ .add 42 .i64 1),
 mv_ 42 64])))))))
 (sq_ [pr_ 2 mt_]
 .ret))))
def o146:List Tmp:=[]
def r146:List RV:=[.tmp 2]
theorem t146:Text Tryz.prog 146 o146 c146 r146 65:=.mk_ Tryz.f146 rfl
def c147:ACode :=
 (sq_ [pr_ 2 mf_]
 (.seq (sq_ [mv_ 5 0,
 pr_ 6 (.lenv (.tmp 5)),
 pr_ 7 (bk_ .lss 6 .i64 1),
 mv_ 8 7,
 gp_ 9 8 false (mo_ 0),
 gp_ 10 8 false (.lenv (.tmp 9)),
 gp_ 11 8 false (bk_ .gtr 10 .i64 6),
 pr_ 12 (po_ 8 11)]
 (.cond (.tmp 12)
 (sq_ [pr_ 2 mf_]
 .ret)
 .skip))
 (.seq (sq_ [mv_ 13 0,
 pr_ 14 (.lenv (.tmp 13)),
 pr_ 15 (mi_ .i64 0)]
 (.block 0 (.loop [1,2,3,4,5,6,7,8,9,10,11,12,16,17,18,19,20,21,22,23,24,25,26,27,28,29,30,31,32,33,34,35,36,37,38,39,40,41,42,43,44,45] (sq_ [pr_ 16 (bt_ .lss 15 14)]
 (.seq (.cond (.tmp 16)
 .skip
 (.exit 0))
 (.seq (.block 1 (sq_ [mv_ 17 15,
 pr_ 18 (.iadrs 2 (.tmp 13) (.tmp 15)),
 pr_ 19 (lt_ 2 18),
 pr_ 4 (.allocm [.pl (.string .empty),.pl (.string .empty)]),
 mv_ 3 17,
 st_ (so_ 2 4 19)]
 (.seq (.after (.after (.draw [⟨pr_ 20 (fa_ 0 4),[],false,0,0⟩,
 ⟨pr_ 21 (lf_ 1 20),[0],false,0,0⟩,
 ⟨c1_ 22 157 21,[0,1],true,0,0⟩,
 ⟨pr_ 23 (no_ 22),[0,1,2],false,1,1⟩,
 ⟨mv_ 24 23,[0,1,2,3],false,1,1⟩,
 ⟨gp_ 25 24 false (fa_ 1 4),[0,1,2,3,4],false,1,1⟩,
 ⟨gp_ 26 24 false (lf_ 1 25),(List.range 6),false,1,1⟩,
 ⟨gc_ 27 24 false 158 [(.tmp 26)],(List.range 7),true,0,0⟩,
 ⟨gp_ 28 24 false (no_ 27),(List.range 8),false,2,2⟩,
 ⟨pr_ 29 (po_ 24 28),(List.range 9),false,2,2⟩,
 ⟨mv_ 30 29,(List.range 10),false,2,2⟩,
 ⟨gp_ 31 30 false (mo_ 3),(List.range 11),false,2,2⟩,
 ⟨gp_ 32 30 false (bk_ .gtr 31 .i64 0),(List.range 12),false,2,2⟩,
 ⟨gp_ 33 30 false (mo_ 32),(List.range 13),false,2,2⟩,
 ⟨gp_ 34 33 true (fa_ 0 4),(List.range 14),false,2,2⟩,
 ⟨gp_ 35 33 true (lf_ 1 34),(List.range 15),false,2,2⟩,
 ⟨gp_ 36 33 true (mo_ 0),(List.range 14),false,2,2⟩,
 ⟨gp_ 37 33 true (mo_ 3),(List.range 14),false,2,2⟩,
 ⟨gp_ 38 33 true (bk_ .sub 37 .i64 1),[0,1,2,3,4,5,6,7,8,9,10,11,12,13,17],false,2,2⟩,
 ⟨gp_ 39 33 true (.iadrs 2 (.tmp 36) (.tmp 38)),[0,1,2,3,4,5,6,7,8,9,10,11,12,13,16,17,18],false,2,2⟩,
 ⟨gp_ 40 33 true (fa_ 0 39),[0,1,2,3,4,5,6,7,8,9,10,11,12,13,16,17,18,19],false,2,2⟩,
 ⟨gp_ 41 33 true (lf_ 1 40),[0,1,2,3,4,5,6,7,8,9,10,11,12,13,16,17,18,19,20],false,2,2⟩,
 ⟨gp_ 42 33 true (bt_ .leq 35 41),(List.range 22),false,2,2⟩,
 ⟨gp_ 43 30 false (pa_ 33 42),(List.range 23),false,2,2⟩,
 ⟨pr_ 44 (po_ 30 43),(List.range 24),false,2,2⟩]) (.clear [4,20,25,34])) (.keep 0))
 (.cond (.tmp 44)
 (sq_ [pr_ 2 mf_]
 .ret)
 .skip))))
 (.ops [pr_ 45 (bk_ .add 15 .i64 1),
 mv_ 15 45])))))))
 (sq_ [pr_ 2 mt_]
 .ret))))
def o147:List Tmp:=[]
def r147:List RV:=[.tmp 2]
theorem t147:Text Tryz.prog 147 o147 c147 r147 46:=.mk_ Tryz.f147 rfl
def c149:ACode :=
 (sq_ [pr_ 2 (mi_ .u64 0)]
 (.seq (sq_ [mv_ 3 0,
 c1_ 4 159 3]
 (.cond (.tmp 4)
 (sq_ [pr_ 2 (mi_ .u64 9221120237041090561)]
 .ret)
 .skip))
 (sq_ [mv_ 5 0,
 c1_ 6 111 5,
 mv_ 2 6]
 .ret)))
def o149:List Tmp:=[]
def r149:List RV:=[.tmp 2]
theorem t149:Text Tryz.prog 149 o149 c149 r149 7:=.mk_ Tryz.f149 rfl
def c150:ACode :=
 (sq_ [pr_ 2 (mi_ .u64 0),
 pr_ 3 mf_]
 (.seq (sq_ [mv_ 7 0,
 pr_ 8 (.lenv (.tmp 7)),
 pr_ 9 (bk_ .lss 8 .i64 8)]
 (.cond (.tmp 9)
 (sq_ [pr_ 2 (mi_ .u64 0),
 pr_ 3 mf_]
 .ret)
 .skip))
 (sq_ [pr_ 4 (mi_ .u64 0)]
 (.seq (sq_ [mv_ 10 0,
 pr_ 11 (.slcv 1 (.tmp 10) none (some (.const (.int .i64 8)))),
 pr_ 12 (.lenv (.tmp 11)),
 pr_ 13 (mi_ .i64 0)]
 (.block 0 (.loop [0,1,2,3,5,6,7,8,9,10,14,15,16,17,18,19,20,21,22,23] (sq_ [pr_ 14 (bt_ .lss 13 12)]
 (.seq (.cond (.tmp 14)
 .skip
 (.exit 0))
 (.seq (.block 1 (sq_ [pr_ 15 (.iadrs 1 (.tmp 11) (.tmp 13)),
 pr_ 16 (lf_ 1 15),
 mv_ 6 16]
 (.ops [mv_ 17 4,
 pr_ 18 (bk_ .shl 17 .u64 8),
 mv_ 19 6,
 pr_ 20 (.convi .u64 (.tmp 19)),
 pr_ 21 (bt_ .or 18 20),
 mv_ 4 21])))
 (.ops [pr_ 22 (bk_ .add 13 .i64 1),
 mv_ 13 22])))))))
 (sq_ [mv_ 23 4,
 mv_ 2 23,
 pr_ 3 mt_]
 .ret)))))
def o150:List Tmp:=[]
def r150:List RV:=[.tmp 2,.tmp 3]
theorem t150:Text Tryz.prog 150 o150 c150 r150 24:=.mk_ Tryz.f150 rfl
def c151:ACode :=
 (sq_ [pr_ 2 (.boxr (.tmp 0)),
 pr_ 4 mf_]
 (sq_ [mv_ 5 1,
 pr_ 6 (bk_ .and 5 .i64 1),
 pr_ 7 (bk_ .gtr 6 .i64 0),
 mv_ 8 7,
 gp_ 9 8 false (fa_ 2 2),
 gp_ 10 8 false (lf_ 1 9),
 gp_ 11 8 false (bk_ .eql 10 .i64 0),
 pr_ 12 (po_ 8 11),
 mv_ 13 12,
 gp_ 14 13 true (mo_ 1),
 gp_ 15 13 true (bk_ .and 14 .i64 2),
 gp_ 16 13 true (bk_ .gtr 15 .i64 0),
 gp_ 17 13 true (mo_ 16),
 gp_ 18 17 false (fa_ 3 2),
 gp_ 19 17 false (lf_ 1 18),
 gp_ 20 17 false (.bin false .eql (.tmp 19) (.const (.string (ByteArray.mk #[])))),
 gp_ 21 13 true (po_ 17 20),
 pr_ 22 (pa_ 13 21),
 mv_ 23 22,
 gp_ 24 23 true (mo_ 1),
 gp_ 25 23 true (bk_ .and 24 .i64 4),
 gp_ 26 23 true (bk_ .gtr 25 .i64 0),
 gp_ 27 23 true (mo_ 26),
 gp_ 28 27 false (fa_ 4 2),
 gp_ 29 27 false (lf_ 1 28),
 gp_ 30 27 false (bk_ .eql 29 .u64 0),
 gp_ 31 27 false (mo_ 30),
 gp_ 32 31 true (fa_ 5 2),
 gp_ 33 31 true (lf_ 1 32),
 gp_ 34 31 true (bk_ .eql 33 .u64 0),
 gp_ 35 27 false (pa_ 31 34),
 gp_ 36 23 true (po_ 27 35),
 pr_ 37 (pa_ 23 36),
 mv_ 38 37,
 gp_ 39 38 true (mo_ 1),
 gp_ 40 38 true (bk_ .and 39 .i64 8),
 gp_ 41 38 true (bk_ .gtr 40 .i64 0),
 gp_ 42 38 true (mo_ 41),
 gp_ 43 42 false (fa_ 6 2),
 gp_ 44 42 false (lf_ 1 43),
 gp_ 45 42 false (bk_ .eql 44 .i64 0),
 gp_ 46 38 true (po_ 42 45),
 pr_ 47 (pa_ 38 46),
 mv_ 48 47,
 gp_ 49 48 true (mo_ 1),
 gp_ 50 48 true (bk_ .and 49 .i64 16),
 gp_ 51 48 true (bk_ .gtr 50 .i64 0),
 gp_ 52 48 true (mo_ 51),
 gp_ 53 52 false (fa_ 7 2),
 gp_ 54 52 false (lf_ 1 53),
 gp_ 55 52 false (.lenv (.tmp 54)),
 gp_ 56 52 false (bk_ .eql 55 .i64 0),
 gp_ 57 48 true (po_ 52 56),
 pr_ 58 (pa_ 48 57),
 mv_ 59 58,
 gp_ 60 59 true (mo_ 1),
 gp_ 61 59 true (bk_ .and 60 .i64 64),
 gp_ 62 59 true (bk_ .gtr 61 .i64 0),
 gp_ 63 59 true (mo_ 62),
 gp_ 64 63 false (fa_ 8 2),
 gp_ 65 63 false (lt_ 3 64),
 gc_ 66 63 false 160 [(.tmp 65)],
 gp_ 67 59 true (po_ 63 66),
 pr_ 68 (pa_ 59 67),
 mv_ 69 68,
 gp_ 70 69 true (mo_ 1),
 gp_ 71 69 true (bk_ .and 70 .i64 128),
 gp_ 72 69 true (bk_ .gtr 71 .i64 0),
 gp_ 73 69 true (mo_ 72),
 gp_ 74 73 false (fa_ 11 2),
 gp_ 75 73 false (lt_ 6 74),
 gc_ 76 73 false 161 [(.tmp 75)],
 gp_ 77 69 true (po_ 73 76),
 pr_ 78 (pa_ 69 77),
 mv_ 79 78,
 gp_ 80 79 true (mo_ 1),
 gp_ 81 79 true (bk_ .and 80 .i64 256),
 gp_ 82 79 true (bk_ .gtr 81 .i64 0),
 gp_ 83 79 true (mo_ 82),
 gp_ 84 83 false (fa_ 17 2),
 gp_ 85 83 false (lf_ 1 84),
 gp_ 86 83 false (.lenv (.tmp 85)),
 gp_ 87 83 false (bk_ .eql 86 .i64 0),
 gp_ 88 79 true (po_ 83 87),
 pr_ 89 (pa_ 79 88),
 mv_ 90 89,
 gp_ 91 90 true (mo_ 1),
 gp_ 92 90 true (bk_ .and 91 .i64 512),
 gp_ 93 90 true (bk_ .gtr 92 .i64 0),
 gp_ 94 90 true (mo_ 93),
 gp_ 95 94 false (fa_ 18 2),
 gp_ 96 94 false (lf_ 1 95),
 gc_ 97 94 false 162 [(.tmp 96)],
 gp_ 98 90 true (po_ 94 97),
 pr_ 99 (pa_ 90 98),
 mv_ 4 99]
 .ret))
def o151:List Tmp:=[]
def r151:List RV:=[.tmp 4]
theorem t151:Text Tryz.prog 151 o151 c151 r151 100:=.mk_ Tryz.f151 rfl
def c152:ACode :=
 (sq_ [pr_ 2 (.boxr (.tmp 0)),
 pr_ 4 mf_]
 (sq_ [pr_ 5 (fa_ 2 2),
 pr_ 6 (lf_ 1 5),
 pr_ 7 (bk_ .geq 6 .i64 0),
 mv_ 8 7,
 gp_ 9 8 true (fa_ 2 2),
 gp_ 10 8 true (lf_ 1 9),
 gp_ 11 8 true (bk_ .leq 10 .i64 2147483647),
 pr_ 12 (pa_ 8 11),
 mv_ 13 12,
 gp_ 14 13 true (mo_ 1),
 gp_ 15 13 true (bk_ .and 14 .i64 2),
 gp_ 16 13 true (bk_ .eql 15 .i64 0),
 gp_ 17 13 true (mo_ 16),
 gp_ 18 17 false (fa_ 3 2),
 gp_ 19 17 false (lf_ 1 18),
 gc_ 20 17 false 163 [(.tmp 19)],
 gp_ 21 13 true (po_ 17 20),
 pr_ 22 (pa_ 13 21),
 mv_ 23 22,
 gp_ 24 23 true (fa_ 4 2),
 gp_ 25 23 true (lf_ 1 24),
 gp_ 26 23 true (bk_ .leq 25 .u64 1099511627776),
 pr_ 27 (pa_ 23 26),
 mv_ 28 27,
 gp_ 29 28 true (fa_ 5 2),
 gp_ 30 28 true (lf_ 1 29),
 gp_ 31 28 true (bk_ .leq 30 .u64 1099511627776),
 pr_ 32 (pa_ 28 31),
 mv_ 33 32,
 gp_ 34 33 true (fa_ 6 2),
 gp_ 35 33 true (lf_ 1 34),
 gp_ 36 33 true (bk_ .geq 35 .i64 0),
 pr_ 37 (pa_ 33 36),
 mv_ 38 37,
 gp_ 39 38 true (fa_ 6 2),
 gp_ 40 38 true (lf_ 1 39),
 gp_ 41 38 true (bk_ .leq 40 .i64 3),
 pr_ 42 (pa_ 38 41),
 mv_ 43 42,
 gp_ 44 43 true (fa_ 7 2),
 gp_ 45 43 true (lf_ 1 44),
 gc_ 46 43 true 143 [(.tmp 45)],
 pr_ 47 (pa_ 43 46),
 mv_ 48 47,
 gp_ 49 48 true (mo_ 1),
 gp_ 50 48 true (bk_ .and 49 .i64 32),
 gp_ 51 48 true (bk_ .eql 50 .i64 0),
 gp_ 52 48 true (mo_ 51),
 gp_ 53 52 false (fa_ 7 2),
 gp_ 54 52 false (lf_ 1 53),
 gp_ 55 52 false (.lenv (.tmp 54)),
 gp_ 56 52 false (bk_ .gtr 55 .i64 0),
 gp_ 57 48 true (po_ 52 56),
 pr_ 58 (pa_ 48 57),
 mv_ 59 58,
 gp_ 60 59 true (mo_ 1),
 gp_ 61 59 true (bk_ .and 60 .i64 64),
 gp_ 62 59 true (bk_ .eql 61 .i64 0),
 gp_ 63 59 true (mo_ 62),
 gp_ 64 63 false (fa_ 8 2),
 gp_ 65 63 false (lt_ 3 64),
 gc_ 66 63 false 145 [(.tmp 65)],
 gp_ 67 59 true (po_ 63 66),
 pr_ 68 (pa_ 59 67),
 mv_ 69 68,
 gp_ 70 69 true (mo_ 1),
 gp_ 71 69 true (bk_ .and 70 .i64 128),
 gp_ 72 69 true (bk_ .eql 71 .i64 0),
 gp_ 73 69 true (mo_ 72),
 gp_ 74 73 false (fa_ 11 2),
 gp_ 75 73 false (lt_ 6 74),
 gc_ 76 73 false 146 [(.tmp 75)],
 gp_ 77 69 true (po_ 73 76),
 pr_ 78 (pa_ 69 77),
 mv_ 79 78,
 gp_ 80 79 true (mo_ 1),
 gp_ 81 79 true (bk_ .and 80 .i64 256),
 gp_ 82 79 true (bk_ .eql 81 .i64 0),
 gp_ 83 79 true (mo_ 82),
 gp_ 84 83 false (fa_ 17 2),
 gp_ 85 83 false (lf_ 1 84),
 gc_ 86 83 false 147 [(.tmp 85)],
 gp_ 87 79 true (po_ 83 86),
 pr_ 88 (pa_ 79 87),
 mv_ 4 88]
 .ret))
def o152:List Tmp:=[]
def r152:List RV:=[.tmp 4]
theorem t152:Text Tryz.prog 152 o152 c152 r152 89:=.mk_ Tryz.f152 rfl
def c153:ACode :=
 (sq_ [pr_ 1 (.boxr (.tmp 0)),
 pr_ 2 mf_]
 (sq_ [pr_ 3 (fa_ 0 1),
 pr_ 4 (lf_ 1 3),
 pr_ 5 (bk_ .eql 4 .i64 3),
 mv_ 6 5,
 gp_ 7 6 false (fa_ 0 1),
 gp_ 8 6 false (lf_ 1 7),
 gp_ 9 6 false (bk_ .eql 8 .i64 4),
 pr_ 10 (po_ 6 9),
 mv_ 2 10]
 .ret))
def o153:List Tmp:=[]
def r153:List RV:=[.tmp 2]
theorem t153:Text Tryz.prog 153 o153 c153 r153 11:=.mk_ Tryz.f153 rfl
def c154:ACode :=
 (sq_ [pr_ 2 (.allocm z6_),
 pr_ 3 mf_]
 (.seq (sq_ [mv_ 6 0,
 pr_ 7 (.lens (.tmp 6)),
 pr_ 8 (bk_ .gtr 7 .i64 40)]
 (.cond (.tmp 8)
 (sq_ [pr_ 9 (.build z6_ []),
 st_ (so_ 6 2 9),
 pr_ 3 mf_]
 .ret)
 .skip))
 (sq_ [mv_ 10 0,
 pr_ 11 (.build [.pl (.string .empty),.pl (.int .i64 0),.pl (.int .i64 0),.pl (.bool false)] [(0,1,(.tmp 10))]),
 pr_ 12 (.boxm (.tmp 11)),
 mv_ 4 12]
 (sq_ [mv_ 13 4,
 c1_ 14 164 13,
 ⟨some 5,none,.fresh 6 5 (.tmp 14)⟩]
 (.seq (sq_ [mv_ 15 4,
 pr_ 16 (nc_ 15),
 pr_ 17 (fa_ 3 16),
 pr_ 18 (lf_ 1 17),
 mv_ 19 18,
 gp_ 20 19 false (mo_ 4),
 gp_ 21 19 false (nc_ 20),
 gp_ 22 19 false (fa_ 1 21),
 gp_ 23 19 false (lf_ 1 22),
 gp_ 24 19 false (mo_ 0),
 gp_ 25 19 false (.lens (.tmp 24)),
 gp_ 26 19 false (bt_ .lss 23 25),
 pr_ 27 (po_ 19 26)]
 (.cond (.tmp 27)
 (sq_ [pr_ 28 (.build z6_ []),
 st_ (so_ 6 2 28),
 pr_ 3 mf_]
 .ret)
 .skip))
 (sq_ [pr_ 29 (lt_ 6 5),
 st_ (so_ 6 2 29),
 pr_ 3 mt_]
 .ret))))))
def o154:List Tmp:=[2,12]
def r154:List RV:=[.cell 2 6 true,.tmp 3]
theorem t154:Text Tryz.prog 154 o154 c154 r154 30:=.mk_ Tryz.f154 rfl
def c155:ACode :=
 (sq_ [pr_ 1 (.boxr (.tmp 0)),
 pr_ 2 mf_]
 (.seq (sq_ [pr_ 5 (fa_ 1 1),
 pr_ 6 (lf_ 1 5),
 c1_ 7 157 6,
 pr_ 8 (no_ 7)]
 (.cond (.tmp 8)
 (sq_ [pr_ 2 mf_]
 .ret)
 .skip))
 (.seq (sq_ [pr_ 9 (lt_ 3 1),
 c1_ 10 165 9]
 (.cond (.tmp 10)
 (sq_ [pr_ 12 (fa_ 2 1),
 pr_ 13 (lf_ 1 12),
 c1_ 14 166 13,
 mv_ 11 14,
 pr_ 15 (ex_ 0 11),
 pr_ 16 (ex_ 1 11),
 ⟨some 3,none,.fresh 6 3 (.tmp 15)⟩,
 mv_ 4 16]
 (sq_ [mv_ 17 4,
 mv_ 2 17]
 .ret))
 .skip))
 (sq_ [pr_ 18 (fa_ 0 1),
 pr_ 19 (lf_ 1 18),
 pr_ 20 (bk_ .eql 19 .i64 1),
 mv_ 21 20,
 gp_ 22 21 false (fa_ 0 1),
 gp_ 23 21 false (lf_ 1 22),
 gp_ 24 21 false (bk_ .eql 23 .i64 2),
 pr_ 25 (po_ 21 24),
 mv_ 26 25,
 gp_ 27 26 true (fa_ 2 1),
 gp_ 28 26 true (lf_ 1 27),
 gp_ 29 26 true (.lens (.tmp 28)),
 gp_ 30 26 true (bk_ .leq 29 .i64 24),
 pr_ 31 (pa_ 26 30),
 mv_ 2 31]
 .ret))))
def o155:List Tmp:=[]
def r155:List RV:=[.tmp 2]
theorem t155:Text Tryz.prog 155 o155 c155 r155 32:=.mk_ Tryz.f155 rfl
def c156:ACode :=
 (sq_ [pr_ 2 (.boxr (.tmp 0)),
 pr_ 3 (.boxr (.tmp 1)),
 pr_ 4 (mi_ .i64 0)]
 (.seq (.draw [⟨pr_ 5 (fa_ 1 2),[],false,0,0⟩,
 ⟨pr_ 6 (lf_ 1 5),[0],false,0,0⟩,
 ⟨pr_ 7 (fa_ 1 3),[],false,0,0⟩,
 ⟨pr_ 8 (lf_ 1 7),[2],false,0,0⟩,
 ⟨cl_ 9 168 [(.tmp 6),(.tmp 8)],[0,1,2,3],true,0,0⟩,
 ⟨pr_ 10 (fa_ 0 2),[],false,0,1⟩,
 ⟨pr_ 11 (lf_ 1 10),[5],false,0,1⟩,
 ⟨pr_ 12 (fa_ 0 3),[],false,0,1⟩,
 ⟨pr_ 13 (lf_ 1 12),[7],false,0,1⟩,
 ⟨cl_ 14 169 [(.tmp 11),(.tmp 13)],(List.range 9),true,0,0⟩,
 ⟨pr_ 15 (fa_ 2 2),[],false,0,2⟩,
 ⟨pr_ 16 (lf_ 1 15),[10],false,0,2⟩,
 ⟨pr_ 17 (fa_ 2 3),[],false,0,2⟩,
 ⟨pr_ 18 (lf_ 1 17),[12],false,0,2⟩,
 ⟨cl_ 19 168 [(.tmp 16),(.tmp 18)],(List.range 14),true,0,0⟩,
 ⟨pr_ 20 (.bsl false 1 false 3 [.pl (.int .i64 0)] [(0,1,(.tmp 9)),(1,1,(.tmp 14)),(2,1,(.tmp 19))]),(List.range 15),false,3,3⟩,
 ⟨c1_ 21 167 20,(List.range 16),true,0,0⟩,
 ⟨mv_ 4 21,(List.range 17),false,4,4⟩])
 .ret))
def o156:List Tmp:=[]
def r156:List RV:=[.tmp 4]
theorem t156:Text Tryz.prog 156 o156 c156 r156 22:=.mk_ Tryz.f156 rfl
def c157:ACode :=
 (sq_ [pr_ 2 mf_]
 (.seq (sq_ [mv_ 4 0,
 pr_ 5 (.lens (.tmp 4)),
 pr_ 6 (bk_ .lss 5 .i64 1),
 mv_ 7 6,
 gp_ 8 7 false (mo_ 0),
 gp_ 9 7 false (.lens (.tmp 8)),
 gp_ 10 7 false (bk_ .gtr 9 .i64 12),
 pr_ 11 (po_ 7 10),
 mv_ 12 11,
 gp_ 13 12 false (mo_ 0),
 gp_ 14 12 false (.idxs (.tmp 13) (.const (.int .i64 0))),
 gc_ 15 12 false 170 [(.tmp 14)],
 gp_ 16 12 false (no_ 15),
 pr_ 17 (po_ 12 16)]
 (.cond (.tmp 17)
 (sq_ [pr_ 2 mf_]
 .ret)
 .skip))
 (.seq (sq_ [mv_ 18 0,
 pr_ 19 (.lens (.tmp 18)),
 pr_ 20 (mi_ .i64 0)]
 (.block 0 (.loop [1,2,3,4,5,6,7,8,9,10,11,12,13,14,15,16,17,18,21,22,23,24,25,26,27,28,29,30,31,32,33,34,35,36,37,38,39,40] (sq_ [pr_ 21 (bt_ .lss 20 19)]
 (.seq (.cond (.tmp 21)
 .skip
 (.exit 0))
 (.seq (.block 1 (sq_ [mv_ 22 20,
 mv_ 3 22]
 (sq_ [mv_ 23 0,
 mv_ 24 3,
 pr_ 25 (.idxs (.tmp 23) (.tmp 24)),
 c1_ 26 170 25,
 pr_ 27 (no_ 26),
 mv_ 28 27,
 gp_ 29 28 true (mo_ 0),
 gp_ 30 28 true (mo_ 3),
 gp_ 31 28 true (.idxs (.tmp 29) (.tmp 30)),
 gp_ 32 28 true (bk_ .lss 31 .u8 48),
 gp_ 33 28 true (mo_ 32),
 gp_ 34 33 false (mo_ 0),
 gp_ 35 33 false (mo_ 3),
 gp_ 36 33 false (.idxs (.tmp 34) (.tmp 35)),
 gp_ 37 33 false (bk_ .gtr 36 .u8 57),
 gp_ 38 28 true (po_ 33 37),
 pr_ 39 (pa_ 28 38)]
 (.cond (.tmp 39)
 (sq_ [pr_ 2 mf_]
 .ret)
 .skip))))
 (.ops [pr_ 40 (bk_ .add 20 .i64 1),
 mv_ 20 40])))))))
 (sq_ [pr_ 2 mt_]
 .ret))))
def o157:List Tmp:=[]
def r157:List RV:=[.tmp 2]
theorem t157:Text Tryz.prog 157 o157 c157 r157 41:=.mk_ Tryz.f157 rfl
def c158:ACode :=
 (sq_ [pr_ 2 mf_]
 (sq_ [mv_ 3 0,
 pr_ 4 (.lens (.tmp 3)),
 pr_ 5 (bk_ .geq 4 .i64 1),
 mv_ 6 5,
 gp_ 7 6 true (mo_ 0),
 gp_ 8 6 true (.lens (.tmp 7)),
 gp_ 9 6 true (bk_ .leq 8 .i64 24),
 pr_ 10 (pa_ 6 9),
 mv_ 2 10]
 .ret))
def o158:List Tmp:=[]
def r158:List RV:=[.tmp 2]
theorem t158:Text Tryz.prog 158 o158 c158 r158 11:=.mk_ Tryz.f158 rfl
def c159:ACode :=
 (sq_ [pr_ 2 mf_]
 (sq_ [mv_ 3 0,
 mv_ 4 0,
 pr_ 5 (bt_ .neq 3 4),
 mv_ 2 5]
 .ret))
def o159:List Tmp:=[]
def r159:List RV:=[.tmp 2]
theorem t159:Text Tryz.prog 159 o159 c159 r159 6:=.mk_ Tryz.f159 rfl
def c160:ACode :=
 (sq_ [pr_ 1 (.boxr (.tmp 0)),
 pr_ 2 mf_]
 (sq_ [pr_ 3 (fa_ 0 1),
 pr_ 4 (lf_ 1 3),
 pr_ 5 (no_ 4),
 mv_ 6 5,
 gp_ 7 6 true (fa_ 1 1),
 gp_ 8 6 true (lf_ 1 7),
 gc_ 9 6 true 162 [(.tmp 8)],
 pr_ 10 (pa_ 6 9),
 mv_ 11 10,
 gp_ 12 11 true (fa_ 2 1),
 gp_ 13 11 true (lf_ 1 12),
 gc_ 14 11 true 162 [(.tmp 13)],
 pr_ 15 (pa_ 11 14),
 mv_ 2 15]
 .ret))
def o160:List Tmp:=[]
def r160:List RV:=[.tmp 2]
theorem t160:Text Tryz.prog 160 o160 c160 r160 16:=.mk_ Tryz.f160 rfl
def c161:ACode :=
 (sq_ [pr_ 1 (.boxr (.tmp 0)),
 pr_ 2 mf_]
 (sq_ [pr_ 3 (fa_ 0 1),
 pr_ 4 (lf_ 1 3),
 pr_ 5 (.lenv (.tmp 4)),
 pr_ 6 (bk_ .eql 5 .i64 0),
 mv_ 7 6,
 gp_ 8 7 true (fa_ 1 1),
 gp_ 9 7 true (lf_ 1 8),
 gp_ 10 7 true (.lenv (.tmp 9)),
 gp_ 11 7 true (bk_ .eql 10 .i64 0),
 pr_ 12 (pa_ 7 11),
 mv_ 13 12,
 gp_ 14 13 true (fa_ 5 1),
 gp_ 15 13 true (lf_ 1 14),
 gp_ 16 13 true (.lenv (.tmp 15)),
 gp_ 17 13 true (bk_ .eql 16 .i64 0),
 pr_ 18 (pa_ 13 17),
 mv_ 19 18,
 gp_ 20 19 true (fa_ 2 1),
 gp_ 21 19 true (lt_ 3 20),
 gc_ 22 19 true 160 [(.tmp 21)],
 pr_ 23 (pa_ 19 22),
 mv_ 2 23]
 .ret))
def o161:List Tmp:=[]
def r161:List RV:=[.tmp 2]
theorem t161:Text Tryz.prog 161 o161 c161 r161 24:=.mk_ Tryz.f161 rfl
def c162:ACode :=
 (sq_ [pr_ 2 mf_]
 (sq_ [mv_ 3 0,
 c1_ 4 149 3,
 pr_ 5 (bk_ .eql 4 .u64 0),
 mv_ 2 5]
 .ret))
def o162:List Tmp:=[]
def r162:List RV:=[.tmp 2]
theorem t162:Text Tryz.prog 162 o162 c162 r162 6:=.mk_ Tryz.f162 rfl
def c163:ACode :=
 (sq_ [pr_ 2 mf_]
 (sq_ [mv_ 3 0,
 pr_ 4 (.lens (.tmp 3)),
 pr_ 5 (bk_ .geq 4 .i64 4),
 mv_ 6 5,
 gp_ 7 6 true (mo_ 0),
 gp_ 8 6 true (.lens (.tmp 7)),
 gp_ 9 6 true (bk_ .leq 8 .i64 16),
 pr_ 10 (pa_ 6 9),
 mv_ 2 10]
 .ret))
def o163:List Tmp:=[]
def r163:List RV:=[.tmp 2]
theorem t163:Text Tryz.prog 163 o163 c163 r163 11:=.mk_ Tryz.f163 rfl
def c164:ACode :=
 (sq_ [pr_ 2 (.allocm z6_)]
 (sq_ [mv_ 4 0,
 c1_ 5 171 4,
 pr_ 6 (.bsl true 6 true 1 z6_ [(0,6,(.tmp 5))]),
 mv_ 3 6]
 (.seq (.block 0 (.loop [1,4,5,6,7,8,9,10,11,12,13,14,15,16,17,18,19,20,21,22,23,24,25,26,27,28,29,30,31,32,33,34,35,36,37,38,39,40] (.seq (.seq (.draw [⟨mv_ 7 0,[],false,0,0⟩,
 ⟨c1_ 8 172 7,[0],true,0,0⟩,
 ⟨mv_ 9 8,[0,1],false,1,1⟩,
 ⟨gp_ 10 9 true (mo_ 0),[0,1,2],false,1,1⟩,
 ⟨gp_ 11 9 true (nc_ 10),[0,1,2,3],false,1,1⟩,
 ⟨gp_ 12 9 true (fa_ 0 11),[0,1,2,3,4],false,1,1⟩,
 ⟨gp_ 13 9 true (lf_ 1 12),(List.range 6),false,1,1⟩,
 ⟨gp_ 14 9 true (mo_ 0),[0,1,2],false,1,1⟩,
 ⟨gp_ 15 9 true (nc_ 14),[0,1,2,7],false,1,1⟩,
 ⟨gp_ 16 9 true (fa_ 1 15),[0,1,2,7,8],false,1,1⟩,
 ⟨gp_ 17 9 true (lf_ 1 16),[0,1,2,7,8,9],false,1,1⟩,
 ⟨gp_ 18 9 true (.idxs (.tmp 13) (.tmp 17)),(List.range 11),false,1,1⟩,
 ⟨gp_ 19 9 true (bk_ .eql 18 .u8 124),(List.range 12),false,1,1⟩,
 ⟨pr_ 20 (pa_ 9 19),(List.range 13),false,1,1⟩])
 (.cond (.tmp 20)
 .skip
 (.exit 0)))
 (.block 1 (sq_ [mv_ 21 0,
 pr_ 22 (nc_ 21),
 pr_ 23 (fa_ 1 22),
 pr_ 24 (lf_ 1 23),
 pr_ 25 (bk_ .add 24 .i64 1),
 pr_ 26 (nc_ 21),
 pr_ 27 (fa_ 1 26),
 st_ (so_ 1 27 25)]
 (.ops [mv_ 28 3,
 mv_ 29 0,
 c1_ 30 171 29,
 pr_ 31 (.bsl false 6 true 1 z6_ [(0,6,(.tmp 30))]),
 pr_ 32 (.app 6 (.tmp 28) (.tmp 31)),
 mv_ 3 32]))))))
 (.seq (sq_ [mv_ 33 3,
 pr_ 34 (.lenv (.tmp 33)),
 pr_ 35 (bk_ .eql 34 .i64 1)]
 (.cond (.tmp 35)
 (sq_ [mv_ 36 3,
 pr_ 37 (.iadrs 6 (.tmp 36) (.const (.int .i64 0))),
 pr_ 38 (lt_ 6 37),
 st_ (so_ 6 2 38)]
 .ret)
 .skip))
 (.seq (.ghost (.shut 3) (.ops [mv_ 39 3,
 pr_ 40 (.build z6_ [(0,1,(.const (.int .i64 3))),(5,1,(.tmp 39))]),
 st_ (so_ 6 2 40)]))
 .ret)))))
def o164:List Tmp:=[2,6]
def r164:List RV:=[.cell 2 6 true]
theorem t164:Text Tryz.prog 164 o164 c164 r164 41:=.mk_ Tryz.f164 rfl
def c165:ACode :=
 (sq_ [pr_ 1 (.boxr (.tmp 0)),
 pr_ 2 mf_]
 (sq_ [pr_ 3 (fa_ 0 1),
 pr_ 4 (lf_ 1 3),
 pr_ 5 (bk_ .eql 4 .i64 3),
 mv_ 6 5,
 gp_ 7 6 false (fa_ 0 1),
 gp_ 8 6 false (lf_ 1 7),
 gp_ 9 6 false (bk_ .eql 8 .i64 4),
 pr_ 10 (po_ 6 9),
 mv_ 2 10]
 .ret))
def o165:List Tmp:=[]
def r165:List RV:=[.tmp 2]
theorem t165:Text Tryz.prog 165 o165 c165 r165 11:=.mk_ Tryz.f165 rfl
def c166:ACode :=
 (sq_ [pr_ 2 (.allocm z6_),
 pr_ 3 mf_]
 (sq_ [mv_ 6 0,
 mv_ 7 0,
 pr_ 8 (.lens (.tmp 7)),
 pr_ 9 (bk_ .gtr 8 .i64 40),
 pr_ 10 (.build [.pl (.string .empty),.pl (.int .i64 0),.pl (.bool false)] [(0,1,(.tmp 6)),(2,1,(.tmp 9))]),
 pr_ 11 (.boxm (.tmp 10)),
 mv_ 4 11]
 (sq_ [mv_ 12 4,
 cl_ 13 173 [(.tmp 12),(.const (.int .i64 0))],
 ⟨some 5,none,.fresh 6 5 (.tmp 13)⟩]
 (.seq (sq_ [mv_ 14 4,
 pr_ 15 (nc_ 14),
 pr_ 16 (fa_ 2 15),
 pr_ 17 (lf_ 1 16),
 mv_ 18 17,
 gp_ 19 18 false (mo_ 4),
 gp_ 20 18 false (nc_ 19),
 gp_ 21 18 false (fa_ 1 20),
 gp_ 22 18 false (lf_ 1 21),
 gp_ 23 18 false (mo_ 0),
 gp_ 24 18 false (.lens (.tmp 23)),
 gp_ 25 18 false (bt_ .lss 22 24),
 pr_ 26 (po_ 18 25)]
 (.cond (.tmp 26)
 (sq_ [pr_ 27 (.build z6_ []),
 st_ (so_ 6 2 27),
 pr_ 3 mf_]
 .ret)
 .skip))
 (sq_ [pr_ 28 (lt_ 6 5),
 st_ (so_ 6 2 28),
 pr_ 3 mt_]
 .ret)))))
def o166:List Tmp:=[2,11]
def r166:List RV:=[.cell 2 6 true,.tmp 3]
theorem t166:Text Tryz.prog 166 o166 c166 r166 29:=.mk_ Tryz.f166 rfl
def c167:ACode :=
 (sq_ [pr_ 2 (mi_ .i64 0)]
 (sq_ [pr_ 3 (mi_ .i64 0)]
 (.seq (sq_ [mv_ 6 0,
 pr_ 7 (.lenv (.tmp 6)),
 pr_ 8 (mi_ .i64 0)]
 (.block 0 (.loop [0,1,2,4,5,9,10,11,12,13,14,15,16,17] (sq_ [pr_ 9 (bt_ .lss 8 7)]
 (.seq (.cond (.tmp 9)
 .skip
 (.exit 0))
 (.seq (.block 1 (sq_ [pr_ 10 (.iadrs 1 (.tmp 6) (.tmp 8)),
 pr_ 11 (lf_ 1 10),
 mv_ 5 11]
 (sq_ [mv_ 12 5,
 mv_ 13 3,
 pr_ 14 (bt_ .neq 12 13)]
 (.cond (.tmp 14)
 (sq_ [mv_ 15 5,
 mv_ 2 15]
 .ret)
 .skip))))
 (.ops [pr_ 16 (bk_ .add 8 .i64 1),
 mv_ 8 16])))))))
 (sq_ [mv_ 17 3,
 mv_ 2 17]
 .ret))))
def o167:List Tmp:=[]
def r167:List RV:=[.tmp 2]
theorem t167:Text Tryz.prog 167 o167 c167 r167 18:=.mk_ Tryz.f167 rfl
def c168:ACode :=
 (sq_ [pr_ 4 (mi_ .i64 0)]
 (sq_ [mv_ 5 0,
 mv_ 6 1,
 cl_ 7 174 [(.tmp 5),(.tmp 6)],
 mv_ 4 7]
 .ret))
def o168:List Tmp:=[]
def r168:List RV:=[.tmp 4]
theorem t168:Text Tryz.prog 168 o168 c168 r168 8:=.mk_ Tryz.f168 rfl
def c169:ACode :=
 (sq_ [pr_ 4 (mi_ .i64 0)]
 (sq_ [mv_ 7 0,
 c1_ 8 175 7,
 mv_ 5 8]
 (sq_ [mv_ 9 1,
 c1_ 10 175 9,
 mv_ 6 10]
 (.seq (sq_ [mv_ 11 5]
 (.cond (.tmp 11)
 (.seq (sq_ [mv_ 12 6]
 (.cond (.tmp 12)
 (sq_ [pr_ 4 (mi_ .i64 0)]
 .ret)
 .skip))
 (sq_ [pr_ 4 (.mov (.const (.int .i64 (-1))))]
 .ret))
 .skip))
 (.seq (sq_ [mv_ 13 6]
 (.cond (.tmp 13)
 (sq_ [pr_ 4 (mi_ .i64 1)]
 .ret)
 .skip))
 (.seq (sq_ [mv_ 14 0,
 mv_ 15 1,
 pr_ 16 (bt_ .lss 14 15)]
 (.cond (.tmp 16)
 (sq_ [pr_ 4 (.mov (.const (.int .i64 (-1))))]
 .ret)
 .skip))
 (.seq (sq_ [mv_ 17 0,
 mv_ 18 1,
 pr_ 19 (bt_ .gtr 17 18)]
 (.cond (.tmp 19)
 (sq_ [pr_ 4 (mi_ .i64 1)]
 .ret)
 .skip))
 (sq_ [pr_ 4 (mi_ .i64 0)]
 .ret))))))))
def o169:List Tmp:=[]
def r169:List RV:=[.tmp 4]
theorem t169:Text Tryz.prog 169 o169 c169 r169 20:=.mk_ Tryz.f169 rfl
def c170:ACode :=
 (sq_ [pr_ 2 mf_]
 (sq_ [mv_ 3 0,
 pr_ 4 (bk_ .geq 3 .u8 97),
 mv_ 5 4,
 gp_ 6 5 true (mo_ 0),
 gp_ 7 5 true (bk_ .leq 6 .u8 122),
 pr_ 8 (pa_ 5 7),
 mv_ 9 8,
 gp_ 10 9 false (mo_ 0),
 gp_ 11 9 false (bk_ .geq 10 .u8 65),
 gp_ 12 9 false (mo_ 11),
 gp_ 13 12 true (mo_ 0),
 gp_ 14 12 true (bk_ .leq 13 .u8 90),
 gp_ 15 9 false (pa_ 12 14),
 pr_ 16 (po_ 9 15),
 mv_ 17 16,
 gp_ 18 17 false (mo_ 0),
 gp_ 19 17 false (bk_ .eql 18 .u8 95),
 pr_ 20 (po_ 17 19),
 mv_ 2 20]
 .ret))
def o170:List Tmp:=[]
def r170:List RV:=[.tmp 2]
theorem t170:Text Tryz.prog 170 o170 c170 r170 21:=.mk_ Tryz.f170 rfl
def c171:ACode :=
 (sq_ [pr_ 2 (.allocm z6_)]
 (sq_ [pr_ 3 (.mov (.const (.slice none 0 0)))]
 (.seq (.block 0 (.loop [1,4,5,6,7,8,9,10,11,12,13,14,15,16,17,18,19,20,21,22,23,24,25,26,27,28,29,30,31,32,33,34,35,36,37,38,39,40,41,42] (.seq (.seq (.draw [⟨mv_ 4 0,[],false,0,0⟩,
 ⟨c1_ 5 172 4,[0],true,0,0⟩,
 ⟨mv_ 6 5,[0,1],false,1,1⟩,
 ⟨gp_ 7 6 true (mo_ 0),[0,1,2],false,1,1⟩,
 ⟨gp_ 8 6 true (nc_ 7),[0,1,2,3],false,1,1⟩,
 ⟨gp_ 9 6 true (fa_ 0 8),[0,1,2,3,4],false,1,1⟩,
 ⟨gp_ 10 6 true (lf_ 1 9),(List.range 6),false,1,1⟩,
 ⟨gp_ 11 6 true (mo_ 0),[0,1,2],false,1,1⟩,
 ⟨gp_ 12 6 true (nc_ 11),[0,1,2,7],false,1,1⟩,
 ⟨gp_ 13 6 true (fa_ 1 12),[0,1,2,7,8],false,1,1⟩,
 ⟨gp_ 14 6 true (lf_ 1 13),[0,1,2,7,8,9],false,1,1⟩,
 ⟨gp_ 15 6 true (.idxs (.tmp 10) (.tmp 14)),(List.range 11),false,1,1⟩,
 ⟨gp_ 16 6 true (bk_ .neq 15 .u8 124),(List.range 12),false,1,1⟩,
 ⟨pr_ 17 (pa_ 6 16),(List.range 13),false,1,1⟩,
 ⟨mv_ 18 17,(List.range 14),false,1,1⟩,
 ⟨gp_ 19 18 true (mo_ 0),(List.range 15),false,1,1⟩,
 ⟨gp_ 20 18 true (nc_ 19),(List.range 16),false,1,1⟩,
 ⟨gp_ 21 18 true (fa_ 0 20),(List.range 17),false,1,1⟩,
 ⟨gp_ 22 18 true (lf_ 1 21),(List.range 18),false,1,1⟩,
 ⟨gp_ 23 18 true (mo_ 0),(List.range 15),false,1,1⟩,
 ⟨gp_ 24 18 true (nc_ 23),[0,1,2,3,4,5,6,7,8,9,10,11,12,13,14,19],false,1,1⟩,
 ⟨gp_ 25 18 true (fa_ 1 24),[0,1,2,3,4,5,6,7,8,9,10,11,12,13,14,19,20],false,1,1⟩,
 ⟨gp_ 26 18 true (lf_ 1 25),[0,1,2,3,4,5,6,7,8,9,10,11,12,13,14,19,20,21],false,1,1⟩,
 ⟨gp_ 27 18 true (.idxs (.tmp 22) (.tmp 26)),(List.range 23),false,1,1⟩,
 ⟨gp_ 28 18 true (bk_ .neq 27 .u8 41),(List.range 24),false,1,1⟩,
 ⟨pr_ 29 (pa_ 18 28),(List.range 25),false,1,1⟩])
 (.cond (.tmp 29)
 .skip
 (.exit 0)))
 (.block 1 (.ops [mv_ 30 3,
 mv_ 31 0,
 c1_ 32 176 31,
 pr_ 33 (.bsl false 6 true 1 z6_ [(0,6,(.tmp 32))]),
 pr_ 34 (.app 6 (.tmp 30) (.tmp 33)),
 mv_ 3 34])))))
 (.seq (sq_ [mv_ 35 3,
 pr_ 36 (.lenv (.tmp 35)),
 pr_ 37 (bk_ .eql 36 .i64 1)]
 (.cond (.tmp 37)
 (sq_ [mv_ 38 3,
 pr_ 39 (.iadrs 6 (.tmp 38) (.const (.int .i64 0))),
 pr_ 40 (lt_ 6 39),
 st_ (so_ 6 2 40)]
 .ret)
 .skip))
 (.seq (.ghost (.shut 3) (.ops [mv_ 41 3,
 pr_ 42 (.build z6_ [(0,1,(.const (.int .i64 2))),(5,1,(.tmp 41))]),
 st_ (so_ 6 2 42)]))
 .ret)))))
def o171:List Tmp:=[2]
def r171:List RV:=[.cell 2 6 true]
theorem t171:Text Tryz.prog 171 o171 c171 r171 43:=.mk_ Tryz.f171 rfl
def c172:ACode :=
 (sq_ [pr_ 2 mf_]
 (.seq (.draw [⟨mv_ 3 0,[],false,0,0⟩,
 ⟨pr_ 4 (nc_ 3),[0],false,0,0⟩,
 ⟨pr_ 5 (fa_ 3 4),[0,1],false,0,0⟩,
 ⟨pr_ 6 (lf_ 1 5),[0,1,2],false,0,0⟩,
 ⟨pr_ 7 (no_ 6),[0,1,2,3],false,0,0⟩,
 ⟨mv_ 8 7,[0,1,2,3,4],false,0,0⟩,
 ⟨gp_ 9 8 true (mo_ 0),(List.range 6),false,0,0⟩,
 ⟨gp_ 10 8 true (nc_ 9),(List.range 7),false,0,0⟩,
 ⟨gp_ 11 8 true (fa_ 1 10),(List.range 8),false,0,0⟩,
 ⟨gp_ 12 8 true (lf_ 1 11),(List.range 9),false,0,0⟩,
 ⟨gp_ 13 8 true (mo_ 0),(List.range 6),false,0,0⟩,
 ⟨gp_ 14 8 true (nc_ 13),[0,1,2,3,4,5,10],false,0,0⟩,
 ⟨gp_ 15 8 true (fa_ 0 14),[0,1,2,3,4,5,10,11],false,0,0⟩,
 ⟨gp_ 16 8 true (lf_ 1 15),[0,1,2,3,4,5,10,11,12],false,0,0⟩,
 ⟨gp_ 17 8 true (.lens (.tmp 16)),[0,1,2,3,4,5,10,11,12,13],false,0,0⟩,
 ⟨gp_ 18 8 true (bt_ .lss 12 17),(List.range 15),false,0,0⟩,
 ⟨pr_ 19 (pa_ 8 18),(List.range 16),false,0,0⟩,
 ⟨mv_ 2 19,(List.range 17),false,0,0⟩])
 .ret))
def o172:List Tmp:=[]
def r172:List RV:=[.tmp 2]
theorem t172:Text Tryz.prog 172 o172 c172 r172 20:=.mk_ Tryz.f172 rfl
def c173:ACode :=
 (sq_ [pr_ 4 (.allocm z6_)]
 (sq_ [mv_ 6 0,
 mv_ 7 1,
 cl_ 8 177 [(.tmp 6),(.tmp 7)],
 pr_ 9 (.bsl true 6 true 1 z6_ [(0,6,(.tmp 8))]),
 mv_ 5 9]
 (.seq (.block 0 (.loop [2,3,6,7,8,9,10,11,12,13,14,15,16,17,18,19,20,21,22,23,24,25] (.seq (sq_ [mv_ 10 0,
 cl_ 11 178 [(.tmp 10),(.const (.int .u8 124))]]
 (.cond (.tmp 11)
 .skip
 (.exit 0)))
 (.block 1 (.ops [mv_ 12 5,
 mv_ 13 0,
 mv_ 14 1,
 cl_ 15 177 [(.tmp 13),(.tmp 14)],
 pr_ 16 (.bsl false 6 true 1 z6_ [(0,6,(.tmp 15))]),
 pr_ 17 (.app 6 (.tmp 12) (.tmp 16)),
 mv_ 5 17])))))
 (.seq (sq_ [mv_ 18 5,
 pr_ 19 (.lenv (.tmp 18)),
 pr_ 20 (bk_ .eql 19 .i64 1)]
 (.cond (.tmp 20)
 (sq_ [mv_ 21 5,
 pr_ 22 (.iadrs 6 (.tmp 21) (.const (.int .i64 0))),
 pr_ 23 (lt_ 6 22),
 st_ (so_ 6 4 23)]
 .ret)
 .skip))
 (.seq (.ghost (.shut 5) (.ops [mv_ 24 5,
 pr_ 25 (.build z6_ [(0,1,(.const (.int .i64 3))),(5,1,(.tmp 24))]),
 st_ (so_ 6 4 25)]))
 .ret)))))
def o173:List Tmp:=[4,9]
def r173:List RV:=[.cell 4 6 true]
theorem t173:Text Tryz.prog 173 o173 c173 r173 26:=.mk_ Tryz.f173 rfl
def c174:ACode :=
 (sq_ [pr_ 4 (mi_ .i64 0)]
 (sq_ [mv_ 5 0,
 mv_ 6 1,
 cl_ 7 179 [(.tmp 5),(.tmp 6)],
 mv_ 4 7]
 .ret))
def o174:List Tmp:=[]
def r174:List RV:=[.tmp 4]
theorem t174:Text Tryz.prog 174 o174 c174 r174 8:=.mk_ Tryz.f174 rfl
def c175:ACode :=
 (sq_ [pr_ 2 mf_]
 (sq_ [mv_ 3 0,
 mv_ 4 0,
 pr_ 5 (bt_ .neq 3 4),
 mv_ 2 5]
 .ret))
def o175:List Tmp:=[]
def r175:List RV:=[.tmp 2]
theorem t175:Text Tryz.prog 175 o175 c175 r175 6:=.mk_ Tryz.f175 rfl
def c176:ACode :=
 (sq_ [pr_ 2 (.allocm z6_)]
 (sq_ [mv_ 5 0,
 c1_ 6 180 5,
 ⟨some 3,none,.fresh 6 3 (.tmp 6)⟩]
 (.seq (sq_ [mv_ 7 0,
 c1_ 8 172 7,
 pr_ 9 (no_ 8)]
 (.cond (.tmp 9)
 (sq_ [pr_ 10 (lt_ 6 3),
 st_ (so_ 6 2 10)]
 .ret)
 .skip))
 (sq_ [pr_ 4 (mi_ .i64 0)]
 (.seq (.seq (.draw [⟨mv_ 11 0,[],false,0,0⟩,
 ⟨pr_ 12 (nc_ 11),[0],false,0,0⟩,
 ⟨pr_ 13 (fa_ 0 12),[0,1],false,0,0⟩,
 ⟨pr_ 14 (lf_ 1 13),[0,1,2],false,0,0⟩,
 ⟨mv_ 15 0,[],false,0,0⟩,
 ⟨pr_ 16 (nc_ 15),[4],false,0,0⟩,
 ⟨pr_ 17 (fa_ 1 16),[4,5],false,0,0⟩,
 ⟨pr_ 18 (lf_ 1 17),[4,5,6],false,0,0⟩,
 ⟨pr_ 19 (.idxs (.tmp 14) (.tmp 18)),(List.range 8),false,0,0⟩])
 (.block 0 (sq_ [pr_ 22 (bk_ .eql 19 .u8 42),
 mv_ 21 22]
 (.cond (.tmp 21)
 (.ops [pr_ 4 (mi_ .i64 4)])
 (sq_ [pr_ 24 (bk_ .eql 19 .u8 43),
 mv_ 23 24]
 (.cond (.tmp 23)
 (.ops [pr_ 4 (mi_ .i64 5)])
 (sq_ [pr_ 26 (bk_ .eql 19 .u8 63),
 mv_ 25 26]
 (.cond (.tmp 25)
 (.ops [pr_ 4 (mi_ .i64 6)])
 (sq_ [pr_ 20 (lt_ 6 3),
 st_ (so_ 6 2 20)]
 .ret)))))))))
 (sq_ [mv_ 27 0,
 pr_ 28 (nc_ 27),
 pr_ 29 (fa_ 1 28),
 pr_ 30 (lf_ 1 29),
 pr_ 31 (bk_ .add 30 .i64 1),
 pr_ 32 (nc_ 27),
 pr_ 33 (fa_ 1 32),
 st_ (so_ 1 33 31)]
 (sq_ [mv_ 34 4,
 pr_ 35 (lt_ 6 3),
 pr_ 36 (.bsl false 6 true 1 z6_ [(0,6,(.tmp 35))]),
 pr_ 37 (.build z6_ [(0,1,(.tmp 34)),(5,1,(.tmp 36))]),
 st_ (so_ 6 2 37)]
 .ret)))))))
def o176:List Tmp:=[2]
def r176:List RV:=[.cell 2 6 true]
theorem t176:Text Tryz.prog 176 o176 c176 r176 38:=.mk_ Tryz.f176 rfl
def c177:ACode :=
 (sq_ [pr_ 4 (.allocm z6_)]
 (sq_ [pr_ 5 (.mov (.const (.slice none 0 0)))]
 (.seq (.block 0 (.loop [2,3,6,7,8,9,10,11,12,13,14,15,16,17,18,19,20,21,22,23,24,25,26,27,28,29,30,31,32] (.seq (sq_ [mv_ 6 0,
 c1_ 7 181 6,
 pr_ 8 (no_ 7),
 mv_ 9 8,
 gp_ 10 9 true (mo_ 0),
 gc_ 11 9 true 182 [(.tmp 10),(.const (.int .u8 124))],
 gp_ 12 9 true (no_ 11),
 pr_ 13 (pa_ 9 12),
 mv_ 14 13,
 gp_ 15 14 true (mo_ 0),
 gc_ 16 14 true 182 [(.tmp 15),(.const (.int .u8 41))],
 gp_ 17 14 true (no_ 16),
 pr_ 18 (pa_ 14 17)]
 (.cond (.tmp 18)
 .skip
 (.exit 0)))
 (.block 1 (.ops [mv_ 19 5,
 mv_ 20 0,
 mv_ 21 1,
 cl_ 22 183 [(.tmp 20),(.tmp 21)],
 pr_ 23 (.bsl false 6 true 1 z6_ [(0,6,(.tmp 22))]),
 pr_ 24 (.app 6 (.tmp 19) (.tmp 23)),
 mv_ 5 24])))))
 (.seq (sq_ [mv_ 25 5,
 pr_ 26 (.lenv (.tmp 25)),
 pr_ 27 (bk_ .eql 26 .i64 1)]
 (.cond (.tmp 27)
 (sq_ [mv_ 28 5,
 pr_ 29 (.iadrs 6 (.tmp 28) (.const (.int .i64 0))),
 pr_ 30 (lt_ 6 29),
 st_ (so_ 6 4 30)]
 .ret)
 .skip))
 (.seq (.ghost (.shut 5) (.ops [mv_ 31 5,
 pr_ 32 (.build z6_ [(0,1,(.const (.int .i64 2))),(5,1,(.tmp 31))]),
 st_ (so_ 6 4 32)]))
 .ret)))))
def o177:List Tmp:=[4]
def r177:List RV:=[.cell 4 6 true]
theorem t177:Text Tryz.prog 177 o177 c177 r177 33:=.mk_ Tryz.f177 rfl
def c178:ACode :=
 (sq_ [pr_ 4 mf_]
 (.seq (sq_ [mv_ 5 0,
 mv_ 6 1,
 cl_ 7 182 [(.tmp 5),(.tmp 6)],
 pr_ 8 (no_ 7)]
 (.cond (.tmp 8)
 (sq_ [pr_ 4 mf_]
 .ret)
 .skip))
 (sq_ [mv_ 9 0,
 pr_ 10 (nc_ 9),
 pr_ 11 (fa_ 1 10),
 pr_ 12 (lf_ 1 11),
 pr_ 13 (bk_ .add 12 .i64 1),
 pr_ 14 (nc_ 9),
 pr_ 15 (fa_ 1 14),
 st_ (so_ 1 15 13)]
 (sq_ [pr_ 4 mt_]
 .ret))))
def o178:List Tmp:=[]
def r178:List RV:=[.tmp 4]
theorem t178:Text Tryz.prog 178 o178 c178 r178 16:=.mk_ Tryz.f178 rfl
def c180:ACode :=
 (sq_ [pr_ 2 (.allocm z6_)]
 (.seq (.draw [⟨mv_ 5 0,[],false,0,0⟩,
 ⟨pr_ 6 (nc_ 5),[0],false,0,0⟩,
 ⟨pr_ 7 (fa_ 0 6),[0,1],false,0,0⟩,
 ⟨pr_ 8 (lf_ 1 7),[0,1,2],false,0,0⟩,
 ⟨mv_ 9 0,[],false,0,0⟩,
 ⟨pr_ 10 (nc_ 9),[4],false,0,0⟩,
 ⟨pr_ 11 (fa_ 1 10),[4,5],false,0,0⟩,
 ⟨pr_ 12 (lf_ 1 11),[4,5,6],false,0,0⟩,
 ⟨pr_ 13 (.idxs (.tmp 8) (.tmp 12)),(List.range 8),false,0,0⟩,
 ⟨mv_ 3 13,(List.range 9),false,0,0⟩])
 (sq_ [mv_ 14 0,
 pr_ 15 (nc_ 14),
 pr_ 16 (fa_ 1 15),
 pr_ 17 (lf_ 1 16),
 pr_ 18 (bk_ .add 17 .i64 1),
 pr_ 19 (nc_ 14),
 pr_ 20 (fa_ 1 19),
 st_ (so_ 1 20 18)]
 (.seq (.block 0 (sq_ [mv_ 22 3,
 pr_ 23 (bk_ .eql 22 .u8 46),
 mv_ 21 23]
 (.cond (.tmp 21)
 (sq_ [pr_ 24 (.build [.pl (.int .u64 0),.pl (.int .u64 0),.pl (.int .u64 0),.pl (.int .u64 0)] [(0,1,(.const (.int .u64 18446744073709551615))),(1,1,(.const (.int .u64 18446744073709551615))),(2,1,(.const (.int .u64 18446744073709551615))),(3,1,(.const (.int .u64 18446744073709551615)))]),
 pr_ 25 (.build z6_ [(0,1,(.const (.int .i64 1))),(1,4,(.tmp 24))]),
 st_ (so_ 6 2 25)]
 .ret)
 (sq_ [mv_ 27 3,
 pr_ 28 (bk_ .eql 27 .u8 92),
 mv_ 26 28]
 (.cond (.tmp 26)
 (.seq (.seq (.draw [⟨mv_ 29 0,[],false,0,0⟩,
 ⟨c1_ 30 172 29,[0],true,0,0⟩,
 ⟨pr_ 31 (no_ 30),[0,1],false,1,1⟩,
 ⟨mv_ 32 31,[0,1,2],false,1,1⟩,
 ⟨gp_ 33 32 false (mo_ 0),[0,1,2,3],false,1,1⟩,
 ⟨gp_ 34 32 false (nc_ 33),[0,1,2,3,4],false,1,1⟩,
 ⟨gp_ 35 32 false (fa_ 0 34),(List.range 6),false,1,1⟩,
 ⟨gp_ 36 32 false (lf_ 1 35),(List.range 7),false,1,1⟩,
 ⟨gp_ 37 32 false (mo_ 0),[0,1,2,3],false,1,1⟩,
 ⟨gp_ 38 32 false (nc_ 37),[0,1,2,3,8],false,1,1⟩,
 ⟨gp_ 39 32 false (fa_ 1 38),[0,1,2,3,8,9],false,1,1⟩,
 ⟨gp_ 40 32 false (lf_ 1 39),[0,1,2,3,8,9,10],false,1,1⟩,
 ⟨gp_ 41 32 false (.idxs (.tmp 36) (.tmp 40)),(List.range 12),false,1,1⟩,
 ⟨gc_ 42 32 false 184 [(.tmp 41)],(List.range 13),true,0,0⟩,
 ⟨gp_ 43 32 false (no_ 42),(List.range 14),false,2,2⟩,
 ⟨pr_ 44 (po_ 32 43),(List.range 15),false,2,2⟩])
 (.cond (.tmp 44)
 (sq_ [mv_ 45 0,
 c1_ 46 185 45]
 (sq_ [pr_ 47 (.build z6_ []),
 st_ (so_ 6 2 47)]
 .ret))
 .skip))
 (sq_ [mv_ 48 0,
 pr_ 49 (nc_ 48),
 pr_ 50 (fa_ 1 49),
 pr_ 51 (lf_ 1 50),
 pr_ 52 (bk_ .add 51 .i64 1),
 pr_ 53 (nc_ 48),
 pr_ 54 (fa_ 1 53),
 st_ (so_ 1 54 52)]
 (.seq (.draw [⟨mv_ 55 0,[],false,0,0⟩,
 ⟨pr_ 56 (nc_ 55),[0],false,0,0⟩,
 ⟨pr_ 57 (fa_ 0 56),[0,1],false,0,0⟩,
 ⟨pr_ 58 (lf_ 1 57),[0,1,2],false,0,0⟩,
 ⟨mv_ 59 0,[],false,0,0⟩,
 ⟨pr_ 60 (nc_ 59),[4],false,0,0⟩,
 ⟨pr_ 61 (fa_ 1 60),[4,5],false,0,0⟩,
 ⟨pr_ 62 (lf_ 1 61),[4,5,6],false,0,0⟩,
 ⟨pr_ 63 (bk_ .sub 62 .i64 1),[4,5,6,7],false,0,0⟩,
 ⟨pr_ 64 (.idxs (.tmp 58) (.tmp 63)),(List.range 9),false,0,0⟩,
 ⟨c1_ 65 186 64,(List.range 10),true,0,0⟩,
 ⟨pr_ 66 (.build z6_ [(0,1,(.const (.int .i64 1))),(1,4,(.tmp 65))]),(List.range 11),false,1,1⟩,
 ⟨st_ (so_ 6 2 66),(List.range 12),true,0,0⟩])
 .ret)))
 (sq_ [mv_ 68 3,
 pr_ 69 (bk_ .eql 68 .u8 40),
 mv_ 67 69]
 (.cond (.tmp 67)
 (sq_ [mv_ 70 0,
 pr_ 71 (nc_ 70),
 pr_ 72 (fa_ 2 71),
 pr_ 73 (lf_ 1 72),
 pr_ 74 (bk_ .add 73 .i64 1),
 pr_ 75 (nc_ 70),
 pr_ 76 (fa_ 2 75),
 st_ (so_ 1 76 74)]
 (.seq (sq_ [mv_ 77 0,
 pr_ 78 (nc_ 77),
 pr_ 79 (fa_ 2 78),
 pr_ 80 (lf_ 1 79),
 pr_ 81 (bk_ .gtr 80 .i64 8)]
 (.cond (.tmp 81)
 (sq_ [mv_ 82 0,
 c1_ 83 185 82]
 (sq_ [pr_ 84 (.build z6_ []),
 st_ (so_ 6 2 84)]
 .ret))
 .skip))
 (sq_ [mv_ 85 0,
 c1_ 86 164 85,
 ⟨some 4,none,.fresh 6 4 (.tmp 86)⟩]
 (.seq (.seq (.draw [⟨mv_ 87 0,[],false,0,0⟩,
 ⟨c1_ 88 172 87,[0],true,0,0⟩,
 ⟨pr_ 89 (no_ 88),[0,1],false,1,1⟩,
 ⟨mv_ 90 89,[0,1,2],false,1,1⟩,
 ⟨gp_ 91 90 false (mo_ 0),[0,1,2,3],false,1,1⟩,
 ⟨gp_ 92 90 false (nc_ 91),[0,1,2,3,4],false,1,1⟩,
 ⟨gp_ 93 90 false (fa_ 0 92),(List.range 6),false,1,1⟩,
 ⟨gp_ 94 90 false (lf_ 1 93),(List.range 7),false,1,1⟩,
 ⟨gp_ 95 90 false (mo_ 0),[0,1,2,3],false,1,1⟩,
 ⟨gp_ 96 90 false (nc_ 95),[0,1,2,3,8],false,1,1⟩,
 ⟨gp_ 97 90 false (fa_ 1 96),[0,1,2,3,8,9],false,1,1⟩,
 ⟨gp_ 98 90 false (lf_ 1 97),[0,1,2,3,8,9,10],false,1,1⟩,
 ⟨gp_ 99 90 false (.idxs (.tmp 94) (.tmp 98)),(List.range 12),false,1,1⟩,
 ⟨gp_ 100 90 false (bk_ .neq 99 .u8 41),(List.range 13),false,1,1⟩,
 ⟨pr_ 101 (po_ 90 100),(List.range 14),false,1,1⟩])
 (.cond (.tmp 101)
 (sq_ [mv_ 102 0,
 c1_ 103 185 102]
 (sq_ [pr_ 104 (.build z6_ []),
 st_ (so_ 6 2 104)]
 .ret))
 .skip))
 (sq_ [mv_ 105 0,
 pr_ 106 (nc_ 105),
 pr_ 107 (fa_ 1 106),
 pr_ 108 (lf_ 1 107),
 pr_ 109 (bk_ .add 108 .i64 1),
 pr_ 110 (nc_ 105),
 pr_ 111 (fa_ 1 110),
 st_ (so_ 1 111 109)]
 (sq_ [mv_ 112 0,
 pr_ 113 (nc_ 112),
 pr_ 114 (fa_ 2 113),
 pr_ 115 (lf_ 1 114),
 pr_ 116 (bk_ .sub 115 .i64 1),
 pr_ 117 (nc_ 112),
 pr_ 118 (fa_ 2 117),
 st_ (so_ 1 118 116)]
 (sq_ [pr_ 119 (lt_ 6 4),
 st_ (so_ 6 2 119)]
 .ret)))))))
 (sq_ [mv_ 121 3,
 pr_ 122 (bk_ .eql 121 .u8 91),
 mv_ 120 122]
 (.cond (.tmp 120)
 (sq_ [mv_ 123 0,
 c1_ 124 187 123,
 st_ (so_ 6 2 124)]
 .ret)
 (sq_ [mv_ 126 3,
 c1_ 127 188 126,
 mv_ 125 127]
 (.cond (.tmp 125)
 (sq_ [mv_ 128 0,
 c1_ 129 185 128]
 (sq_ [pr_ 130 (.build z6_ []),
 st_ (so_ 6 2 130)]
 .ret))
 .skip)))))))))))
 (sq_ [mv_ 131 3,
 c1_ 132 186 131,
 pr_ 133 (.build z6_ [(0,1,(.const (.int .i64 1))),(1,4,(.tmp 132))]),
 st_ (so_ 6 2 133)]
 .ret)))))
def o180:List Tmp:=[2]
def r180:List RV:=[.cell 2 6 true]
theorem t180:Text Tryz.prog 180 o180 c180 r180 134:=.mk_ Tryz.f180 rfl
def c181:ACode :=
 (sq_ [pr_ 2 mf_]
 (.seq (.draw [⟨mv_ 3 0,[],false,0,0⟩,
 ⟨pr_ 4 (nc_ 3),[0],false,0,0⟩,
 ⟨pr_ 5 (fa_ 2 4),[0,1],false,0,0⟩,
 ⟨pr_ 6 (lf_ 1 5),[0,1,2],false,0,0⟩,
 ⟨mv_ 7 6,[0,1,2,3],false,0,0⟩,
 ⟨gp_ 8 7 false (mo_ 0),[0,1,2,3,4],false,0,0⟩,
 ⟨gp_ 9 7 false (nc_ 8),(List.range 6),false,0,0⟩,
 ⟨gp_ 10 7 false (fa_ 1 9),(List.range 7),false,0,0⟩,
 ⟨gp_ 11 7 false (lf_ 1 10),(List.range 8),false,0,0⟩,
 ⟨gp_ 12 7 false (mo_ 0),[0,1,2,3,4],false,0,0⟩,
 ⟨gp_ 13 7 false (nc_ 12),[0,1,2,3,4,9],false,0,0⟩,
 ⟨gp_ 14 7 false (fa_ 0 13),[0,1,2,3,4,9,10],false,0,0⟩,
 ⟨gp_ 15 7 false (lf_ 1 14),[0,1,2,3,4,9,10,11],false,0,0⟩,
 ⟨gp_ 16 7 false (.lens (.tmp 15)),[0,1,2,3,4,9,10,11,12],false,0,0⟩,
 ⟨gp_ 17 7 false (bt_ .geq 11 16),(List.range 14),false,0,0⟩,
 ⟨pr_ 18 (po_ 7 17),(List.range 15),false,0,0⟩,
 ⟨mv_ 2 18,(List.range 16),false,0,0⟩])
 .ret))
def o181:List Tmp:=[]
def r181:List RV:=[.tmp 2]
theorem t181:Text Tryz.prog 181 o181 c181 r181 19:=.mk_ Tryz.f181 rfl
def c182:ACode :=
 (sq_ [pr_ 4 mf_]
 (.seq (.draw [⟨mv_ 5 0,[],false,0,0⟩,
 ⟨c1_ 6 181 5,[0],true,0,0⟩,
 ⟨pr_ 7 (no_ 6),[0,1],false,1,1⟩,
 ⟨mv_ 8 7,[0,1,2],false,1,1⟩,
 ⟨gp_ 9 8 true (mo_ 0),[0,1,2,3],false,1,1⟩,
 ⟨gp_ 10 8 true (nc_ 9),[0,1,2,3,4],false,1,1⟩,
 ⟨gp_ 11 8 true (fa_ 0 10),(List.range 6),false,1,1⟩,
 ⟨gp_ 12 8 true (lf_ 1 11),(List.range 7),false,1,1⟩,
 ⟨gp_ 13 8 true (mo_ 0),[0,1,2,3],false,1,1⟩,
 ⟨gp_ 14 8 true (nc_ 13),[0,1,2,3,8],false,1,1⟩,
 ⟨gp_ 15 8 true (fa_ 1 14),[0,1,2,3,8,9],false,1,1⟩,
 ⟨gp_ 16 8 true (lf_ 1 15),[0,1,2,3,8,9,10],false,1,1⟩,
 ⟨gp_ 17 8 true (.idxs (.tmp 12) (.tmp 16)),(List.range 12),false,1,1⟩,
 ⟨gp_ 18 8 true (mo_ 1),[0,1,2,3],false,1,1⟩,
 ⟨gp_ 19 8 true (bt_ .eql 17 18),(List.range 14),false,1,1⟩,
 ⟨pr_ 20 (pa_ 8 19),(List.range 15),false,1,1⟩,
 ⟨mv_ 4 20,(List.range 16),false,1,1⟩])
 .ret))
def o182:List Tmp:=[]
def r182:List RV:=[.tmp 4]
theorem t182:Text Tryz.prog 182 o182 c182 r182 21:=.mk_ Tryz.f182 rfl
def c183:ACode :=
 (sq_ [pr_ 4 (.allocm z6_)]
 (sq_ [mv_ 6 0,
 mv_ 7 1,
 cl_ 8 189 [(.tmp 6),(.tmp 7)],
 ⟨some 5,none,.fresh 6 5 (.tmp 8)⟩]
 (.seq (.block 0 (sq_ [mv_ 10 0,
 cl_ 11 178 [(.tmp 10),(.const (.int .u8 42))],
 mv_ 9 11]
 (.cond (.tmp 9)
 (sq_ [pr_ 12 (lt_ 6 5),
 pr_ 13 (.bsl false 6 true 1 z6_ [(0,6,(.tmp 12))]),
 pr_ 14 (.build z6_ [(0,1,(.const (.int .i64 4))),(5,1,(.tmp 13))]),
 st_ (so_ 6 4 14)]
 .ret)
 (sq_ [mv_ 16 0,
 cl_ 17 178 [(.tmp 16),(.const (.int .u8 43))],
 mv_ 15 17]
 (.cond (.tmp 15)
 (sq_ [pr_ 18 (lt_ 6 5),
 pr_ 19 (.bsl false 6 true 1 z6_ [(0,6,(.tmp 18))]),
 pr_ 20 (.build z6_ [(0,1,(.const (.int .i64 5))),(5,1,(.tmp 19))]),
 st_ (so_ 6 4 20)]
 .ret)
 (sq_ [mv_ 22 0,
 cl_ 23 178 [(.tmp 22),(.const (.int .u8 63))],
 mv_ 21 23]
 (.cond (.tmp 21)
 (sq_ [pr_ 24 (lt_ 6 5),
 pr_ 25 (.bsl false 6 true 1 z6_ [(0,6,(.tmp 24))]),
 pr_ 26 (.build z6_ [(0,1,(.const (.int .i64 6))),(5,1,(.tmp 25))]),
 st_ (so_ 6 4 26)]
 .ret)
 .skip)))))))
 (sq_ [pr_ 27 (lt_ 6 5),
 st_ (so_ 6 4 27)]
 .ret))))
def o183:List Tmp:=[4]
def r183:List RV:=[.cell 4 6 true]
theorem t183:Text Tryz.prog 183 o183 c183 r183 28:=.mk_ Tryz.f183 rfl
def c184:ACode :=
 (sq_ [pr_ 2 mf_]
 (sq_ [mv_ 3 0,
 c1_ 4 188 3,
 mv_ 5 4,
 gp_ 6 5 false (mo_ 0),
 gp_ 7 5 false (bk_ .eql 6 .u8 94),
 pr_ 8 (po_ 5 7),
 mv_ 9 8,
 gp_ 10 9 false (mo_ 0),
 gp_ 11 9 false (bk_ .eql 10 .u8 45),
 pr_ 12 (po_ 9 11),
 mv_ 2 12]
 .ret))
def o184:List Tmp:=[]
def r184:List RV:=[.tmp 2]
theorem t184:Text Tryz.prog 184 o184 c184 r184 13:=.mk_ Tryz.f184 rfl
def c185:ACode :=
 (.ops [mv_ 2 0,
 pr_ 3 (nc_ 2),
 pr_ 4 (fa_ 3 3),
 st_ (.store 1 (.tmp 4) (.const (.bool true)))])
def o185:List Tmp:=[]
def r185:List RV:=[]
theorem t185:Text Tryz.prog 185 o185 c185 r185 5:=.mk_ Tryz.f185 rfl
def c186:ACode :=
 (sq_ [pr_ 2 (.allocm [.pl (.int .u64 0),.pl (.int .u64 0),.pl (.int .u64 0),.pl (.int .u64 0)])]
 (sq_ [pr_ 3 (.allocm [.pl (.int .u64 0),.pl (.int .u64 0),.pl (.int .u64 0),.pl (.int .u64 0)])]
 (sq_ [mv_ 4 0,
 pr_ 5 (bk_ .quo 4 .u8 64),
 mv_ 6 0,
 pr_ 7 (bk_ .rem 6 .u8 64),
 pr_ 8 (.convi .u64 (.tmp 7)),
 pr_ 9 (.bin false .shl (.const (.int .u64 1)) (.tmp 8)),
 pr_ 10 (.iadra 1 4 (.tmp 3) (.tmp 5)),
 st_ (so_ 1 10 9)]
 (sq_ [pr_ 11 (lt_ 4 3),
 st_ (so_ 4 2 11)]
 .ret))))
def o186:List Tmp:=[2,3]
def r186:List RV:=[.cell 2 4 true]
theorem t186:Text Tryz.prog 186 o186 c186 r186 12:=.mk_ Tryz.f186 rfl
def c187:ACode :=
 (sq_ [pr_ 2 (.allocm z6_)]
 (.seq (.draw [⟨mv_ 10 0,[],false,0,0⟩,
 ⟨c1_ 11 172 10,[0],true,0,0⟩,
 ⟨mv_ 12 11,[0,1],false,1,1⟩,
 ⟨gp_ 13 12 true (mo_ 0),[0,1,2],false,1,1⟩,
 ⟨gp_ 14 12 true (nc_ 13),[0,1,2,3],false,1,1⟩,
 ⟨gp_ 15 12 true (fa_ 0 14),[0,1,2,3,4],false,1,1⟩,
 ⟨gp_ 16 12 true (lf_ 1 15),(List.range 6),false,1,1⟩,
 ⟨gp_ 17 12 true (mo_ 0),[0,1,2],false,1,1⟩,
 ⟨gp_ 18 12 true (nc_ 17),[0,1,2,7],false,1,1⟩,
 ⟨gp_ 19 12 true (fa_ 1 18),[0,1,2,7,8],false,1,1⟩,
 ⟨gp_ 20 12 true (lf_ 1 19),[0,1,2,7,8,9],false,1,1⟩,
 ⟨gp_ 21 12 true (.idxs (.tmp 16) (.tmp 20)),(List.range 11),false,1,1⟩,
 ⟨gp_ 22 12 true (bk_ .eql 21 .u8 94),(List.range 12),false,1,1⟩,
 ⟨pr_ 23 (pa_ 12 22),(List.range 13),false,1,1⟩,
 ⟨mv_ 3 23,(List.range 14),false,1,1⟩])
 (.seq (sq_ [mv_ 24 3]
 (.cond (.tmp 24)
 (.ops [mv_ 25 0,
 pr_ 26 (nc_ 25),
 pr_ 27 (fa_ 1 26),
 pr_ 28 (lf_ 1 27),
 pr_ 29 (bk_ .add 28 .i64 1),
 pr_ 30 (nc_ 25),
 pr_ 31 (fa_ 1 30),
 st_ (so_ 1 31 29)])
 .skip))
 (sq_ [pr_ 4 (.allocm [.pl (.int .u64 0),.pl (.int .u64 0),.pl (.int .u64 0),.pl (.int .u64 0)])]
 (sq_ [pr_ 5 (mi_ .i64 0)]
 (.seq (.block 0 (.loop [1,6,7,8,9,10,11,12,13,14,15,16,17,18,19,20,21,22,23,24,25,26,27,28,29,30,31,32,33,34,35,36,37,38,39,40,41,42,43,44,45,46,47,48,49,50,51,52,53,54,55,56,57,58,59,60,61,62,63,64,65,66,67,68,69,70,71,72,73,74,75,76,77,78,79,80,81,82,83,84,85,86,87,88,89,90,91,92,93,94,95,96,97,98,99,100,101,102,103,104,105,106,107,108,109,110,111,112,113,114,115,116,117,118,119,120,121,122,123,124,125,126,127,128] (.seq (.seq (.draw [⟨mv_ 32 0,[],false,0,0⟩,
 ⟨c1_ 33 172 32,[0],true,0,0⟩,
 ⟨mv_ 34 33,[0,1],false,1,1⟩,
 ⟨gp_ 35 34 true (mo_ 0),[0,1,2],false,1,1⟩,
 ⟨gp_ 36 34 true (nc_ 35),[0,1,2,3],false,1,1⟩,
 ⟨gp_ 37 34 true (fa_ 0 36),[0,1,2,3,4],false,1,1⟩,
 ⟨gp_ 38 34 true (lf_ 1 37),(List.range 6),false,1,1⟩,
 ⟨gp_ 39 34 true (mo_ 0),[0,1,2],false,1,1⟩,
 ⟨gp_ 40 34 true (nc_ 39),[0,1,2,7],false,1,1⟩,
 ⟨gp_ 41 34 true (fa_ 1 40),[0,1,2,7,8],false,1,1⟩,
 ⟨gp_ 42 34 true (lf_ 1 41),[0,1,2,7,8,9],false,1,1⟩,
 ⟨gp_ 43 34 true (.idxs (.tmp 38) (.tmp 42)),(List.range 11),false,1,1⟩,
 ⟨gp_ 44 34 true (bk_ .neq 43 .u8 93),(List.range 12),false,1,1⟩,
 ⟨pr_ 45 (pa_ 34 44),(List.range 13),false,1,1⟩])
 (.cond (.tmp 45)
 .skip
 (.exit 0)))
 (.block 1 (sq_ [mv_ 46 0,
 c1_ 47 190 46,
 mv_ 6 47]
 (sq_ [mv_ 48 6,
 mv_ 7 48]
 (.seq (.seq (.draw [⟨mv_ 49 0,[],false,0,0⟩,
 ⟨c1_ 50 172 49,[0],true,0,0⟩,
 ⟨mv_ 51 50,[0,1],false,1,1⟩,
 ⟨gp_ 52 51 true (mo_ 0),[0,1,2],false,1,1⟩,
 ⟨gp_ 53 51 true (nc_ 52),[0,1,2,3],false,1,1⟩,
 ⟨gp_ 54 51 true (fa_ 0 53),[0,1,2,3,4],false,1,1⟩,
 ⟨gp_ 55 51 true (lf_ 1 54),(List.range 6),false,1,1⟩,
 ⟨gp_ 56 51 true (mo_ 0),[0,1,2],false,1,1⟩,
 ⟨gp_ 57 51 true (nc_ 56),[0,1,2,7],false,1,1⟩,
 ⟨gp_ 58 51 true (fa_ 1 57),[0,1,2,7,8],false,1,1⟩,
 ⟨gp_ 59 51 true (lf_ 1 58),[0,1,2,7,8,9],false,1,1⟩,
 ⟨gp_ 60 51 true (.idxs (.tmp 55) (.tmp 59)),(List.range 11),false,1,1⟩,
 ⟨gp_ 61 51 true (bk_ .eql 60 .u8 45),(List.range 12),false,1,1⟩,
 ⟨pr_ 62 (pa_ 51 61),(List.range 13),false,1,1⟩])
 (.cond (.tmp 62)
 (sq_ [mv_ 63 0,
 pr_ 64 (nc_ 63),
 pr_ 65 (fa_ 1 64),
 pr_ 66 (lf_ 1 65),
 pr_ 67 (bk_ .add 66 .i64 1),
 pr_ 68 (nc_ 63),
 pr_ 69 (fa_ 1 68),
 st_ (so_ 1 69 67)]
 (.ops [mv_ 70 0,
 c1_ 71 190 70,
 mv_ 7 71]))
 .skip))
 (.seq (sq_ [mv_ 72 7,
 mv_ 73 6,
 pr_ 74 (bt_ .lss 72 73)]
 (.cond (.tmp 74)
 (.ops [mv_ 75 0,
 c1_ 76 185 75])
 .skip))
 (.seq (sq_ [mv_ 77 6,
 pr_ 78 (.convi .i64 (.tmp 77)),
 mv_ 8 78]
 (.block 2 (.loop [1,6,9,10,11,12,13,14,15,16,17,18,19,20,21,22,23,24,25,26,27,28,29,30,31,32,33,34,35,36,37,38,39,40,41,42,43,44,45,46,47,48,49,50,51,52,53,54,55,56,57,58,59,60,61,62,63,64,65,66,67,68,69,70,71,72,73,74,75,76,77,78,79,80,81,82,83,84,85,86,87,88,89,90,91,92,93,94,95,96,97,98,99,100,101,102,103,104,105,106,107,108,109,110,111,112,113,114,115,116,117,118,119,120,121,122,123,124,125,126,127,128] (.seq (sq_ [mv_ 79 8,
 mv_ 80 7,
 pr_ 81 (.convi .i64 (.tmp 80)),
 pr_ 82 (bt_ .leq 79 81)]
 (.cond (.tmp 82)
 .skip
 (.exit 2)))
 (.seq (.block 3 (.ops [mv_ 85 8,
 pr_ 86 (bk_ .quo 85 .i64 64),
 mv_ 87 8,
 pr_ 88 (bk_ .quo 87 .i64 64),
 pr_ 89 (.iadra 1 4 (.tmp 4) (.tmp 88)),
 pr_ 90 (lf_ 1 89),
 mv_ 91 8,
 pr_ 92 (bk_ .rem 91 .i64 64),
 pr_ 93 (.convi .u64 (.tmp 92)),
 pr_ 94 (.bin false .shl (.const (.int .u64 1)) (.tmp 93)),
 pr_ 95 (bt_ .or 90 94),
 pr_ 96 (.iadra 1 4 (.tmp 4) (.tmp 86)),
 st_ (so_ 1 96 95)]))
 (.ops [mv_ 83 8,
 pr_ 84 (bk_ .add 83 .i64 1),
 mv_ 8 84]))))))
 (.ops [mv_ 97 5,
 pr_ 98 (bk_ .add 97 .i64 1),
 mv_ 5 98]))))))))))
 (.seq (sq_ [mv_ 99 0,
 c1_ 100 172 99,
 pr_ 101 (no_ 100),
 mv_ 102 101,
 gp_ 103 102 false (mo_ 5),
 gp_ 104 102 false (bk_ .eql 103 .i64 0),
 pr_ 105 (po_ 102 104)]
 (.cond (.tmp 105)
 (sq_ [mv_ 106 0,
 c1_ 107 185 106]
 (sq_ [pr_ 108 (.build z6_ []),
 st_ (so_ 6 2 108)]
 .ret))
 .skip))
 (sq_ [mv_ 109 0,
 pr_ 110 (nc_ 109),
 pr_ 111 (fa_ 1 110),
 pr_ 112 (lf_ 1 111),
 pr_ 113 (bk_ .add 112 .i64 1),
 pr_ 114 (nc_ 109),
 pr_ 115 (fa_ 1 114),
 st_ (so_ 1 115 113)]
 (.seq (sq_ [mv_ 116 3]
 (.cond (.tmp 116)
 (sq_ [pr_ 9 (mi_ .i64 0)]
 (.block 4 (.loop [0,1,3,5,6,7,8,10,11,12,13,14,15,16,17,18,19,20,21,22,23,24,25,26,27,28,29,30,31,32,33,34,35,36,37,38,39,40,41,42,43,44,45,46,47,48,49,50,51,52,53,54,55,56,57,58,59,60,61,62,63,64,65,66,67,68,69,70,71,72,73,74,75,76,77,78,79,80,81,82,83,84,85,86,87,88,89,90,91,92,93,94,95,96,97,98,99,100,101,102,103,104,105,106,107,108,109,110,111,112,113,114,115,116,117,118,119,120,121,122,123,124,125,126,127,128] (.seq (sq_ [mv_ 117 9,
 pr_ 118 (bk_ .lss 117 .i64 4)]
 (.cond (.tmp 118)
 .skip
 (.exit 4)))
 (.seq (.block 5 (.ops [mv_ 121 9,
 mv_ 122 9,
 pr_ 123 (.iadra 1 4 (.tmp 4) (.tmp 122)),
 pr_ 124 (lf_ 1 123),
 pr_ 125 (.un .xor (.tmp 124)),
 pr_ 126 (.iadra 1 4 (.tmp 4) (.tmp 121)),
 st_ (so_ 1 126 125)]))
 (.ops [mv_ 119 9,
 pr_ 120 (bk_ .add 119 .i64 1),
 mv_ 9 120]))))))
 .skip))
 (sq_ [pr_ 127 (lt_ 4 4),
 pr_ 128 (.build z6_ [(0,1,(.const (.int .i64 1))),(1,4,(.tmp 127))]),
 st_ (so_ 6 2 128)]
 .ret))))))))))
def o187:List Tmp:=[2,4]
def r187:List RV:=[.cell 2 6 true]
theorem t187:Text Tryz.prog 187 o187 c187 r187 129:=.mk_ Tryz.f187 rfl
def c188:ACode :=
 (sq_ [pr_ 2 mf_]
 (.seq (sq_ [mv_ 3 0]
 (.block 0 (.seq (sq_ [pr_ 5 (bk_ .eql 3 .u8 124),
 mv_ 4 5]
 (.cond (.tmp 4)
 .skip
 (sq_ [pr_ 6 (bk_ .eql 3 .u8 42),
 mv_ 4 6]
 (.cond (.tmp 4)
 .skip
 (sq_ [pr_ 7 (bk_ .eql 3 .u8 43),
 mv_ 4 7]
 (.cond (.tmp 4)
 .skip
 (sq_ [pr_ 8 (bk_ .eql 3 .u8 63),
 mv_ 4 8]
 (.cond (.tmp 4)
 .skip
 (sq_ [pr_ 9 (bk_ .eql 3 .u8 40),
 mv_ 4 9]
 (.cond (.tmp 4)
 .skip
 (sq_ [pr_ 10 (bk_ .eql 3 .u8 41),
 mv_ 4 10]
 (.cond (.tmp 4)
 .skip
 (sq_ [pr_ 11 (bk_ .eql 3 .u8 91),
 mv_ 4 11]
 (.cond (.tmp 4)
 .skip
 (sq_ [pr_ 12 (bk_ .eql 3 .u8 93),
 mv_ 4 12]
 (.cond (.tmp 4)
 .skip
 (sq_ [pr_ 13 (bk_ .eql 3 .u8 46),
 mv_ 4 13]
 (.cond (.tmp 4)
 .skip
 (.ops [pr_ 14 (bk_ .eql 3 .u8 92),
 mv_ 4 14])))))))))))))))))))
 (.cond (.tmp 4)
 (sq_ [pr_ 2 mt_]
 .ret)
 .skip))))
 (sq_ [pr_ 2 mf_]
 .ret)))
def o188:List Tmp:=[]
def r188:List RV:=[.tmp 2]
theorem t188:Text Tryz.prog 188 o188 c188 r188 15:=.mk_ Tryz.f188 rfl
def c189:ACode :=
 (sq_ [pr_ 4 (.allocm z6_)]
 (sq_ [pr_ 7 (.build z6_ [(0,1,(.const (.int .i64 1)))]),
 pr_ 5 (.allocm z6_),
 st_ (so_ 6 5 7)]
 (.seq (sq_ [mv_ 8 0,
 c1_ 9 191 8,
 mv_ 6 9]
 (sq_ [mv_ 10 6]
 (.block 0 (sq_ [pr_ 27 (bk_ .eql 10 .u8 40),
 mv_ 26 27]
 (.cond (.tmp 26)
 (sq_ [mv_ 28 0,
 mv_ 29 0,
 pr_ 30 (nc_ 29),
 pr_ 31 (fa_ 2 30),
 pr_ 32 (lf_ 1 31),
 mv_ 33 32,
 gp_ 34 33 false (mo_ 1),
 gp_ 35 33 false (bk_ .eql 34 .i64 8),
 pr_ 36 (po_ 33 35),
 pr_ 37 (nc_ 28),
 pr_ 38 (fa_ 2 37),
 st_ (so_ 1 38 36)]
 (.seq (sq_ [mv_ 39 0,
 pr_ 40 (nc_ 39),
 pr_ 41 (fa_ 2 40),
 pr_ 42 (lf_ 1 41),
 pr_ 43 (no_ 42)]
 (.cond (.tmp 43)
 (.ops [mv_ 44 0,
 mv_ 45 1,
 pr_ 46 (bk_ .add 45 .i64 1),
 cl_ 47 173 [(.tmp 44),(.tmp 46)],
 st_ (so_ 6 5 47)])
 .skip))
 (.ops [mv_ 48 0,
 mv_ 49 0,
 cl_ 50 178 [(.tmp 49),(.const (.int .u8 41))],
 pr_ 51 (no_ 50),
 mv_ 52 51,
 gp_ 53 52 false (mo_ 0),
 gp_ 54 52 false (nc_ 53),
 gp_ 55 52 false (fa_ 2 54),
 gp_ 56 52 false (lf_ 1 55),
 pr_ 57 (po_ 52 56),
 pr_ 58 (nc_ 48),
 pr_ 59 (fa_ 2 58),
 st_ (so_ 1 59 57)])))
 (sq_ [pr_ 61 (bk_ .eql 10 .u8 91),
 mv_ 60 61]
 (.cond (.tmp 60)
 (.ops [mv_ 62 0,
 c1_ 63 192 62,
 pr_ 64 (fa_ 1 5),
 st_ (so_ 4 64 63)])
 (sq_ [pr_ 66 (bk_ .eql 10 .u8 46),
 mv_ 65 66]
 (.cond (.tmp 65)
 (.ops [pr_ 67 (fa_ 1 5),
 pr_ 68 (lt_ 4 67),
 c1_ 69 193 68,
 pr_ 70 (fa_ 1 5),
 st_ (so_ 4 70 69)])
 (sq_ [pr_ 72 (bk_ .eql 10 .u8 92),
 mv_ 71 72]
 (.cond (.tmp 71)
 (.ops [pr_ 73 (fa_ 1 5),
 mv_ 74 0,
 c1_ 75 195 74,
 cl_ 76 194 [(.tmp 73),(.tmp 75)]])
 (sq_ [mv_ 11 0,
 mv_ 12 0,
 pr_ 13 (nc_ 12),
 pr_ 14 (fa_ 2 13),
 pr_ 15 (lf_ 1 14),
 mv_ 16 15,
 gp_ 17 16 false (mo_ 6),
 gc_ 18 16 false 196 [(.const (.string (ByteArray.mk #[42,43,63,93]))),(.tmp 17)],
 gp_ 19 16 false (bk_ .geq 18 .i64 0),
 pr_ 20 (po_ 16 19),
 pr_ 21 (nc_ 11),
 pr_ 22 (fa_ 2 21),
 st_ (so_ 1 22 20)]
 (.ops [pr_ 23 (fa_ 1 5),
 mv_ 24 6,
 cl_ 25 194 [(.tmp 23),(.tmp 24)]])))))))))))))
 (sq_ [pr_ 77 (lt_ 6 5),
 st_ (so_ 6 4 77)]
 .ret))))
def o189:List Tmp:=[4,5]
def r189:List RV:=[.cell 4 6 true]
theorem t189:Text Tryz.prog 189 o189 c189 r189 78:=.mk_ Tryz.f189 rfl
def c190:ACode :=
 (sq_ [pr_ 2 (mi_ .u8 0)]
 (.seq (sq_ [mv_ 4 0,
 c1_ 5 172 4,
 pr_ 6 (no_ 5)]
 (.cond (.tmp 6)
 (sq_ [mv_ 7 0,
 c1_ 8 185 7]
 (sq_ [pr_ 2 (mi_ .u8 0)]
 .ret))
 .skip))
 (.seq (.draw [⟨mv_ 9 0,[],false,0,0⟩,
 ⟨pr_ 10 (nc_ 9),[0],false,0,0⟩,
 ⟨pr_ 11 (fa_ 0 10),[0,1],false,0,0⟩,
 ⟨pr_ 12 (lf_ 1 11),[0,1,2],false,0,0⟩,
 ⟨mv_ 13 0,[],false,0,0⟩,
 ⟨pr_ 14 (nc_ 13),[4],false,0,0⟩,
 ⟨pr_ 15 (fa_ 1 14),[4,5],false,0,0⟩,
 ⟨pr_ 16 (lf_ 1 15),[4,5,6],false,0,0⟩,
 ⟨pr_ 17 (.idxs (.tmp 12) (.tmp 16)),(List.range 8),false,0,0⟩,
 ⟨mv_ 3 17,(List.range 9),false,0,0⟩])
 (sq_ [mv_ 18 0,
 pr_ 19 (nc_ 18),
 pr_ 20 (fa_ 1 19),
 pr_ 21 (lf_ 1 20),
 pr_ 22 (bk_ .add 21 .i64 1),
 pr_ 23 (nc_ 18),
 pr_ 24 (fa_ 1 23),
 st_ (so_ 1 24 22)]
 (.seq (sq_ [mv_ 25 3,
 pr_ 26 (bk_ .eql 25 .u8 92)]
 (.cond (.tmp 26)
 (.seq (.seq (.draw [⟨mv_ 27 0,[],false,0,0⟩,
 ⟨c1_ 28 172 27,[0],true,0,0⟩,
 ⟨pr_ 29 (no_ 28),[0,1],false,1,1⟩,
 ⟨mv_ 30 29,[0,1,2],false,1,1⟩,
 ⟨gp_ 31 30 false (mo_ 0),[0,1,2,3],false,1,1⟩,
 ⟨gp_ 32 30 false (nc_ 31),[0,1,2,3,4],false,1,1⟩,
 ⟨gp_ 33 30 false (fa_ 0 32),(List.range 6),false,1,1⟩,
 ⟨gp_ 34 30 false (lf_ 1 33),(List.range 7),false,1,1⟩,
 ⟨gp_ 35 30 false (mo_ 0),[0,1,2,3],false,1,1⟩,
 ⟨gp_ 36 30 false (nc_ 35),[0,1,2,3,8],false,1,1⟩,
 ⟨gp_ 37 30 false (fa_ 1 36),[0,1,2,3,8,9],false,1,1⟩,
 ⟨gp_ 38 30 false (lf_ 1 37),[0,1,2,3,8,9,10],false,1,1⟩,
 ⟨gp_ 39 30 false (.idxs (.tmp 34) (.tmp 38)),(List.range 12),false,1,1⟩,
 ⟨gc_ 40 30 false 184 [(.tmp 39)],(List.range 13),true,0,0⟩,
 ⟨gp_ 41 30 false (no_ 40),(List.range 14),false,2,2⟩,
 ⟨pr_ 42 (po_ 30 41),(List.range 15),false,2,2⟩])
 (.cond (.tmp 42)
 (sq_ [mv_ 43 0,
 c1_ 44 185 43]
 (sq_ [pr_ 2 (mi_ .u8 0)]
 .ret))
 .skip))
 (sq_ [mv_ 45 0,
 pr_ 46 (nc_ 45),
 pr_ 47 (fa_ 1 46),
 pr_ 48 (lf_ 1 47),
 pr_ 49 (bk_ .add 48 .i64 1),
 pr_ 50 (nc_ 45),
 pr_ 51 (fa_ 1 50),
 st_ (so_ 1 51 49)]
 (.seq (.draw [⟨mv_ 52 0,[],false,0,0⟩,
 ⟨pr_ 53 (nc_ 52),[0],false,0,0⟩,
 ⟨pr_ 54 (fa_ 0 53),[0,1],false,0,0⟩,
 ⟨pr_ 55 (lf_ 1 54),[0,1,2],false,0,0⟩,
 ⟨mv_ 56 0,[],false,0,0⟩,
 ⟨pr_ 57 (nc_ 56),[4],false,0,0⟩,
 ⟨pr_ 58 (fa_ 1 57),[4,5],false,0,0⟩,
 ⟨pr_ 59 (lf_ 1 58),[4,5,6],false,0,0⟩,
 ⟨pr_ 60 (bk_ .sub 59 .i64 1),[4,5,6,7],false,0,0⟩,
 ⟨pr_ 61 (.idxs (.tmp 55) (.tmp 60)),(List.range 9),false,0,0⟩,
 ⟨mv_ 2 61,(List.range 10),false,0,0⟩])
 .ret)))
 .skip))
 (.seq (sq_ [mv_ 62 3,
 pr_ 63 (bk_ .eql 62 .u8 93),
 mv_ 64 63,
 gp_ 65 64 false (mo_ 3),
 gp_ 66 64 false (bk_ .eql 65 .u8 91),
 pr_ 67 (po_ 64 66),
 mv_ 68 67,
 gp_ 69 68 false (mo_ 3),
 gp_ 70 68 false (bk_ .eql 69 .u8 94),
 pr_ 71 (po_ 68 70),
 mv_ 72 71,
 gp_ 73 72 false (mo_ 3),
 gp_ 74 72 false (bk_ .eql 73 .u8 45),
 pr_ 75 (po_ 72 74)]
 (.cond (.tmp 75)
 (.ops [mv_ 76 0,
 c1_ 77 185 76])
 .skip))
 (sq_ [mv_ 78 3,
 mv_ 2 78]
 .ret)))))))
def o190:List Tmp:=[]
def r190:List RV:=[.tmp 2]
theorem t190:Text Tryz.prog 190 o190 c190 r190 79:=.mk_ Tryz.f190 rfl
def c191:ACode :=
 (sq_ [pr_ 2 (mi_ .u8 0)]
 (.seq (sq_ [mv_ 3 0,
 c1_ 4 181 3]
 (.cond (.tmp 4)
 (sq_ [mv_ 5 0,
 pr_ 6 (nc_ 5),
 pr_ 7 (fa_ 2 6),
 st_ (.store 1 (.tmp 7) (.const (.bool true)))]
 (sq_ [pr_ 2 (mi_ .u8 0)]
 .ret))
 .skip))
 (sq_ [mv_ 8 0,
 pr_ 9 (nc_ 8),
 pr_ 10 (fa_ 1 9),
 pr_ 11 (lf_ 1 10),
 pr_ 12 (bk_ .add 11 .i64 1),
 pr_ 13 (nc_ 8),
 pr_ 14 (fa_ 1 13),
 st_ (so_ 1 14 12)]
 (.seq (.draw [⟨mv_ 15 0,[],false,0,0⟩,
 ⟨pr_ 16 (nc_ 15),[0],false,0,0⟩,
 ⟨pr_ 17 (fa_ 0 16),[0,1],false,0,0⟩,
 ⟨pr_ 18 (lf_ 1 17),[0,1,2],false,0,0⟩,
 ⟨mv_ 19 0,[],false,0,0⟩,
 ⟨pr_ 20 (nc_ 19),[4],false,0,0⟩,
 ⟨pr_ 21 (fa_ 1 20),[4,5],false,0,0⟩,
 ⟨pr_ 22 (lf_ 1 21),[4,5,6],false,0,0⟩,
 ⟨pr_ 23 (bk_ .sub 22 .i64 1),[4,5,6,7],false,0,0⟩,
 ⟨pr_ 24 (.idxs (.tmp 18) (.tmp 23)),(List.range 9),false,0,0⟩,
 ⟨mv_ 2 24,(List.range 10),false,0,0⟩])
 .ret))))
def o191:List Tmp:=[]
def r191:List RV:=[.tmp 2]
theorem t191:Text Tryz.prog 191 o191 c191 r191 25:=.mk_ Tryz.f191 rfl
def c192:ACode :=
 (sq_ [pr_ 2 (.allocm [.pl (.int .u64 0),.pl (.int .u64 0),.pl (.int .u64 0),.pl (.int .u64 0)])]
 (sq_ [pr_ 3 (.allocm [.pl (.int .u64 0),.pl (.int .u64 0),.pl (.int .u64 0),.pl (.int .u64 0)])]
 (sq_ [mv_ 9 0,
 cl_ 10 178 [(.tmp 9),(.const (.int .u8 94))],
 mv_ 4 10]
 (.seq (sq_ [pr_ 5 mt_]
 (.block 0 (.loop [1,6,7,8,9,10,11,12,13,14,15,16,17,18,19,20,21,22,23,24,25,26,27,28,29,30,31,32,33,34,35,36,37,38,39,40,41,42,43,44,45,46,47,48,49,50,51,52,53,54,55,56,57,58,59,60,61,62,63,64,65,66,67] (.seq (sq_ [mv_ 11 5,
 mv_ 12 11,
 gp_ 13 12 false (mo_ 0),
 gc_ 14 12 false 181 [(.tmp 13)],
 gp_ 15 12 false (no_ 14),
 gp_ 16 12 false (mo_ 15),
 gp_ 17 16 true (mo_ 0),
 gc_ 18 16 true 182 [(.tmp 17),(.const (.int .u8 93))],
 gp_ 19 16 true (no_ 18),
 gp_ 20 12 false (pa_ 16 19),
 pr_ 21 (po_ 12 20)]
 (.cond (.tmp 21)
 .skip
 (.exit 0)))
 (.seq (.block 1 (sq_ [mv_ 22 0,
 c1_ 23 197 22,
 mv_ 6 23]
 (sq_ [mv_ 24 6,
 mv_ 7 24]
 (.seq (sq_ [mv_ 25 0,
 cl_ 26 178 [(.tmp 25),(.const (.int .u8 45))]]
 (.cond (.tmp 26)
 (.ops [mv_ 27 0,
 c1_ 28 197 27,
 mv_ 7 28])
 .skip))
 (sq_ [mv_ 29 0,
 mv_ 30 0,
 pr_ 31 (nc_ 30),
 pr_ 32 (fa_ 2 31),
 pr_ 33 (lf_ 1 32),
 mv_ 34 33,
 gp_ 35 34 false (mo_ 7),
 gp_ 36 34 false (mo_ 6),
 gp_ 37 34 false (bt_ .lss 35 36),
 pr_ 38 (po_ 34 37),
 pr_ 39 (nc_ 29),
 pr_ 40 (fa_ 2 39),
 st_ (so_ 1 40 38)]
 (sq_ [mv_ 41 6,
 pr_ 42 (.convi .i64 (.tmp 41)),
 mv_ 8 42]
 (.block 2 (.loop [1,5,6,9,10,11,12,13,14,15,16,17,18,19,20,21,22,23,24,25,26,27,28,29,30,31,32,33,34,35,36,37,38,39,40,41,42,43,44,45,46,47,48,49,50,51,52,53,54,55,56,57,58,59,60,61,62,63,64,65,66,67] (.seq (sq_ [mv_ 43 8,
 mv_ 44 7,
 pr_ 45 (.convi .i64 (.tmp 44)),
 pr_ 46 (bt_ .leq 43 45)]
 (.cond (.tmp 46)
 .skip
 (.exit 2)))
 (.seq (.block 3 (.ops [mv_ 49 8,
 pr_ 50 (.convi .u8 (.tmp 49)),
 cl_ 51 194 [(.tmp 3),(.tmp 50)]]))
 (.ops [mv_ 47 8,
 pr_ 48 (bk_ .add 47 .i64 1),
 mv_ 8 48])))))))))))
 (.ops [pr_ 5 mf_]))))))
 (sq_ [mv_ 52 0,
 mv_ 53 0,
 cl_ 54 178 [(.tmp 53),(.const (.int .u8 93))],
 pr_ 55 (no_ 54),
 mv_ 56 55,
 gp_ 57 56 false (mo_ 0),
 gp_ 58 56 false (nc_ 57),
 gp_ 59 56 false (fa_ 2 58),
 gp_ 60 56 false (lf_ 1 59),
 pr_ 61 (po_ 56 60),
 pr_ 62 (nc_ 52),
 pr_ 63 (fa_ 2 62),
 st_ (so_ 1 63 61)]
 (.seq (sq_ [mv_ 64 4]
 (.cond (.tmp 64)
 (sq_ [pr_ 65 (lt_ 4 3),
 c1_ 66 193 65,
 st_ (so_ 4 2 66)]
 .ret)
 .skip))
 (sq_ [pr_ 67 (lt_ 4 3),
 st_ (so_ 4 2 67)]
 .ret)))))))
def o192:List Tmp:=[2,3]
def r192:List RV:=[.cell 2 4 true]
theorem t192:Text Tryz.prog 192 o192 c192 r192 68:=.mk_ Tryz.f192 rfl
def c193:ACode :=
 (sq_ [pr_ 1 (.boxm (.tmp 0)),
 pr_ 2 (.allocm [.pl (.int .u64 0),.pl (.int .u64 0),.pl (.int .u64 0),.pl (.int .u64 0)])]
 (.seq (sq_ [pr_ 4 (mi_ .i64 0)]
 (.block 0 (.loop [0,3,5,6,7,8,9,10,11,12,13,14] (sq_ [pr_ 5 (bk_ .lss 4 .i64 4)]
 (.seq (.cond (.tmp 5)
 .skip
 (.exit 0))
 (.seq (.block 1 (sq_ [mv_ 6 4,
 mv_ 3 6]
 (.ops [mv_ 7 3,
 mv_ 8 3,
 pr_ 9 (.iadra 1 4 (.tmp 1) (.tmp 8)),
 pr_ 10 (lf_ 1 9),
 pr_ 11 (.un .xor (.tmp 10)),
 pr_ 12 (.iadra 1 4 (.tmp 1) (.tmp 7)),
 st_ (so_ 1 12 11)])))
 (.ops [pr_ 13 (bk_ .add 4 .i64 1),
 mv_ 4 13])))))))
 (sq_ [pr_ 14 (lt_ 4 1),
 st_ (so_ 4 2 14)]
 .ret)))
def o193:List Tmp:=[1,2]
def r193:List RV:=[.cell 2 4 true]
theorem t193:Text Tryz.prog 193 o193 c193 r193 15:=.mk_ Tryz.f193 rfl
def c194:ACode :=
 (.draw [⟨mv_ 4 0,[],false,0,0⟩,
 ⟨mv_ 5 1,[],false,0,0⟩,
 ⟨pr_ 6 (bk_ .quo 5 .u8 64),[1],false,0,0⟩,
 ⟨pr_ 7 (nc_ 4),[0],false,0,0⟩,
 ⟨pr_ 8 (.iadra 1 4 (.tmp 7) (.tmp 6)),[0,1,2,3],false,0,0⟩,
 ⟨pr_ 9 (lf_ 1 8),[0,1,2,3,4],false,0,0⟩,
 ⟨mv_ 10 1,[],false,0,0⟩,
 ⟨pr_ 11 (bk_ .rem 10 .u8 64),[6],false,0,0⟩,
 ⟨pr_ 12 (.bin false .shl (.const (.int .u64 1)) (.tmp 11)),[6,7],false,0,0⟩,
 ⟨pr_ 13 (bt_ .or 9 12),(List.range 9),false,0,0⟩,
 ⟨pr_ 14 (nc_ 4),[0],false,0,0⟩,
 ⟨pr_ 15 (.iadra 1 4 (.tmp 14) (.tmp 6)),(List.range 11),false,0,0⟩,
 ⟨st_ (so_ 1 15 13),(List.range 12),true,0,0⟩])
def o194:List Tmp:=[]
def r194:List RV:=[]
theorem t194:Text Tryz.prog 194 o194 c194 r194 16:=.mk_ Tryz.f194 rfl
def c195:ACode :=
 (sq_ [pr_ 2 (mi_ .u8 0)]
 (sq_ [mv_ 4 0,
 c1_ 5 191 4,
 mv_ 3 5]
 (sq_ [mv_ 6 0,
 mv_ 7 0,
 pr_ 8 (nc_ 7),
 pr_ 9 (fa_ 2 8),
 pr_ 10 (lf_ 1 9),
 mv_ 11 10,
 gp_ 12 11 false (mo_ 3),
 gc_ 13 11 false 196 [(.const (.string (ByteArray.mk #[124,42,43,63,40,41,91,93,46,92,94,45]))),(.tmp 12)],
 gp_ 14 11 false (bk_ .lss 13 .i64 0),
 pr_ 15 (po_ 11 14),
 pr_ 16 (nc_ 6),
 pr_ 17 (fa_ 2 16),
 st_ (so_ 1 17 15)]
 (sq_ [mv_ 18 3,
 mv_ 2 18]
 .ret))))
def o195:List Tmp:=[]
def r195:List RV:=[.tmp 2]
theorem t195:Text Tryz.prog 195 o195 c195 r195 19:=.mk_ Tryz.f195 rfl
def c196:ACode :=
 (sq_ [pr_ 4 (mi_ .i64 0)]
 (sq_ [mv_ 5 0,
 mv_ 6 1,
 cl_ 7 198 [(.tmp 5),(.tmp 6)],
 mv_ 4 7]
 .ret))
def o196:List Tmp:=[]
def r196:List RV:=[.tmp 4]
theorem t196:Text Tryz.prog 196 o196 c196 r196 8:=.mk_ Tryz.f196 rfl
def c197:ACode :=
 (sq_ [pr_ 2 (mi_ .u8 0)]
 (sq_ [mv_ 4 0,
 c1_ 5 191 4,
 mv_ 3 5]
 (.seq (sq_ [mv_ 6 3,
 pr_ 7 (bk_ .eql 6 .u8 92)]
 (.cond (.tmp 7)
 (sq_ [mv_ 8 0,
 c1_ 9 195 8,
 mv_ 2 9]
 .ret)
 .skip))
 (sq_ [mv_ 10 0,
 mv_ 11 0,
 pr_ 12 (nc_ 11),
 pr_ 13 (fa_ 2 12),
 pr_ 14 (lf_ 1 13),
 mv_ 15 14,
 gp_ 16 15 false (mo_ 3),
 gc_ 17 15 false 196 [(.const (.string (ByteArray.mk #[92,93,91,94,45]))),(.tmp 16)],
 gp_ 18 15 false (bk_ .geq 17 .i64 0),
 pr_ 19 (po_ 15 18),
 pr_ 20 (nc_ 10),
 pr_ 21 (fa_ 2 20),
 st_ (so_ 1 21 19)]
 (sq_ [mv_ 22 3,
 mv_ 2 22]
 .ret)))))
def o197:List Tmp:=[]
def r197:List RV:=[.tmp 2]
theorem t197:Text Tryz.prog 197 o197 c197 r197 23:=.mk_ Tryz.f197 rfl
def c198:ACode :=
 (sq_ [pr_ 4 (mi_ .i64 0)]
 (sq_ [mv_ 5 0,
 mv_ 6 1,
 cl_ 7 199 [(.tmp 5),(.tmp 6)],
 mv_ 4 7]
 .ret))
def o198:List Tmp:=[]
def r198:List RV:=[.tmp 4]
theorem t198:Text Tryz.prog 198 o198 c198 r198 8:=.mk_ Tryz.f198 rfl
theorem Lstep {P:Program} {n0:Nat} {clr:List Tmp} {x:ACode} {k:List Fr} {B:Bs} {env:Env} {σ:St}
  (h:∀J:Env→St→Prop,(∀env σ,L P n0 clr x k B env σ→J env σ)→R P n0 x (.loop J clr::k) B env σ):L P n0 clr x k B env σ:=by
 unfold L;intro I hI;refine hI _ _ (h I fun env' σ' hl=>?_)
 unfold L at hl;exact hl I hI
theorem rn0_ok:Ans Tryz.prog 134 [.pl (.string ⟨#[115,101,118]⟩)] [] (.pl (.bool true)) []:=by
 have hs:(⟨#[115,101,118]⟩:ByteArray).size=3:=rfl;have d0:decide ((0:Int)<((3:Nat):Int))=true:=rfl;have l0:((0:Int)<((3:Nat):Int))=True:=eq_true (by decide)
 have b0:((((([115,101,118]:List UInt8).getD (Int.toNat 0) 0).toNat:Nat)):Int)=115:=rfl;have w0:IntKind.i64.wrap (1:Int)=1:=rfl;have d1:decide ((1:Int)<((3:Nat):Int))=true:=rfl;have l1:((1:Int)<((3:Nat):Int))=True:=eq_true (by decide)
 have b1:((((([115,101,118]:List UInt8).getD (Int.toNat 1) 0).toNat:Nat)):Int)=101:=rfl;have w1:IntKind.i64.wrap (2:Int)=2:=rfl;have d2:decide ((2:Int)<((3:Nat):Int))=true:=rfl;have l2:((2:Int)<((3:Nat):Int))=True:=eq_true (by decide)
 have b2:((((([115,101,118]:List UInt8).getD (Int.toNat 2) 0).toNat:Nat)):Int)=118:=rfl;have w2:IntKind.i64.wrap (3:Int)=3:=rfl;have d3:decide ((3:Int)<((3:Nat):Int))=false:=rfl;have e1:decide ((1:Int)≤((3:Nat):Int))=true:=rfl;have e2:decide (((3:Nat):Int)≤12)=true:=rfl;refine Ans.of_run t134 ?_;simp -implicitDefEqProofs only[c134,r134,go_sem];refine Lstep fun J0 q0=>?_
 simp -implicitDefEqProofs only[go_sem,Int.reduceLE,Int.reduceLT,decide_true,decide_false,hs,d0,l0,b0,w0,d1,l1,b1,w1,d2,l2,b2,w2,d3,e1,e2];refine q0 _ _ ?_;refine Lstep fun J1 u0=>?_
 simp -implicitDefEqProofs only[go_sem,Int.reduceLE,Int.reduceLT,decide_true,decide_false,hs,d0,l0,b0,w0,d1,l1,b1,w1,d2,l2,b2,w2,d3,e1,e2];refine u0 _ _ ?_;refine Lstep fun J2 y0=>?_
 simp -implicitDefEqProofs only[go_sem,Int.reduceLE,Int.reduceLT,decide_true,decide_false,hs,d0,l0,b0,w0,d1,l1,b1,w1,d2,l2,b2,w2,d3,e1,e2];refine y0 _ _ ?_;refine Lstep fun J3 hJ3=>?_
 simp -implicitDefEqProofs only[go_sem,Int.reduceLE,Int.reduceLT,decide_true,decide_false,hs,d0,l0,b0,w0,d1,l1,b1,w1,d2,l2,b2,w2,d3,e1,e2];exact Fini.ret rfl
theorem rn1_ok:Ans Tryz.prog 134 [.pl (.string ⟨#[106,111,98]⟩)] [] (.pl (.bool true)) []:=by
 have hs:(⟨#[106,111,98]⟩:ByteArray).size=3:=rfl;have d0:decide ((0:Int)<((3:Nat):Int))=true:=rfl;have l0:((0:Int)<((3:Nat):Int))=True:=eq_true (by decide)
 have b0:((((([106,111,98]:List UInt8).getD (Int.toNat 0) 0).toNat:Nat)):Int)=106:=rfl;have w0:IntKind.i64.wrap (1:Int)=1:=rfl;have d1:decide ((1:Int)<((3:Nat):Int))=true:=rfl;have l1:((1:Int)<((3:Nat):Int))=True:=eq_true (by decide)
 have b1:((((([106,111,98]:List UInt8).getD (Int.toNat 1) 0).toNat:Nat)):Int)=111:=rfl;have w1:IntKind.i64.wrap (2:Int)=2:=rfl;have d2:decide ((2:Int)<((3:Nat):Int))=true:=rfl;have l2:((2:Int)<((3:Nat):Int))=True:=eq_true (by decide)
 have b2:((((([106,111,98]:List UInt8).getD (Int.toNat 2) 0).toNat:Nat)):Int)=98:=rfl;have w2:IntKind.i64.wrap (3:Int)=3:=rfl;have d3:decide ((3:Int)<((3:Nat):Int))=false:=rfl;have e1:decide ((1:Int)≤((3:Nat):Int))=true:=rfl;have e2:decide (((3:Nat):Int)≤12)=true:=rfl;refine Ans.of_run t134 ?_;simp -implicitDefEqProofs only[c134,r134,go_sem];refine Lstep fun J0 q0=>?_
 simp -implicitDefEqProofs only[go_sem,Int.reduceLE,Int.reduceLT,decide_true,decide_false,hs,d0,l0,b0,w0,d1,l1,b1,w1,d2,l2,b2,w2,d3,e1,e2];refine q0 _ _ ?_;refine Lstep fun J1 u0=>?_
 simp -implicitDefEqProofs only[go_sem,Int.reduceLE,Int.reduceLT,decide_true,decide_false,hs,d0,l0,b0,w0,d1,l1,b1,w1,d2,l2,b2,w2,d3,e1,e2];refine u0 _ _ ?_;refine Lstep fun J2 y0=>?_
 simp -implicitDefEqProofs only[go_sem,Int.reduceLE,Int.reduceLT,decide_true,decide_false,hs,d0,l0,b0,w0,d1,l1,b1,w1,d2,l2,b2,w2,d3,e1,e2];refine y0 _ _ ?_;refine Lstep fun J3 hJ3=>?_
 simp -implicitDefEqProofs only[go_sem,Int.reduceLE,Int.reduceLT,decide_true,decide_false,hs,d0,l0,b0,w0,d1,l1,b1,w1,d2,l2,b2,w2,d3,e1,e2];exact Fini.ret rfl
theorem rn2_ok:Ans Tryz.prog 134 [.pl (.string ⟨#[104,111,115,116]⟩)] [] (.pl (.bool true)) []:=by
 have hs:(⟨#[104,111,115,116]⟩:ByteArray).size=4:=rfl;have d0:decide ((0:Int)<((4:Nat):Int))=true:=rfl;have l0:((0:Int)<((4:Nat):Int))=True:=eq_true (by decide)
 have b0:((((([104,111,115,116]:List UInt8).getD (Int.toNat 0) 0).toNat:Nat)):Int)=104:=rfl;have w0:IntKind.i64.wrap (1:Int)=1:=rfl;have d1:decide ((1:Int)<((4:Nat):Int))=true:=rfl;have l1:((1:Int)<((4:Nat):Int))=True:=eq_true (by decide)
 have b1:((((([104,111,115,116]:List UInt8).getD (Int.toNat 1) 0).toNat:Nat)):Int)=111:=rfl;have w1:IntKind.i64.wrap (2:Int)=2:=rfl;have d2:decide ((2:Int)<((4:Nat):Int))=true:=rfl;have l2:((2:Int)<((4:Nat):Int))=True:=eq_true (by decide)
 have b2:((((([104,111,115,116]:List UInt8).getD (Int.toNat 2) 0).toNat:Nat)):Int)=115:=rfl;have w2:IntKind.i64.wrap (3:Int)=3:=rfl;have d3:decide ((3:Int)<((4:Nat):Int))=true:=rfl;have l3:((3:Int)<((4:Nat):Int))=True:=eq_true (by decide)
 have b3:((((([104,111,115,116]:List UInt8).getD (Int.toNat 3) 0).toNat:Nat)):Int)=116:=rfl;have w3:IntKind.i64.wrap (4:Int)=4:=rfl;have d4:decide ((4:Int)<((4:Nat):Int))=false:=rfl;have e1:decide ((1:Int)≤((4:Nat):Int))=true:=rfl;have e2:decide (((4:Nat):Int)≤12)=true:=rfl;refine Ans.of_run t134 ?_;simp -implicitDefEqProofs only[c134,r134,go_sem];refine Lstep fun J0 j0=>?_
 simp -implicitDefEqProofs only[go_sem,Int.reduceLE,Int.reduceLT,decide_true,decide_false,hs,d0,l0,b0,w0,d1,l1,b1,w1,d2,l2,b2,w2,d3,l3,b3,w3,d4,e1,e2];refine j0 _ _ ?_;refine Lstep fun J1 u0=>?_
 simp -implicitDefEqProofs only[go_sem,Int.reduceLE,Int.reduceLT,decide_true,decide_false,hs,d0,l0,b0,w0,d1,l1,b1,w1,d2,l2,b2,w2,d3,l3,b3,w3,d4,e1,e2];refine u0 _ _ ?_;refine Lstep fun J2 y0=>?_
 simp -implicitDefEqProofs only[go_sem,Int.reduceLE,Int.reduceLT,decide_true,decide_false,hs,d0,l0,b0,w0,d1,l1,b1,w1,d2,l2,b2,w2,d3,l3,b3,w3,d4,e1,e2];refine y0 _ _ ?_;refine Lstep fun J3 q0=>?_
 simp -implicitDefEqProofs only[go_sem,Int.reduceLE,Int.reduceLT,decide_true,decide_false,hs,d0,l0,b0,w0,d1,l1,b1,w1,d2,l2,b2,w2,d3,l3,b3,w3,d4,e1,e2];refine q0 _ _ ?_;refine Lstep fun J4 hJ4=>?_
 simp -implicitDefEqProofs only[go_sem,Int.reduceLE,Int.reduceLT,decide_true,decide_false,hs,d0,l0,b0,w0,d1,l1,b1,w1,d2,l2,b2,w2,d3,l3,b3,w3,d4,e1,e2];exact Fini.ret rfl
theorem rn3_ok:Ans Tryz.prog 134 [.pl (.string ⟨#[95,120]⟩)] [] (.pl (.bool true)) []:=by
 have hs:(⟨#[95,120]⟩:ByteArray).size=2:=rfl;have d0:decide ((0:Int)<((2:Nat):Int))=true:=rfl;have l0:((0:Int)<((2:Nat):Int))=True:=eq_true (by decide)
 have b0:((((([95,120]:List UInt8).getD (Int.toNat 0) 0).toNat:Nat)):Int)=95:=rfl;have w0:IntKind.i64.wrap (1:Int)=1:=rfl;have d1:decide ((1:Int)<((2:Nat):Int))=true:=rfl;have l1:((1:Int)<((2:Nat):Int))=True:=eq_true (by decide)
 have b1:((((([95,120]:List UInt8).getD (Int.toNat 1) 0).toNat:Nat)):Int)=120:=rfl;have w1:IntKind.i64.wrap (2:Int)=2:=rfl;have d2:decide ((2:Int)<((2:Nat):Int))=false:=rfl;have e1:decide ((1:Int)≤((2:Nat):Int))=true:=rfl;have e2:decide (((2:Nat):Int)≤12)=true:=rfl;refine Ans.of_run t134 ?_;simp -implicitDefEqProofs only[c134,r134,go_sem];refine Lstep fun J0 y0=>?_
 simp -implicitDefEqProofs only[go_sem,Int.reduceLE,Int.reduceLT,decide_true,decide_false,hs,d0,l0,b0,w0,d1,l1,b1,w1,d2,e1,e2];refine y0 _ _ ?_;refine Lstep fun J1 u0=>?_
 simp -implicitDefEqProofs only[go_sem,Int.reduceLE,Int.reduceLT,decide_true,decide_false,hs,d0,l0,b0,w0,d1,l1,b1,w1,d2,e1,e2];refine u0 _ _ ?_;refine Lstep fun J2 hJ2=>?_
 simp -implicitDefEqProofs only[go_sem,Int.reduceLE,Int.reduceLT,decide_true,decide_false,hs,d0,l0,b0,w0,d1,l1,b1,w1,d2,e1,e2];exact Fini.ret rfl
theorem rn4_ok:Ans Tryz.prog 134 [.pl (.string ⟨#[90,111,110,101,57]⟩)] [] (.pl (.bool true)) []:=by
 have hs:(⟨#[90,111,110,101,57]⟩:ByteArray).size=5:=rfl;have d0:decide ((0:Int)<((5:Nat):Int))=true:=rfl;have l0:((0:Int)<((5:Nat):Int))=True:=eq_true (by decide)
 have b0:((((([90,111,110,101,57]:List UInt8).getD (Int.toNat 0) 0).toNat:Nat)):Int)=90:=rfl;have w0:IntKind.i64.wrap (1:Int)=1:=rfl;have d1:decide ((1:Int)<((5:Nat):Int))=true:=rfl;have l1:((1:Int)<((5:Nat):Int))=True:=eq_true (by decide)
 have b1:((((([90,111,110,101,57]:List UInt8).getD (Int.toNat 1) 0).toNat:Nat)):Int)=111:=rfl;have w1:IntKind.i64.wrap (2:Int)=2:=rfl;have d2:decide ((2:Int)<((5:Nat):Int))=true:=rfl;have l2:((2:Int)<((5:Nat):Int))=True:=eq_true (by decide)
 have b2:((((([90,111,110,101,57]:List UInt8).getD (Int.toNat 2) 0).toNat:Nat)):Int)=110:=rfl;have w2:IntKind.i64.wrap (3:Int)=3:=rfl;have d3:decide ((3:Int)<((5:Nat):Int))=true:=rfl;have l3:((3:Int)<((5:Nat):Int))=True:=eq_true (by decide)
 have b3:((((([90,111,110,101,57]:List UInt8).getD (Int.toNat 3) 0).toNat:Nat)):Int)=101:=rfl;have w3:IntKind.i64.wrap (4:Int)=4:=rfl;have d4:decide ((4:Int)<((5:Nat):Int))=true:=rfl;have l4:((4:Int)<((5:Nat):Int))=True:=eq_true (by decide)
 have b4:((((([90,111,110,101,57]:List UInt8).getD (Int.toNat 4) 0).toNat:Nat)):Int)=57:=rfl;have w4:IntKind.i64.wrap (5:Int)=5:=rfl;have d5:decide ((5:Int)<((5:Nat):Int))=false:=rfl;have e1:decide ((1:Int)≤((5:Nat):Int))=true:=rfl;have e2:decide (((5:Nat):Int)≤12)=true:=rfl;refine Ans.of_run t134 ?_;simp -implicitDefEqProofs only[c134,r134,go_sem];refine Lstep fun J0 k0=>?_
 simp -implicitDefEqProofs only[go_sem,Int.reduceLE,Int.reduceLT,decide_true,decide_false,hs,d0,l0,b0,w0,d1,l1,b1,w1,d2,l2,b2,w2,d3,l3,b3,w3,d4,l4,b4,w4,d5,e1,e2];refine k0 _ _ ?_;refine Lstep fun J1 u0=>?_
 simp -implicitDefEqProofs only[go_sem,Int.reduceLE,Int.reduceLT,decide_true,decide_false,hs,d0,l0,b0,w0,d1,l1,b1,w1,d2,l2,b2,w2,d3,l3,b3,w3,d4,l4,b4,w4,d5,e1,e2];refine u0 _ _ ?_;refine Lstep fun J2 y0=>?_
 simp -implicitDefEqProofs only[go_sem,Int.reduceLE,Int.reduceLT,decide_true,decide_false,hs,d0,l0,b0,w0,d1,l1,b1,w1,d2,l2,b2,w2,d3,l3,b3,w3,d4,l4,b4,w4,d5,e1,e2];refine y0 _ _ ?_;refine Lstep fun J3 j0=>?_
 simp -implicitDefEqProofs only[go_sem,Int.reduceLE,Int.reduceLT,decide_true,decide_false,hs,d0,l0,b0,w0,d1,l1,b1,w1,d2,l2,b2,w2,d3,l3,b3,w3,d4,l4,b4,w4,d5,e1,e2];refine j0 _ _ ?_;refine Lstep fun J4 q0=>?_
 simp -implicitDefEqProofs only[go_sem,Int.reduceLE,Int.reduceLT,decide_true,decide_false,hs,d0,l0,b0,w0,d1,l1,b1,w1,d2,l2,b2,w2,d3,l3,b3,w3,d4,l4,b4,w4,d5,e1,e2];refine q0 _ _ ?_;refine Lstep fun J5 hJ5=>?_
 simp -implicitDefEqProofs only[go_sem,Int.reduceLE,Int.reduceLT,decide_true,decide_false,hs,d0,l0,b0,w0,d1,l1,b1,w1,d2,l2,b2,w2,d3,l3,b3,w3,d4,l4,b4,w4,d5,e1,e2];exact Fini.ret rfl
abbrev I (n:Int):AV:=.pl (.int .i64 n)
abbrev Bo (b:Bool):AV:=.pl (.bool b)
abbrev Sx (s:ByteArray):AV:=.pl (.string s)
theorem wrapN {n:Int} (h: -9223372036854775808≤n) (h':n<9223372036854775808):IntKind.i64.wrap n=n:=by
 simp only[IntKind.wrap,IntKind.bits,IntKind.signed];simp;omega
theorem z5F {args:List AV} (h:belL 0 args=true):∀a∈args,Bel 0 a:=fun a ha=>by
 obtain⟨i,hi,rfl⟩:=List.getElem_of_mem ha;exact Bel.of_mem (z3E 0 args h) i hi
theorem Fini.ret2 {n m:Nat} {rvs:List RV} {r r':AV} {σ σ':St} {env:Env} (h:resA env σ rvs=some r') (e:r'=r) (e':σ=σ'):Fini m rvs r σ' .ret env σ:=by
 subst e;subst e';exact Fini.ret h
theorem Fini.trim2 {m:Nat} {rvs:List RV} {r:AV} {σ σ' ex:St} {env:Env} (h:resA env σ rvs=some r) (he:σ=σ'++ex) (hl:m≤σ'.length) (hb:Bel σ'.length r) (ho:∀o∈σ',BelO σ'.length o):Fini m rvs r σ' .ret env σ:=by
 subst he;exact⟨r,σ'++ex,h,rfl,rfl,.inr ⟨hl,by simp,hb,ho⟩⟩
def names:List ByteArray:=[⟨#[115,101,118]⟩,⟨#[106,111,98]⟩,⟨#[104,111,115,116]⟩,⟨#[95,120]⟩,⟨#[90,111,110,101,57]⟩]
def values:List ByteArray:=[⟨#[97]⟩,⟨#[98]⟩,⟨#[99,114,105,116]⟩,⟨#[119,97,114,110]⟩,⟨#[97,98]⟩,⟨#[0,255]⟩,⟨#[97,98,97,98,97,98,97,98,97,98,97,98,97,98,97,98,97,98,97,98,97,98,97,98]⟩]
def pats:List ByteArray:=[⟨#[97,124,98]⟩,⟨#[]⟩,⟨#[40,99,114,105,116,124,119,97,114,110,41]⟩,⟨#[91,97,45,99,93,43,46,42]⟩,⟨#[46,43]⟩,⟨#[40,97,98,41,42]⟩,⟨#[97,63,98,63]⟩,⟨#[91,94,97,93,42]⟩,⟨#[97,42,97,42,97,42,97,42,97,42,97,42,97,42,97,42,97,42,97,42,97,42,97,42,97,42,97,42]⟩]
def emodW (n lo hi:Int):Int:=lo+n%(hi-lo+1)
def inD (n lo hi:Int):Int:=if lo≤n∧n≤hi then n else emodW n lo hi
theorem zeS (n lo hi:Int) (h:lo≤hi):lo≤emodW n lo hi∧emodW n lo hi≤hi:=by
 unfold emodW;have h1:=Int.emod_nonneg n (show hi-lo+1≠0 by omega)
 have h2:=Int.emod_lt_of_pos n (show 0<hi-lo+1 by omega)
 omega
theorem z4V (n lo hi:Int) (h:lo≤hi):lo≤inD n lo hi∧inD n lo hi≤hi:=by
 unfold inD;split
 · assumption
 · exact zeS n lo hi h
def nameOf (n:Int):ByteArray:=names.getD (inD n 0 4).toNat ⟨#[]⟩
def valueOf (n:Int):ByteArray:=values.getD (inD n 0 6).toNat ⟨#[]⟩
def patOf (n:Int):ByteArray:=pats.getD (inD n 0 8).toNat ⟨#[]⟩
theorem getD_mem {l:List ByteArray} {k:Nat} (h:k<l.length) (d:ByteArray):l.getD k d∈l:=by
 rw[List.getD_eq_getElem?_getD,List.getElem?_eq_getElem h];exact List.getElem_mem h
theorem z6K (n:Int):nameOf n∈names:=by
 have h:=z4V n 0 4 (by omega)
 unfold nameOf;have:(inD n 0 4).toNat<5:=by omega
 exact getD_mem this _
theorem z5G (n:Int):valueOf n∈values:=by
 have h:=z4V n 0 6 (by omega)
 unfold valueOf;have:(inD n 0 6).toNat<7:=by omega
 exact getD_mem this _
theorem zcA (n:Int):patOf n∈pats:=by
 have h:=z4V n 0 8 (by omega)
 unfold patOf;have:(inD n 0 8).toNat<9:=by omega
 exact getD_mem this _
section
variable (σ:St)
theorem z34 (n lo hi:Int) (h0:0≤lo) (h1:lo≤hi) (h2:hi≤100):Ans Tryz.prog 86 [I n,I lo,I hi] σ (I (emodW n lo hi)) σ:=by
 have e1:IntKind.i64.wrap (hi-lo)=hi-lo:=wrapN (by omega) (by omega)
 have e2:IntKind.i64.wrap (hi-lo+1)=hi-lo+1:=wrapN (by omega) (by omega)
 have e3:((hi-lo+1)=0)=False:=by simp;omega
 have h3:=Int.emod_nonneg n (show hi-lo+1≠0 by omega)
 have h4:=Int.emod_lt_of_pos n (show 0<hi-lo+1 by omega)
 have h5:=Int.tmod_eq_emod (a:=n) (b:=hi-lo+1);unfold emodW;generalize hm:n%(hi-lo+1)=m at h3 h4 h5
 have h6:n.tmod (hi-lo+1)=m∨n.tmod (hi-lo+1)=m-(hi-lo+1):=by
  rw[h5];split
  · left;omega
  · right;omega
 refine Ans.of_run t86 ?_;simp -implicitDefEqProofs only[c86,r86,go_sem,e1,e2,e3];generalize n.tmod (hi-lo+1)=r at h6;rcases h6 with rfl|rfl
 · have d1:decide (r<0)=false:=by simp;omega
   have e4:IntKind.i64.wrap (lo+r)=lo+r:=wrapN (by omega) (by omega)
   simp -implicitDefEqProofs only[go_sem,d1,e4];exact Fini.ret rfl
 · have d1:decide (m-(hi-lo+1)<0)=true:=by simp;omega
   have e4:IntKind.i64.wrap (m-(hi-lo+1)+hi)=m-(hi-lo+1)+hi:=wrapN (by omega) (by omega)
   have e5:IntKind.i64.wrap (m-(hi-lo+1)+hi-lo)=m-(hi-lo+1)+hi-lo:=wrapN (by omega) (by omega)
   have e6:IntKind.i64.wrap (m-(hi-lo+1)+hi-lo+1)=m:=by rw[wrapN (by omega) (by omega)];omega
   have e7:IntKind.i64.wrap (lo+m)=lo+m:=wrapN (by omega) (by omega)
   simp -implicitDefEqProofs only[go_sem,d1,e4,e5,e6,e7];exact Fini.ret rfl
theorem z0g (n lo hi:Int) (h0:0≤lo) (h1:lo≤hi) (h2:hi≤100):Ans Tryz.prog 85 [I n,I lo,I hi] σ (I (inD n lo hi)) σ:=by
 have hw:=z34 σ n lo hi h0 h1 h2;unfold inD;refine Ans.of_run t85 ?_;simp -implicitDefEqProofs only[c85,r85,go_sem];by_cases d1:lo≤n
 · by_cases d2:n≤hi
   · have u0:decide (lo≤n)=true:=by simpa using d1
     have y0:decide (n≤hi)=true:=by simpa using d2
     simp -implicitDefEqProofs only[go_sem,u0,y0];rw[if_pos ⟨d1,d2⟩];exact Fini.ret rfl
   · have u0:decide (lo≤n)=true:=by simpa using d1
     have y0:decide (n≤hi)=false:=by simpa using d2
     simp -implicitDefEqProofs only[go_sem,u0,y0];refine CO.intro hw ?_;simp -implicitDefEqProofs only[go_sem];rw[if_neg (fun h=>d2 h.2)]
     exact Fini.ret rfl
 · have u0:decide (lo≤n)=false:=by simpa using d1
   simp -implicitDefEqProofs only[go_sem,u0];refine CO.intro hw ?_;simp -implicitDefEqProofs only[go_sem];rw[if_neg (fun h=>d1 h.1)]
   exact Fini.ret rfl
theorem z5c (n:Int):Ans Tryz.prog 114 [I n] σ (Sx (nameOf n)) σ:=by
 have h:=z4V n 0 4 (by omega)
 have hi:=z0g σ n 0 4 (by omega) (by omega) (by omega)
 unfold nameOf;generalize inD n 0 4=r at h hi⊢;refine Ans.of_run t114 ?_;simp -implicitDefEqProofs only[c114,r114,go_sem];refine CO.intro hi ?_;have h5:r=0∨r=1∨r=2∨r=3∨r=4:=by omega
 rcases h5 with rfl|rfl|rfl|rfl|rfl
 all_goals (
  simp -implicitDefEqProofs only[go_sem]
  exact Fini.ret rfl)
theorem z8g (n:Int):Ans Tryz.prog 115 [I n] σ (Sx (valueOf n)) σ:=by
 have h:=z4V n 0 6 (by omega)
 have hi:=z0g σ n 0 6 (by omega) (by omega) (by omega)
 unfold valueOf;generalize inD n 0 6=r at h hi⊢;refine Ans.of_run t115 ?_;simp -implicitDefEqProofs only[c115,r115,go_sem];refine CO.intro hi ?_;have h5:r=0∨r=1∨r=2∨r=3∨r=4∨r=5∨r=6:=by omega
 rcases h5 with rfl|rfl|rfl|rfl|rfl|rfl|rfl
 all_goals (
  simp -implicitDefEqProofs only[go_sem]
  exact Fini.ret rfl)
theorem z9r (n:Int):Ans Tryz.prog 136 [I n] σ (Sx (patOf n)) σ:=by
 have h:=z4V n 0 8 (by omega)
 have hi:=z0g σ n 0 8 (by omega) (by omega) (by omega)
 unfold patOf;generalize inD n 0 8=r at h hi⊢;refine Ans.of_run t136 ?_;simp -implicitDefEqProofs only[c136,r136,go_sem];refine CO.intro hi ?_;have h5:r=0∨r=1∨r=2∨r=3∨r=4∨r=5∨r=6∨r=7∨r=8:=by omega
 rcases h5 with rfl|rfl|rfl|rfl|rfl|rfl|rfl|rfl|rfl
 all_goals (
  simp -implicitDefEqProofs only[go_sem]
  exact Fini.ret rfl)
abbrev mat (k:Int) (n v:ByteArray):AV:=.agg [I k,Sx n,Sx v]
def z35 (k v:Int):ByteArray:=if inD k 1 4<3 then(if v<0 then⟨#[]⟩ else valueOf v) else patOf v
theorem z9s (m:Nat) (k:Int) (n v:ByteArray):Bel m (mat k n v):=by
 refine .agg _ fun i hi=>?_
 have:∀y∈[I k,Sx n,Sx v],Bel m y:=by
  intro y hy;simp only[List.mem_cons,List.not_mem_nil,or_false]at hy;rcases hy with rfl|rfl|rfl<;>exact .pl _
 exact this _ (List.getElem_mem hi)
theorem z5H (k n v:Int):Ans Tryz.prog 112 [.agg [I k,I n,I v]] σ (mat (inD k 1 4) (nameOf n) (z35 k v)) σ:=by
 have k0:∀(x y:Ob),(σ++[x,y])[σ.length]?=some x:=fun x y=>by rw[List.getElem?_append_right (by simp)];simp
 have k0':∀(x:Ob),(σ++[x])[σ.length]?=some x:=fun x=>by rw[List.getElem?_append_right (by simp)];simp
 have k1:∀(x y:Ob),(σ++[x,y])[σ.length+1]?=some y:=fun x y=>by rw[List.getElem?_append_right (by simp)];simp
 have s0:∀(x y z:Ob),(σ++[x,y]).set σ.length z=σ++[z,y]:=fun x y z=>by rw[List.set_append_right _ _ (by simp)];simp
 have s1:∀(x y z:Ob),(σ++[x,y]).set (σ.length+1) z=σ++[x,z]:=fun x y z=>by rw[List.set_append_right _ _ (by simp)];simp
 have hb:=z9s σ.length (inD k 1 4) (nameOf n) (z35 k v);refine Ans.of_run' t112 (fun u0 _=>?_)
 simp -implicitDefEqProofs only[c112,r112,go_sem,z01,List.append_assoc,List.length_append];refine CS.intro (fun s=>z0g s k 1 4 (by omega) (by omega) (by omega)) ?_
 simp -implicitDefEqProofs only[go_sem,z01,List.append_assoc,List.length_append];refine CS.intro (fun s=>z5c s n) ?_
 simp -implicitDefEqProofs only[go_sem,z01,List.append_assoc,List.length_append];refine CS.intro (fun s=>z9r s v) ?_
 simp -implicitDefEqProofs only[go_sem,z01,List.append_assoc,List.length_append,k0,k1,s0,s1];unfold z35 at hb⊢;by_cases h3:inD k 1 4<3
 · have y0:decide (inD k 1 4<3)=true:=by simpa using h3
   rw[if_pos h3]at hb⊢;simp -implicitDefEqProofs only[go_sem,y0];refine CO.intro (z8g _ v) ?_;by_cases h0:v<0
   · have q0:decide (v<0)=true:=by simpa using h0
     rw[if_pos h0]at hb⊢;simp -implicitDefEqProofs only[go_sem,q0,k0,k1,s0,s1];exact Fini.trim2 (σ':=σ) (ex:=[_,_]) (by simp -implicitDefEqProofs only[go_sem,resA,z03,rvA,oneOf,k0]) rfl (Nat.le_refl _) hb u0
   · have q0:decide (v<0)=false:=by simpa using h0
     rw[if_neg h0]at hb⊢;simp -implicitDefEqProofs only[go_sem,q0,k0,k1,s0,s1];exact Fini.trim2 (σ':=σ) (ex:=[_,_]) (by simp -implicitDefEqProofs only[go_sem,resA,z03,rvA,oneOf,k0]) rfl (Nat.le_refl _) hb u0
 · have y0:decide (inD k 1 4<3)=false:=by simpa using h3
   rw[if_neg h3]at hb⊢;simp -implicitDefEqProofs only[go_sem,y0,k0,k1,s0,s1];exact Fini.trim2 (σ':=σ) (ex:=[_,_]) (by simp -implicitDefEqProofs only[go_sem,resA,z03,rvA,oneOf,k0]) rfl (Nat.le_refl _) hb u0
end
end Go.Proofs.YteakobbdgehlgaaGreatDoor
namespace Go.Proofs.YteakobbdgehlgaaGreatDoor.Sha
open Go Go.Ab
abbrev I (n:Int):AV:=.pl (.int .i64 n)
abbrev UN (n:Nat):AV:=.pl (.int .u64 (n:Int))
def ror (a:BitVec 32) (n:Nat):BitVec 32:=a <<< (32-n) ||| a >>> n
theorem zhi:∀n:Fin 32,1≤n.val→and64 (IntKind.u64.wrap (-(n.val:Int))) 31=((32-n.val:Nat):Int):=by decide +kernel
theorem zhj:∀n:Fin 32,IntKind.u64.wrap (32-((32-n.val:Nat):Int))=((n.val:Nat):Int):=by decide +kernel
theorem zeT:∀n:Fin 32,IntKind.u64.wrap (32-((n.val:Nat):Int))=((32-n.val:Nat):Int):=by decide +kernel
section
variable (σ:St)
theorem z2U (a:BitVec 32) (n:Nat) (h0:1≤n) (h1:n<32):Ans Tryz.prog 93 [V32 a,I (-(n:Int))] σ (V32 (ror a n)) σ:=by
 have k1:=zhi ⟨n,h1⟩ h0;have k2:=zhj ⟨n,h1⟩;simp only at k1 k2;have p1:((0:Int)≤((32-n:Nat):Int))=True:=eq_true (Int.natCast_nonneg _);have p2:((0:Int)≤((n:Nat):Int))=True:=eq_true (Int.natCast_nonneg _);have s1:=V_shl a (32-n) (by omega)
 have s2:=V_shr a n (by omega)
 have s3:=V_or (a <<< (32-n)) (a >>> n);unfold ror;refine Ans.of_run t93 ?_;simp -implicitDefEqProofs only[c93,r93,go_sem,k1,k2,p1,p2,s1,s2,s3,Int.toNat_natCast];exact Fini.ret rfl
theorem turned_ans (a:BitVec 32) (n:Nat) (h0:1≤n) (h1:n<32):Ans Tryz.prog 100 [V32 a,UN n] σ (V32 (ror a n)) σ:=by
 have k2:=zeT ⟨n,h1⟩;simp only at k2;have p1:((0:Int)≤((32-n:Nat):Int))=True:=eq_true (Int.natCast_nonneg _);have p2:((0:Int)≤((n:Nat):Int))=True:=eq_true (Int.natCast_nonneg _);have s1:=V_shl a (32-n) (by omega)
 have s2:=V_shr a n (by omega)
 have s3:=V_or (a >>> n) (a <<< (32-n));unfold ror;rw[BitVec.or_comm];refine Ans.of_run t100 ?_;simp -implicitDefEqProofs only[c100,r100,go_sem,k2,p1,p2,s1,s2,s3,Int.toNat_natCast];exact Fini.ret rfl
end
end Go.Proofs.YteakobbdgehlgaaGreatDoor.Sha
