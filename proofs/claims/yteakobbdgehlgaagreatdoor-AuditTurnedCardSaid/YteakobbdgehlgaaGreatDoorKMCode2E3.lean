/- What the functions do, over abstract values: printed by a program, checked by the kernel. No condition. -/
import Derived.Test.YteakobbdgehlgaaGreatDoorProg
import Derived.Test.YteakobbdgehlgaaGreatDoorAbStepE3
import Derived.Test.YteakobbdgehlgaaGreatDoorKMCode1E3
set_option linter.unusedSimpArgs false
set_option linter.unusedVariables false
set_option linter.unusedSectionVars false
set_option maxRecDepth 100000
namespace Go.Proofs.YteakobbdgehlgaaGreatDoor
open Go Go.Ab
def c61:ACode :=
 (sq_ [pr_ 2 (.allocm [.pl (.int .i64 0),.pl (.int .u64 0),.nils,.pl (.int .i64 0)]),
 pr_ 3 mf_]
 (sq_ [mv_ 8 0,
 c1_ 9 59 8,
 mv_ 4 9]
 (sq_ [mv_ 10 4,
 cl_ 11 60 [(.tmp 10),(.const (.int .u64 2147483647))],
 pr_ 12 (.convi .i64 (.tmp 11)),
 mv_ 13 4,
 cl_ 14 60 [(.tmp 13),(.const (.int .u64 1099511627776))],
 mv_ 15 4,
 mv_ 16 0,
 pr_ 17 (.lenv (.tmp 16)),
 cl_ 18 62 [(.tmp 15),(.tmp 17)],
 pr_ 19 (.s2b (.tmp 18)),
 mv_ 20 4,
 c1_ 21 98 20,
 pr_ 22 (.convi .i64 (.tmp 21)),
 pr_ 23 (.build [.pl (.int .i64 0),.pl (.int .u64 0),.nils,.pl (.int .i64 0)] [(0,1,(.tmp 12)),(1,1,(.tmp 14)),(2,1,(.tmp 19)),(3,1,(.tmp 22))]),
 ⟨some 5,none,.fresh 4 5 (.tmp 23)⟩]
 (.seq (sq_ [mv_ 25 4,
 c1_ 26 63 25,
 mv_ 24 26,
 pr_ 27 (ex_ 0 24),
 pr_ 28 (ex_ 1 24),
 mv_ 6 27,
 mv_ 7 28]
 (sq_ [mv_ 29 7,
 pr_ 30 (no_ 29),
 mv_ 31 30,
 gp_ 32 31 false (mo_ 6),
 gp_ 33 31 false (mo_ 0),
 gp_ 34 31 false (.lenv (.tmp 33)),
 gp_ 35 31 false (bt_ .neq 32 34),
 pr_ 36 (po_ 31 35),
 mv_ 37 36,
 gp_ 38 37 false (lt_ 4 5),
 gc_ 39 37 false 45 [(.tmp 38)],
 gp_ 40 37 false (no_ 39),
 pr_ 41 (po_ 37 40)]
 (.cond (.tmp 41)
 (sq_ [pr_ 42 (.build [.pl (.int .i64 0),.pl (.int .u64 0),.nils,.pl (.int .i64 0)] []),
 st_ (so_ 4 2 42),
 pr_ 3 mf_]
 .ret)
 .skip)))
 (sq_ [pr_ 43 (lt_ 4 5),
 st_ (so_ 4 2 43),
 pr_ 3 mt_]
 .ret)))))
def o61:List Tmp:=[2]
def r61:List RV:=[.cell 2 4 true,.tmp 3]
theorem t61:Text Tryz.prog 61 o61 c61 r61 44:=.mk_ Tryz.f61 rfl
def c62:ACode :=
 (sq_ [pr_ 4 (.mov (.const (.string (ByteArray.mk #[]))))]
 (sq_ [mv_ 9 0,
 c1_ 10 96 9,
 mv_ 11 1,
 cl_ 12 99 [(.tmp 10),(.tmp 11)],
 mv_ 8 12,
 pr_ 13 (ex_ 0 8),
 pr_ 14 (ex_ 1 8),
 pr_ 15 (ex_ 2 8),
 mv_ 5 13,
 mv_ 6 14,
 mv_ 7 15]
 (.seq (sq_ [mv_ 16 0,
 mv_ 17 6,
 mv_ 18 7,
 cl_ 19 97 [(.tmp 16),(.tmp 17),(.tmp 18)],
 pr_ 20 (no_ 19)]
 (.cond (.tmp 20)
 (sq_ [pr_ 4 (.mov (.const (.string (ByteArray.mk #[]))))]
 .ret)
 .skip))
 (sq_ [mv_ 21 5,
 mv_ 4 21]
 .ret))))
def o62:List Tmp:=[]
def r62:List RV:=[.tmp 4]
theorem t62:Text Tryz.prog 62 o62 c62 r62 22:=.mk_ Tryz.f62 rfl
def c63:ACode :=
 (sq_ [pr_ 2 (mi_ .i64 0),
 pr_ 3 mf_]
 (.seq (sq_ [mv_ 4 0,
 pr_ 5 (nc_ 4),
 pr_ 6 (fa_ 2 5),
 pr_ 7 (lf_ 1 6)]
 (.cond (.tmp 7)
 (sq_ [pr_ 2 (mi_ .i64 0),
 pr_ 3 mf_]
 .ret)
 .skip))
 (sq_ [mv_ 8 0,
 pr_ 9 (nc_ 8),
 pr_ 10 (fa_ 1 9),
 pr_ 11 (lf_ 1 10),
 mv_ 2 11,
 pr_ 3 mt_]
 .ret)))
def o63:List Tmp:=[]
def r63:List RV:=[.tmp 2,.tmp 3]
theorem t63:Text Tryz.prog 63 o63 c63 r63 12:=.mk_ Tryz.f63 rfl
def c69:ACode :=
 (sq_ [pr_ 6 mf_]
 (sq_ [mv_ 11 0,
 mv_ 12 1,
 cl_ 13 35 [(.tmp 11),(.tmp 12)],
 mv_ 10 13,
 pr_ 14 (ex_ 0 10),
 pr_ 15 (ex_ 1 10),
 mv_ 7 14,
 mv_ 8 15]
 (.seq (sq_ [pr_ 9 (mi_ .i64 0)]
 (.block 0 (.loop [0,1,3,4,5,6,8,10,11,12,13,14,15,16,17,18,19,20,21,22,23,24,25,26,27,28,29] (.seq (sq_ [mv_ 16 9,
 mv_ 17 7,
 pr_ 18 (.lenv (.tmp 17)),
 pr_ 19 (bt_ .lss 16 18)]
 (.cond (.tmp 19)
 .skip
 (.exit 0)))
 (.seq (.block 1 (.seq (.draw [⟨mv_ 22 7,[],false,0,0⟩,
 ⟨mv_ 23 9,[],false,0,0⟩,
 ⟨pr_ 24 (.iadrs 1 (.tmp 22) (.tmp 23)),[0,1],false,0,0⟩,
 ⟨pr_ 25 (lf_ 1 24),[0,1,2],false,0,0⟩,
 ⟨pr_ 26 (.b2s (.tmp 25)),[0,1,2,3],false,0,0⟩,
 ⟨mv_ 27 2,[],false,0,0⟩,
 ⟨pr_ 28 (.b2s (.tmp 27)),[5],false,0,0⟩,
 ⟨pr_ 29 (bt_ .eql 26 28),(List.range 7),false,0,0⟩])
 (.cond (.tmp 29)
 (sq_ [pr_ 6 mt_]
 .ret)
 .skip)))
 (.ops [mv_ 20 9,
 pr_ 21 (bk_ .add 20 .i64 1),
 mv_ 9 21]))))))
 (sq_ [pr_ 6 mf_]
 .ret))))
def o69:List Tmp:=[]
def r69:List RV:=[.tmp 6]
theorem t69:Text Tryz.prog 69 o69 c69 r69 30:=.mk_ Tryz.f69 rfl
def c70:ACode :=
 (sq_ [pr_ 4 mf_]
 (sq_ [mv_ 5 0,
 pr_ 6 (.b2s (.tmp 5)),
 mv_ 7 1,
 pr_ 8 (.b2s (.tmp 7)),
 pr_ 9 (bt_ .eql 6 8),
 mv_ 4 9]
 .ret))
def o70:List Tmp:=[]
def r70:List RV:=[.tmp 4]
theorem t70:Text Tryz.prog 70 o70 c70 r70 10:=.mk_ Tryz.f70 rfl
def c71:ACode :=
 (sq_ [mv_ 4 0,
 pr_ 5 (.lenv (.tmp 4)),
 pr_ 6 (bk_ .sub 5 .i64 1),
 pr_ 2 (mi_ .i64 0),
 mv_ 3 6]
 (.block 0 (.loop [1,4,5,6,7,8,9,10,11,12,13,14,15,16,17,18,19,20,21,22,23,24,25,26,27] (.seq (sq_ [mv_ 7 2,
 mv_ 8 3,
 pr_ 9 (bt_ .lss 7 8)]
 (.cond (.tmp 9)
 .skip
 (.exit 0)))
 (.seq (.block 1 (.draw [⟨mv_ 14 0,[],false,0,0⟩,
 ⟨mv_ 15 2,[],false,0,0⟩,
 ⟨mv_ 16 0,[],false,0,1⟩,
 ⟨mv_ 17 3,[],false,0,1⟩,
 ⟨mv_ 18 0,[],false,0,0⟩,
 ⟨mv_ 19 3,[],false,0,0⟩,
 ⟨pr_ 20 (.iadrs 1 (.tmp 18) (.tmp 19)),[4,5],false,0,0⟩,
 ⟨pr_ 21 (lf_ 1 20),[4,5,6],false,0,0⟩,
 ⟨mv_ 22 0,[],false,0,0⟩,
 ⟨mv_ 23 2,[],false,0,0⟩,
 ⟨pr_ 24 (.iadrs 1 (.tmp 22) (.tmp 23)),[8,9],false,0,0⟩,
 ⟨pr_ 25 (lf_ 1 24),[8,9,10],false,0,0⟩,
 ⟨pr_ 26 (.iadrs 1 (.tmp 14) (.tmp 15)),[0,1,4,5,6,7,8,9,10,11],false,0,0⟩,
 ⟨st_ (so_ 1 26 21),[0,1,4,5,6,7,8,9,10,11,12],true,0,0⟩,
 ⟨pr_ 27 (.iadrs 1 (.tmp 16) (.tmp 17)),(List.range 14),false,1,1⟩,
 ⟨st_ (so_ 1 27 25),(List.range 15),true,0,0⟩]))
 (.ops [mv_ 10 2,
 pr_ 11 (bk_ .add 10 .i64 1),
 mv_ 12 3,
 pr_ 13 (bk_ .sub 12 .i64 1),
 mv_ 2 11,
 mv_ 3 13]))))))
def o71:List Tmp:=[]
def r71:List RV:=[]
theorem t71:Text Tryz.prog 71 o71 c71 r71 28:=.mk_ Tryz.f71 rfl
def c75:ACode :=
 (sq_ [pr_ 2 (.allocm z19_),
 pr_ 3 mf_]
 (sq_ [mv_ 5 0,
 c1_ 6 59 5,
 mv_ 4 6]
 (sq_ [mv_ 7 4,
 c1_ 8 102 7,
 mv_ 9 4,
 mv_ 10 0,
 cl_ 11 101 [(.tmp 8),(.tmp 9),(.tmp 10)],
 pr_ 12 (ex_ 0 11),
 pr_ 13 (ex_ 1 11),
 st_ (so_ 19 2 12),
 mv_ 3 13]
 .ret)))
def o75:List Tmp:=[2]
def r75:List RV:=[.cell 2 19 true,.tmp 3]
theorem t75:Text Tryz.prog 75 o75 c75 r75 14:=.mk_ Tryz.f75 rfl
def c76:ACode :=
 (sq_ [pr_ 1 (.boxr (.tmp 0)),
 pr_ 2 mf_]
 (sq_ [pr_ 4 (fa_ 1 1),
 pr_ 5 (lf_ 1 4),
 c1_ 6 77 5,
 mv_ 3 6]
 (.seq (sq_ [mv_ 7 3,
 pr_ 8 (.bin false .eql (.tmp 7) (.const (.string (ByteArray.mk #[]))))]
 (.cond (.tmp 8)
 (sq_ [pr_ 2 mf_]
 .ret)
 .skip))
 (.seq (sq_ [mv_ 9 3,
 cl_ 10 103 [(.tmp 9),(.const (.int .u8 73))],
 pr_ 11 (no_ 10),
 mv_ 12 11,
 gp_ 13 12 true (fa_ 2 1),
 gp_ 14 12 true (lf_ 1 13),
 gp_ 15 12 true (bk_ .neq 14 .i64 0),
 pr_ 16 (pa_ 12 15),
 mv_ 17 16,
 gp_ 18 17 false (fa_ 2 1),
 gp_ 19 17 false (lf_ 1 18),
 gp_ 20 17 false (bk_ .lss 19 .i64 0),
 pr_ 21 (po_ 17 20),
 mv_ 22 21,
 gp_ 23 22 false (fa_ 2 1),
 gp_ 24 22 false (lf_ 1 23),
 gp_ 25 22 false (bk_ .gtr 24 .i64 2147483647),
 pr_ 26 (po_ 22 25)]
 (.cond (.tmp 26)
 (sq_ [pr_ 2 mf_]
 .ret)
 .skip))
 (.seq (sq_ [mv_ 27 3,
 cl_ 28 103 [(.tmp 27),(.const (.int .u8 84))],
 mv_ 29 28,
 gp_ 30 29 true (fa_ 3 1),
 gp_ 31 29 true (lf_ 1 30),
 gc_ 32 29 true 104 [(.tmp 31)],
 gp_ 33 29 true (no_ 32),
 pr_ 34 (pa_ 29 33),
 mv_ 35 34,
 gp_ 36 35 false (mo_ 3),
 gc_ 37 35 false 103 [(.tmp 36),(.const (.int .u8 84))],
 gp_ 38 35 false (no_ 37),
 gp_ 39 35 false (mo_ 38),
 gp_ 40 39 true (fa_ 3 1),
 gp_ 41 39 true (lf_ 1 40),
 gp_ 42 39 true (.bin false .neq (.tmp 41) (.const (.string (ByteArray.mk #[])))),
 gp_ 43 35 false (pa_ 39 42),
 pr_ 44 (po_ 35 43)]
 (.cond (.tmp 44)
 (sq_ [pr_ 2 mf_]
 .ret)
 .skip))
 (.seq (sq_ [mv_ 45 3,
 cl_ 46 103 [(.tmp 45),(.const (.int .u8 83))],
 pr_ 47 (no_ 46),
 mv_ 48 47,
 gp_ 49 48 true (fa_ 4 1),
 gp_ 50 48 true (lf_ 1 49),
 gp_ 51 48 true (bk_ .neq 50 .u64 0),
 gp_ 52 48 true (mo_ 51),
 gp_ 53 52 false (fa_ 5 1),
 gp_ 54 52 false (lf_ 1 53),
 gp_ 55 52 false (bk_ .neq 54 .u64 0),
 gp_ 56 48 true (po_ 52 55),
 pr_ 57 (pa_ 48 56),
 mv_ 58 57,
 gp_ 59 58 false (fa_ 4 1),
 gp_ 60 58 false (lf_ 1 59),
 gp_ 61 58 false (bk_ .gtr 60 .u64 1099511627776),
 pr_ 62 (po_ 58 61),
 mv_ 63 62,
 gp_ 64 63 false (fa_ 5 1),
 gp_ 65 63 false (lf_ 1 64),
 gp_ 66 63 false (bk_ .gtr 65 .u64 1099511627776),
 pr_ 67 (po_ 63 66)]
 (.cond (.tmp 67)
 (sq_ [pr_ 2 mf_]
 .ret)
 .skip))
 (.seq (sq_ [mv_ 68 3,
 cl_ 69 103 [(.tmp 68),(.const (.int .u8 90))],
 pr_ 70 (no_ 69),
 mv_ 71 70,
 gp_ 72 71 true (fa_ 6 1),
 gp_ 73 71 true (lf_ 1 72),
 gp_ 74 71 true (bk_ .neq 73 .i64 0),
 pr_ 75 (pa_ 71 74),
 mv_ 76 75,
 gp_ 77 76 false (fa_ 6 1),
 gp_ 78 76 false (lf_ 1 77),
 gp_ 79 76 false (bk_ .lss 78 .i64 0),
 pr_ 80 (po_ 76 79),
 mv_ 81 80,
 gp_ 82 81 false (fa_ 6 1),
 gp_ 83 81 false (lf_ 1 82),
 gp_ 84 81 false (bk_ .gtr 83 .i64 3),
 pr_ 85 (po_ 81 84)]
 (.cond (.tmp 85)
 (sq_ [pr_ 2 mf_]
 .ret)
 .skip))
 (.seq (sq_ [mv_ 86 3,
 cl_ 87 103 [(.tmp 86),(.const (.int .u8 77))],
 pr_ 88 (no_ 87),
 mv_ 89 88,
 gp_ 90 89 true (fa_ 7 1),
 gp_ 91 89 true (lf_ 1 90),
 gp_ 92 89 true (.lenv (.tmp 91)),
 gp_ 93 89 true (bk_ .gtr 92 .i64 0),
 pr_ 94 (pa_ 89 93),
 mv_ 95 94,
 gp_ 96 95 false (mo_ 3),
 gc_ 97 95 false 103 [(.tmp 96),(.const (.int .u8 83))],
 gp_ 98 95 false (mo_ 97),
 gp_ 99 98 true (fa_ 7 1),
 gp_ 100 98 true (lf_ 1 99),
 gp_ 101 98 true (.lenv (.tmp 100)),
 gp_ 102 98 true (bk_ .eql 101 .i64 0),
 gp_ 103 95 false (pa_ 98 102),
 pr_ 104 (po_ 95 103),
 mv_ 105 104,
 gp_ 106 105 false (fa_ 7 1),
 gp_ 107 105 false (lf_ 1 106),
 gc_ 108 105 false 105 [(.tmp 107)],
 gp_ 109 105 false (no_ 108),
 pr_ 110 (po_ 105 109)]
 (.cond (.tmp 110)
 (sq_ [pr_ 2 mf_]
 .ret)
 .skip))
 (.seq (sq_ [mv_ 111 3,
 cl_ 112 103 [(.tmp 111),(.const (.int .u8 66))],
 pr_ 113 (no_ 112),
 mv_ 114 113,
 gp_ 115 114 true (fa_ 8 1),
 gp_ 116 114 true (lt_ 3 115),
 gc_ 117 114 true 106 [(.tmp 116)],
 gp_ 118 114 true (no_ 117),
 pr_ 119 (pa_ 114 118),
 mv_ 120 119,
 gp_ 121 120 false (fa_ 8 1),
 gp_ 122 120 false (lt_ 3 121),
 gc_ 123 120 false 107 [(.tmp 122)],
 gp_ 124 120 false (no_ 123),
 pr_ 125 (po_ 120 124)]
 (.cond (.tmp 125)
 (sq_ [pr_ 2 mf_]
 .ret)
 .skip))
 (.seq (sq_ [mv_ 126 3,
 cl_ 127 103 [(.tmp 126),(.const (.int .u8 82))],
 mv_ 128 127,
 gp_ 129 128 true (fa_ 11 1),
 gp_ 130 128 true (lt_ 6 129),
 gc_ 131 128 true 108 [(.tmp 130)],
 gp_ 132 128 true (no_ 131),
 pr_ 133 (pa_ 128 132),
 mv_ 134 133,
 gp_ 135 134 false (mo_ 3),
 gc_ 136 134 false 103 [(.tmp 135),(.const (.int .u8 82))],
 gp_ 137 134 false (no_ 136),
 gp_ 138 134 false (mo_ 137),
 gp_ 139 138 true (fa_ 11 1),
 gp_ 140 138 true (lt_ 6 139),
 gc_ 141 138 true 109 [(.tmp 140)],
 gp_ 142 138 true (no_ 141),
 gp_ 143 134 false (pa_ 138 142),
 pr_ 144 (po_ 134 143)]
 (.cond (.tmp 144)
 (sq_ [pr_ 2 mf_]
 .ret)
 .skip))
 (.seq (sq_ [mv_ 145 3,
 cl_ 146 103 [(.tmp 145),(.const (.int .u8 76))]]
 (.cond (.tmp 146)
 (sq_ [pr_ 147 (fa_ 17 1),
 pr_ 148 (lf_ 1 147),
 c1_ 149 110 148,
 mv_ 2 149]
 .ret)
 .skip))
 (sq_ [pr_ 150 (fa_ 17 1),
 pr_ 151 (lf_ 1 150),
 pr_ 152 (.lenv (.tmp 151)),
 pr_ 153 (bk_ .eql 152 .i64 0),
 mv_ 154 153,
 gp_ 155 154 true (fa_ 18 1),
 gp_ 156 154 true (lf_ 1 155),
 gc_ 157 154 true 83 [(.tmp 156)],
 gp_ 158 154 true (bk_ .eql 157 .u64 0),
 pr_ 159 (pa_ 154 158),
 mv_ 2 159]
 .ret))))))))))))
def o76:List Tmp:=[]
def r76:List RV:=[.tmp 2]
theorem t76:Text Tryz.prog 76 o76 c76 r76 160:=.mk_ Tryz.f76 rfl
def c77:ACode :=
 (sq_ [pr_ 2 (.mov (.const (.string (ByteArray.mk #[]))))]
 (.seq (sq_ [mv_ 3 0]
 (.block 0 (.seq (sq_ [pr_ 5 (bk_ .eql 3 .i64 1),
 mv_ 4 5]
 (.cond (.tmp 4)
 .skip
 (sq_ [pr_ 6 (bk_ .eql 3 .i64 14),
 mv_ 4 6]
 (.cond (.tmp 4)
 .skip
 (sq_ [pr_ 7 (bk_ .eql 3 .i64 16),
 mv_ 4 7]
 (.cond (.tmp 4)
 .skip
 (.ops [pr_ 8 (bk_ .eql 3 .i64 17),
 mv_ 4 8])))))))
 (.cond (.tmp 4)
 (sq_ [pr_ 2 (.mov (.const (.string (ByteArray.mk #[45]))))]
 .ret)
 (.seq (sq_ [pr_ 10 (bk_ .eql 3 .i64 2),
 mv_ 9 10]
 (.cond (.tmp 9)
 .skip
 (sq_ [pr_ 11 (bk_ .eql 3 .i64 7),
 mv_ 9 11]
 (.cond (.tmp 9)
 .skip
 (sq_ [pr_ 12 (bk_ .eql 3 .i64 10),
 mv_ 9 12]
 (.cond (.tmp 9)
 .skip
 (sq_ [pr_ 13 (bk_ .eql 3 .i64 12),
 mv_ 9 13]
 (.cond (.tmp 9)
 .skip
 (.ops [pr_ 14 (bk_ .eql 3 .i64 15),
 mv_ 9 14])))))))))
 (.cond (.tmp 9)
 (sq_ [pr_ 2 (.mov (.const (.string (ByteArray.mk #[73]))))]
 .ret)
 (.seq (sq_ [pr_ 16 (bk_ .eql 3 .i64 3),
 mv_ 15 16]
 (.cond (.tmp 15)
 .skip
 (.ops [pr_ 17 (bk_ .eql 3 .i64 4),
 mv_ 15 17])))
 (.cond (.tmp 15)
 (sq_ [pr_ 2 (.mov (.const (.string (ByteArray.mk #[73,84]))))]
 .ret)
 (sq_ [pr_ 19 (bk_ .eql 3 .i64 5),
 mv_ 18 19]
 (.cond (.tmp 18)
 (sq_ [pr_ 2 (.mov (.const (.string (ByteArray.mk #[83,69,77,66]))))]
 .ret)
 (sq_ [pr_ 21 (bk_ .eql 3 .i64 6),
 mv_ 20 21]
 (.cond (.tmp 20)
 (sq_ [pr_ 2 (.mov (.const (.string (ByteArray.mk #[73,83,69,77,66]))))]
 .ret)
 (sq_ [pr_ 23 (bk_ .eql 3 .i64 8),
 mv_ 22 23]
 (.cond (.tmp 22)
 (sq_ [pr_ 2 (.mov (.const (.string (ByteArray.mk #[90]))))]
 .ret)
 (sq_ [pr_ 25 (bk_ .eql 3 .i64 9),
 mv_ 24 25]
 (.cond (.tmp 24)
 (sq_ [pr_ 2 (.mov (.const (.string (ByteArray.mk #[82]))))]
 .ret)
 (sq_ [pr_ 27 (bk_ .eql 3 .i64 11),
 mv_ 26 27]
 (.cond (.tmp 26)
 (sq_ [pr_ 2 (.mov (.const (.string (ByteArray.mk #[76,86]))))]
 .ret)
 (sq_ [pr_ 29 (bk_ .eql 3 .i64 13),
 mv_ 28 29]
 (.cond (.tmp 28)
 (sq_ [pr_ 2 (.mov (.const (.string (ByteArray.mk #[77]))))]
 .ret)
 .skip))))))))))))))))))))
 (sq_ [pr_ 2 (.mov (.const (.string (ByteArray.mk #[]))))]
 .ret)))
def o77:List Tmp:=[]
def r77:List RV:=[.tmp 2]
theorem t77:Text Tryz.prog 77 o77 c77 r77 30:=.mk_ Tryz.f77 rfl
def c78:ACode :=
 (sq_ [pr_ 2 (.mov (.const (.slice none 0 0)))]
 (.seq (sq_ [mv_ 5 0,
 c1_ 6 105 5,
 pr_ 7 (no_ 6)]
 (.cond (.tmp 7)
 (sq_ [pr_ 2 (.mov (.const (.slice none 0 0)))]
 .ret)
 .skip))
 (sq_ [mv_ 8 0,
 pr_ 9 (.lenv (.tmp 8)),
 pr_ 10 (.convi .u64 (.tmp 9)),
 c1_ 11 52 10,
 mv_ 3 11]
 (.seq (sq_ [pr_ 4 (mi_ .i64 0)]
 (.block 0 (.loop [1,2,5,6,7,8,9,10,11,12,13,14,15,16,17,18,19,20,21,22,23,24,25,26,27,28,29,30,31,32,33,34,35,36,37,38,39,40,41,42] (.seq (sq_ [mv_ 12 4,
 mv_ 13 0,
 pr_ 14 (.lenv (.tmp 13)),
 pr_ 15 (bt_ .lss 12 14)]
 (.cond (.tmp 15)
 .skip
 (.exit 0)))
 (.seq (.block 1 (sq_ [mv_ 18 3,
 mv_ 19 0,
 mv_ 20 4,
 pr_ 21 (.iadrs 3 (.tmp 19) (.tmp 20)),
 pr_ 22 (fa_ 0 21),
 pr_ 23 (lf_ 1 22),
 pr_ 24 (.convi .u8 (.tmp 23)),
 pr_ 25 (.bsl false 1 false 1 [.pl (.int .u8 0)] [(0,1,(.tmp 24))]),
 pr_ 26 (.app 1 (.tmp 18) (.tmp 25)),
 mv_ 3 26]
 (.draw [⟨mv_ 27 3,[],false,0,1⟩,
 ⟨mv_ 28 0,[],false,0,0⟩,
 ⟨mv_ 29 4,[],false,0,0⟩,
 ⟨pr_ 30 (.iadrs 3 (.tmp 28) (.tmp 29)),[1,2],false,0,0⟩,
 ⟨pr_ 31 (fa_ 1 30),[1,2,3],false,0,0⟩,
 ⟨pr_ 32 (lf_ 1 31),[1,2,3,4],false,0,0⟩,
 ⟨c1_ 33 53 32,[1,2,3,4,5],true,0,0⟩,
 ⟨pr_ 34 (.app 1 (.tmp 27) (.tmp 33)),(List.range 7),true,0,0⟩,
 ⟨mv_ 35 0,[],false,0,2⟩,
 ⟨mv_ 36 4,[],false,0,2⟩,
 ⟨pr_ 37 (.iadrs 3 (.tmp 35) (.tmp 36)),[8,9],false,0,2⟩,
 ⟨pr_ 38 (fa_ 2 37),[8,9,10],false,0,2⟩,
 ⟨pr_ 39 (lf_ 1 38),[8,9,10,11],false,0,2⟩,
 ⟨c1_ 40 53 39,(List.range 13),true,0,0⟩,
 ⟨pr_ 41 (.app 1 (.tmp 34) (.tmp 40)),(List.range 14),true,0,0⟩,
 ⟨mv_ 3 41,(List.range 15),false,4,4⟩])))
 (.ops [mv_ 16 4,
 pr_ 17 (bk_ .add 16 .i64 1),
 mv_ 4 17]))))))
 (sq_ [mv_ 42 3,
 mv_ 2 42]
 .ret)))))
def o78:List Tmp:=[]
def r78:List RV:=[.tmp 2]
theorem t78:Text Tryz.prog 78 o78 c78 r78 43:=.mk_ Tryz.f78 rfl
def c79:ACode :=
 (sq_ [pr_ 1 (.boxr (.tmp 0)),
 pr_ 2 (.mov (.const (.slice none 0 0)))]
 (.seq (sq_ [pr_ 3 (fa_ 0 1),
 pr_ 4 (lf_ 1 3)]
 (.cond (.tmp 4)
 (sq_ [pr_ 5 (.bsl false 1 false 1 [.pl (.int .u8 0)] [(0,1,(.const (.int .u8 1)))]),
 mv_ 2 5]
 (.ghost (.shut 2) .ret))
 .skip))
 (.seq (.draw [⟨pr_ 6 (.bsl true 1 false 1 [.pl (.int .u8 0)] [(0,1,(.const (.int .u8 0)))]),[],true,0,0⟩,
 ⟨pr_ 7 (fa_ 1 1),[],false,0,1⟩,
 ⟨pr_ 8 (lf_ 1 7),[1],false,0,1⟩,
 ⟨c1_ 9 83 8,[1,2],false,0,1⟩,
 ⟨c1_ 10 82 9,[1,2,3],false,0,1⟩,
 ⟨pr_ 11 (.app 1 (.tmp 6) (.tmp 10)),[0,1,2,3,4],true,0,0⟩,
 ⟨pr_ 12 (fa_ 2 1),[],false,0,2⟩,
 ⟨pr_ 13 (lf_ 1 12),[6],false,0,2⟩,
 ⟨c1_ 14 83 13,(List.range 8),true,0,0⟩,
 ⟨c1_ 15 82 14,(List.range 9),true,0,0⟩,
 ⟨pr_ 16 (.app 1 (.tmp 11) (.tmp 15)),(List.range 10),true,0,0⟩,
 ⟨mv_ 2 16,(List.range 11),false,5,5⟩])
 (.ghost (.shut 2) .ret))))
def o79:List Tmp:=[6]
def r79:List RV:=[.tmp 2]
theorem t79:Text Tryz.prog 79 o79 c79 r79 17:=.mk_ Tryz.f79 rfl
def c80:ACode :=
 (sq_ [pr_ 1 (.boxr (.tmp 0)),
 pr_ 2 (.mov (.const (.slice none 0 0)))]
 (.seq (sq_ [pr_ 5 (lt_ 6 1),
 c1_ 6 108 5,
 pr_ 7 (no_ 6)]
 (.cond (.tmp 7)
 (sq_ [pr_ 2 (.mov (.const (.slice none 0 0)))]
 (.ghost (.shut 2) .ret))
 .skip))
 (.seq (.draw [⟨pr_ 8 (fa_ 0 1),[],false,0,0⟩,
 ⟨pr_ 9 (lf_ 1 8),[0],false,0,0⟩,
 ⟨c1_ 10 78 9,[0,1],true,0,0⟩,
 ⟨pr_ 11 (fa_ 1 1),[],false,0,1⟩,
 ⟨pr_ 12 (lf_ 1 11),[3],false,0,1⟩,
 ⟨c1_ 13 78 12,[0,1,2,3,4],true,0,0⟩,
 ⟨pr_ 14 (.app 1 (.tmp 10) (.tmp 13)),(List.range 6),true,0,0⟩,
 ⟨pr_ 15 (fa_ 2 1),[],false,0,3⟩,
 ⟨pr_ 16 (lt_ 3 15),[7],false,0,3⟩,
 ⟨c1_ 17 79 16,(List.range 9),true,0,0⟩,
 ⟨pr_ 18 (.app 1 (.tmp 14) (.tmp 17)),(List.range 10),true,0,0⟩,
 ⟨mv_ 3 18,(List.range 11),false,5,5⟩])
 (sq_ [mv_ 19 3,
 pr_ 20 (fa_ 5 1),
 pr_ 21 (lf_ 1 20),
 pr_ 22 (.lenv (.tmp 21)),
 pr_ 23 (.convi .u64 (.tmp 22)),
 c1_ 24 52 23,
 pr_ 25 (.app 1 (.tmp 19) (.tmp 24)),
 mv_ 3 25]
 (.seq (sq_ [pr_ 4 (mi_ .i64 0)]
 (.block 0 (.loop [0,2,5,6,7,8,9,10,11,12,13,14,15,16,17,18,19,20,21,22,23,24,25,26,27,28,29,30,31,32,33,34,35,36,37,38,39,40,41] (.seq (sq_ [mv_ 26 4,
 pr_ 27 (fa_ 5 1),
 pr_ 28 (lf_ 1 27),
 pr_ 29 (.lenv (.tmp 28)),
 pr_ 30 (bt_ .lss 26 29)]
 (.cond (.tmp 30)
 .skip
 (.exit 0)))
 (.seq (.block 1 (.ops [mv_ 33 3,
 pr_ 34 (fa_ 5 1),
 pr_ 35 (lf_ 1 34),
 mv_ 36 4,
 pr_ 37 (.iadrs 1 (.tmp 35) (.tmp 36)),
 pr_ 38 (lf_ 1 37),
 c1_ 39 53 38,
 pr_ 40 (.app 1 (.tmp 33) (.tmp 39)),
 mv_ 3 40]))
 (.ops [mv_ 31 4,
 pr_ 32 (bk_ .add 31 .i64 1),
 mv_ 4 32]))))))
 (sq_ [mv_ 41 3,
 mv_ 2 41]
 (.ghost (.shut 2) .ret)))))))
def o80:List Tmp:=[]
def r80:List RV:=[.tmp 2]
theorem t80:Text Tryz.prog 80 o80 c80 r80 42:=.mk_ Tryz.f80 rfl
def c81:ACode :=
 (sq_ [pr_ 2 (.mov (.const (.slice none 0 0)))]
 (.seq (sq_ [mv_ 5 0,
 c1_ 6 110 5,
 pr_ 7 (no_ 6)]
 (.cond (.tmp 7)
 (sq_ [pr_ 2 (.mov (.const (.slice none 0 0)))]
 (.ghost (.shut 2) .ret))
 .skip))
 (sq_ [mv_ 8 0,
 pr_ 9 (.lenv (.tmp 8)),
 pr_ 10 (.convi .u64 (.tmp 9)),
 c1_ 11 52 10,
 mv_ 3 11]
 (.seq (sq_ [pr_ 4 (mi_ .i64 0)]
 (.block 0 (.loop [1,2,5,6,7,8,9,10,11,12,13,14,15,16,17,18,19,20,21,22,23,24,25,26,27,28,29,30,31,32,33] (.seq (sq_ [mv_ 12 4,
 mv_ 13 0,
 pr_ 14 (.lenv (.tmp 13)),
 pr_ 15 (bt_ .lss 12 14)]
 (.cond (.tmp 15)
 .skip
 (.exit 0)))
 (.seq (.block 1 (.draw [⟨mv_ 18 3,[],false,0,1⟩,
 ⟨mv_ 19 0,[],false,0,0⟩,
 ⟨mv_ 20 4,[],false,0,0⟩,
 ⟨pr_ 21 (.iadrs 2 (.tmp 19) (.tmp 20)),[1,2],false,0,0⟩,
 ⟨pr_ 22 (fa_ 0 21),[1,2,3],false,0,0⟩,
 ⟨pr_ 23 (lf_ 1 22),[1,2,3,4],false,0,0⟩,
 ⟨c1_ 24 53 23,[1,2,3,4,5],true,0,0⟩,
 ⟨pr_ 25 (.app 1 (.tmp 18) (.tmp 24)),(List.range 7),true,0,0⟩,
 ⟨mv_ 26 0,[],false,0,2⟩,
 ⟨mv_ 27 4,[],false,0,2⟩,
 ⟨pr_ 28 (.iadrs 2 (.tmp 26) (.tmp 27)),[8,9],false,0,2⟩,
 ⟨pr_ 29 (fa_ 1 28),[8,9,10],false,0,2⟩,
 ⟨pr_ 30 (lf_ 1 29),[8,9,10,11],false,0,2⟩,
 ⟨c1_ 31 53 30,(List.range 13),true,0,0⟩,
 ⟨pr_ 32 (.app 1 (.tmp 25) (.tmp 31)),(List.range 14),true,0,0⟩,
 ⟨mv_ 3 32,(List.range 15),false,4,4⟩]))
 (.ops [mv_ 16 4,
 pr_ 17 (bk_ .add 16 .i64 1),
 mv_ 4 17]))))))
 (sq_ [mv_ 33 3,
 mv_ 2 33]
 (.ghost (.shut 2) .ret))))))
def o81:List Tmp:=[]
def r81:List RV:=[.tmp 2]
theorem t81:Text Tryz.prog 81 o81 c81 r81 34:=.mk_ Tryz.f81 rfl
def c82:ACode :=
 (sq_ [pr_ 2 (.mov (.const (.slice none 0 0)))]
 (sq_ [pr_ 5 (.mks 1 false [.pl (.int .u8 0)] (.const (.int .i64 8)) (.const (.int .i64 8))),
 mv_ 3 5]
 (.seq (sq_ [pr_ 4 (mi_ .i64 0)]
 (.block 0 (.loop [1,2,5,6,7,8,9,10,11,12,13,14,15,16,17,18,19,20] (.seq (sq_ [mv_ 6 4,
 pr_ 7 (bk_ .lss 6 .i64 8)]
 (.cond (.tmp 7)
 .skip
 (.exit 0)))
 (.seq (.block 1 (.ops [mv_ 10 3,
 mv_ 11 4,
 mv_ 12 0,
 mv_ 13 4,
 pr_ 14 (.bin false .mul (.const (.int .i64 8)) (.tmp 13)),
 pr_ 15 (.bin false .sub (.const (.int .i64 56)) (.tmp 14)),
 pr_ 16 (.convi .u64 (.tmp 15)),
 pr_ 17 (bt_ .shr 12 16),
 pr_ 18 (.convi .u8 (.tmp 17)),
 pr_ 19 (.iadrs 1 (.tmp 10) (.tmp 11)),
 st_ (so_ 1 19 18)]))
 (.ops [mv_ 8 4,
 pr_ 9 (bk_ .add 8 .i64 1),
 mv_ 4 9]))))))
 (sq_ [mv_ 20 3,
 mv_ 2 20]
 (.ghost (.shut 2) .ret)))))
def o82:List Tmp:=[]
def r82:List RV:=[.tmp 2]
theorem t82:Text Tryz.prog 82 o82 c82 r82 21:=.mk_ Tryz.f82 rfl
def c83:ACode :=
 (sq_ [pr_ 2 (mi_ .u64 0)]
 (.seq (sq_ [mv_ 3 0,
 mv_ 4 0,
 pr_ 5 (bt_ .neq 3 4)]
 (.cond (.tmp 5)
 (sq_ [pr_ 2 (mi_ .u64 9221120237041090561)]
 .ret)
 .skip))
 (sq_ [mv_ 6 0,
 c1_ 7 111 6,
 mv_ 2 7]
 .ret)))
def o83:List Tmp:=[]
def r83:List RV:=[.tmp 2]
theorem t83:Text Tryz.prog 83 o83 c83 r83 8:=.mk_ Tryz.f83 rfl
def c84:ACode :=
 (sq_ [pr_ 2 (.mov (.const (.string (ByteArray.mk #[]))))]
 (sq_ [pr_ 3 (.build [.pl (.string .empty),.pl (.string .empty),.pl (.string .empty),.pl (.string .empty),.pl (.string .empty),.pl (.string .empty),.pl (.string .empty),.pl (.string .empty)] [(0,1,(.const (.string (ByteArray.mk #[114,111,111,116,48])))),(1,1,(.const (.string (ByteArray.mk #[116,111,107,49])))),(2,1,(.const (.string (ByteArray.mk #[116,111,107,50])))),(3,1,(.const (.string (ByteArray.mk #[116,111,107,51])))),(4,1,(.const (.string (ByteArray.mk #[0,1,2,3])))),(5,1,(.const (.string (ByteArray.mk #[48,49,50,51,52,53,54,55,56,57,97,98,99,100,101,102])))),(6,1,(.const (.string (ByteArray.mk #[116,111,107,54])))),(7,1,(.const (.string (ByteArray.mk #[116,111,107]))))]),
 mv_ 4 0,
 cl_ 5 85 [(.tmp 4),(.const (.int .i64 0)),(.const (.int .i64 7))],
 pr_ 6 (.idxa 1 8 false (.tmp 3) (.tmp 5)),
 mv_ 2 6]
 .ret))
def o84:List Tmp:=[]
def r84:List RV:=[.tmp 2]
theorem t84:Text Tryz.prog 84 o84 c84 r84 7:=.mk_ Tryz.f84 rfl
def c85:ACode :=
 (sq_ [pr_ 6 (mi_ .i64 0)]
 (.seq (sq_ [mv_ 7 0,
 mv_ 8 1,
 pr_ 9 (bt_ .geq 7 8),
 mv_ 10 9,
 gp_ 11 10 true (mo_ 0),
 gp_ 12 10 true (mo_ 2),
 gp_ 13 10 true (bt_ .leq 11 12),
 pr_ 14 (pa_ 10 13)]
 (.cond (.tmp 14)
 (sq_ [mv_ 15 0,
 mv_ 6 15]
 .ret)
 .skip))
 (sq_ [mv_ 16 0,
 mv_ 17 1,
 mv_ 18 2,
 cl_ 19 86 [(.tmp 16),(.tmp 17),(.tmp 18)],
 mv_ 6 19]
 .ret)))
def o85:List Tmp:=[]
def r85:List RV:=[.tmp 6]
theorem t85:Text Tryz.prog 85 o85 c85 r85 20:=.mk_ Tryz.f85 rfl
def c86:ACode :=
 (sq_ [pr_ 6 (mi_ .i64 0)]
 (sq_ [mv_ 7 0,
 mv_ 8 2,
 mv_ 9 1,
 pr_ 10 (bt_ .sub 8 9),
 pr_ 11 (bk_ .add 10 .i64 1),
 pr_ 12 (bt_ .rem 7 11),
 mv_ 0 12]
 (.seq (sq_ [mv_ 13 0,
 pr_ 14 (bk_ .lss 13 .i64 0)]
 (.cond (.tmp 14)
 (.ops [mv_ 15 0,
 mv_ 16 2,
 pr_ 17 (bt_ .add 15 16),
 mv_ 18 1,
 pr_ 19 (bt_ .sub 17 18),
 pr_ 20 (bk_ .add 19 .i64 1),
 mv_ 0 20])
 .skip))
 (sq_ [mv_ 21 1,
 mv_ 22 0,
 pr_ 23 (bt_ .add 21 22),
 mv_ 6 23]
 .ret))))
def o86:List Tmp:=[]
def r86:List RV:=[.tmp 6]
theorem t86:Text Tryz.prog 86 o86 c86 r86 24:=.mk_ Tryz.f86 rfl
def c87:ACode :=
 (sq_ [pr_ 4 (.mov (.const (.slice none 0 0)))]
 (sq_ [pr_ 5 (.mov (.const (.slice none 0 0)))]
 (.seq (sq_ [pr_ 6 (mi_ .i64 0)]
 (.block 0 (.loop [2,3,4,7,8,9,10,11,12,13,14,15,16,17,18,19,20,21,22,23,24,25,26,27,28,29,30,31,32,33,34,35,36,37,38,39,40,41,42,43,44,45,46,47,48,49,50,51,52,53,54,55,56,57,58,59,60,61,62,63,64,65,66,67,68,69,70,71,72] (.seq (sq_ [mv_ 9 6,
 mv_ 10 0,
 pr_ 11 (.lenv (.tmp 10)),
 pr_ 12 (bt_ .lss 9 11),
 mv_ 13 12,
 gp_ 14 13 true (mo_ 5),
 gp_ 15 13 true (.lenv (.tmp 14)),
 gp_ 16 13 true (bk_ .lss 15 .i64 5),
 pr_ 17 (pa_ 13 16)]
 (.cond (.tmp 17)
 .skip
 (.exit 0)))
 (.seq (.block 1 (.seq (.ghost (.weak 5 3) (.ops [mv_ 20 0,
 mv_ 21 6,
 pr_ 22 (.iadrs 3 (.tmp 20) (.tmp 21)),
 pr_ 23 (lt_ 3 22),
 c1_ 24 112 23,
 ⟨some 7,none,.fresh 3 7 (.tmp 24)⟩]))
 (sq_ [mv_ 25 5,
 pr_ 26 (.lenv (.tmp 25)),
 mv_ 8 26]
 (.seq (.block 2 (.loop [2,3,4,9,10,11,12,13,14,15,16,17,18,19,20,21,22,23,24,25,26,27,28,29,30,31,32,33,34,35,36,37,38,39,40,41,42,43,44,45,46,47,48,49,50,51,52,53,54,55,56,57,58,59,60,61,62,63,64,65,66,67,68,69,70,71,72] (.seq (.seq (.draw [⟨mv_ 27 8,[],false,0,0⟩,
 ⟨pr_ 28 (bk_ .gtr 27 .i64 0),[0],false,0,0⟩,
 ⟨mv_ 29 28,[0,1],false,0,0⟩,
 ⟨gp_ 30 29 true (lt_ 3 7),[0,1,2],false,0,0⟩,
 ⟨gp_ 31 29 true (mo_ 5),[0,1,2],false,0,0⟩,
 ⟨gp_ 32 29 true (mo_ 8),[0,1,2],false,0,0⟩,
 ⟨gp_ 33 29 true (bk_ .sub 32 .i64 1),[0,1,2,5],false,0,0⟩,
 ⟨gp_ 34 29 true (.iadrs 3 (.tmp 31) (.tmp 33)),[0,1,2,4,5,6],false,0,0⟩,
 ⟨gp_ 35 29 true (lt_ 3 34),[0,1,2,4,5,6,7],false,0,0⟩,
 ⟨gc_ 36 29 true 113 [(.tmp 30),(.tmp 35)],(List.range 9),true,0,0⟩,
 ⟨pr_ 37 (pa_ 29 36),(List.range 10),false,1,1⟩])
 (.cond (.tmp 37)
 .skip
 (.exit 2)))
 (.block 3 (.ops [mv_ 38 8,
 pr_ 39 (bk_ .sub 38 .i64 1),
 mv_ 8 39])))))
 (.seq (.seq (.draw [⟨mv_ 40 8,[],false,0,0⟩,
 ⟨pr_ 41 (bk_ .gtr 40 .i64 0),[0],false,0,0⟩,
 ⟨mv_ 42 41,[0,1],false,0,0⟩,
 ⟨gp_ 43 42 true (mo_ 5),[0,1,2],false,0,0⟩,
 ⟨gp_ 44 42 true (mo_ 8),[0,1,2],false,0,0⟩,
 ⟨gp_ 45 42 true (bk_ .sub 44 .i64 1),[0,1,2,4],false,0,0⟩,
 ⟨gp_ 46 42 true (.iadrs 3 (.tmp 43) (.tmp 45)),(List.range 6),false,0,0⟩,
 ⟨gp_ 47 42 true (lt_ 3 46),(List.range 7),false,0,0⟩,
 ⟨gp_ 48 42 true (lt_ 3 7),[0,1,2],false,0,0⟩,
 ⟨gp_ 49 42 true (.eqa false [.int,.str,.str] (.tmp 47) (.tmp 48)),(List.range 9),false,0,0⟩,
 ⟨pr_ 50 (pa_ 42 49),(List.range 10),false,0,0⟩])
 (.cond (.tmp 50)
 (.exit 1)
 .skip))
 (.after (.after (.after (.draw [⟨mv_ 51 5,[],false,0,0⟩,
 ⟨mv_ 52 8,[],false,0,0⟩,
 ⟨pr_ 53 (.slcv 3 (.tmp 51) none (some (.tmp 52))),[0,1],false,0,0⟩,
 ⟨pr_ 54 (.app 3 (.const (.slice none 0 0)) (.tmp 53)),[0,1,2],true,0,0⟩,
 ⟨pr_ 55 (lt_ 3 7),[],false,0,1⟩,
 ⟨pr_ 56 (.bsl false 3 true 1 [.pl (.int .i64 0),.pl (.string .empty),.pl (.string .empty)] [(0,3,(.tmp 55))]),[4],false,0,1⟩,
 ⟨pr_ 57 (.app 3 (.tmp 54) (.tmp 56)),(List.range 6),true,0,0⟩,
 ⟨mv_ 58 5,[],false,0,2⟩,
 ⟨mv_ 59 8,[],false,0,2⟩,
 ⟨pr_ 60 (.slcv 3 (.tmp 58) (some (.tmp 59)) none),[7,8],false,0,2⟩,
 ⟨pr_ 61 (.app 3 (.tmp 57) (.tmp 60)),(List.range 10),true,0,0⟩,
 ⟨mv_ 5 61,(List.range 11),false,3,3⟩]) (.shut 5)) (.clear [54,57,61])) (.keep 0)))))))
 (.ops [mv_ 18 6,
 pr_ 19 (bk_ .add 18 .i64 1),
 mv_ 6 19]))))))
 (.seq (sq_ [mv_ 62 1,
 mv_ 63 62,
 gp_ 64 63 true (mo_ 5),
 gp_ 65 63 true (.lenv (.tmp 64)),
 gp_ 66 63 true (bk_ .eql 65 .i64 0),
 pr_ 67 (pa_ 63 66)]
 (.cond (.tmp 67)
 (.ops [mv_ 68 5,
 pr_ 69 (.build [.pl (.int .i64 0),.pl (.string .empty),.pl (.string .empty)] [(0,1,(.const (.int .i64 1))),(1,1,(.const (.string (ByteArray.mk #[115,101,118])))),(2,1,(.const (.string (ByteArray.mk #[97]))))]),
 pr_ 70 (.bsl false 3 true 1 [.pl (.int .i64 0),.pl (.string .empty),.pl (.string .empty)] [(0,3,(.tmp 69))]),
 pr_ 71 (.app 3 (.tmp 68) (.tmp 70)),
 mv_ 5 71])
 .skip))
 (sq_ [mv_ 72 5,
 mv_ 4 72]
 (.ghost (.shut 4) .ret))))))
def o87:List Tmp:=[]
def r87:List RV:=[.tmp 4]
theorem t87:Text Tryz.prog 87 o87 c87 r87 73:=.mk_ Tryz.f87 rfl
def c88:ACode :=
 (sq_ [pr_ 1 (.boxr (.tmp 0)),
 pr_ 2 (.allocm [.pl (.bool false),.pl (.float .f64 0),.pl (.float .f64 0)])]
 (sq_ [pr_ 4 (fa_ 1 1),
 pr_ 5 (lf_ 1 4),
 pr_ 6 (fa_ 2 1),
 pr_ 7 (lf_ 1 6),
 pr_ 8 (.build [.pl (.bool false),.pl (.float .f64 0),.pl (.float .f64 0)] [(1,1,(.tmp 5)),(2,1,(.tmp 7))]),
 pr_ 3 (.allocm [.pl (.bool false),.pl (.float .f64 0),.pl (.float .f64 0)]),
 st_ (so_ 3 3 8)]
 (.seq (sq_ [pr_ 9 (fa_ 0 1),
 pr_ 10 (lf_ 1 9),
 pr_ 11 (bk_ .rem 10 .i64 3),
 pr_ 12 (bk_ .eql 11 .i64 0),
 mv_ 13 12,
 gp_ 14 13 false (fa_ 1 3),
 gp_ 15 13 false (lf_ 1 14),
 gp_ 16 13 false (fa_ 1 3),
 gp_ 17 13 false (lf_ 1 16),
 gp_ 18 13 false (bt_ .neq 15 17),
 pr_ 19 (po_ 13 18),
 mv_ 20 19,
 gp_ 21 20 false (fa_ 2 3),
 gp_ 22 20 false (lf_ 1 21),
 gp_ 23 20 false (fa_ 2 3),
 gp_ 24 20 false (lf_ 1 23),
 gp_ 25 20 false (bt_ .neq 22 24),
 pr_ 26 (po_ 20 25)]
 (.cond (.tmp 26)
 (sq_ [pr_ 27 (.build [.pl (.bool false),.pl (.float .f64 0),.pl (.float .f64 0)] [(0,1,(.const (.bool true)))]),
 st_ (so_ 3 2 27)]
 .ret)
 .skip))
 (.seq (sq_ [pr_ 28 (fa_ 2 3),
 pr_ 29 (lf_ 1 28),
 pr_ 30 (fa_ 1 3),
 pr_ 31 (lf_ 1 30),
 pr_ 32 (bt_ .lss 29 31)]
 (.cond (.tmp 32)
 (.ops [pr_ 33 (fa_ 2 3),
 pr_ 34 (lf_ 1 33),
 pr_ 35 (fa_ 1 3),
 pr_ 36 (lf_ 1 35),
 pr_ 37 (fa_ 1 3),
 st_ (so_ 1 37 34),
 pr_ 38 (fa_ 2 3),
 st_ (so_ 1 38 36)])
 .skip))
 (sq_ [pr_ 39 (lt_ 3 3),
 st_ (so_ 3 2 39)]
 .ret)))))
def o88:List Tmp:=[2,3]
def r88:List RV:=[.cell 2 3 true]
theorem t88:Text Tryz.prog 88 o88 c88 r88 40:=.mk_ Tryz.f88 rfl
def c89:ACode :=
 (sq_ [pr_ 1 (.boxr (.tmp 0)),
 pr_ 2 (.allocm [.nils,.nils,.pl (.bool false),.pl (.float .f64 0),.pl (.float .f64 0),.nils])]
 (.seq (.draw [⟨pr_ 7 (fa_ 0 1),[],false,0,0⟩,
 ⟨pr_ 8 (lf_ 1 7),[0],false,0,0⟩,
 ⟨cl_ 9 87 [(.tmp 8),(.const (.bool true))],[0,1],false,0,0⟩,
 ⟨pr_ 10 (fa_ 1 1),[],false,0,0⟩,
 ⟨pr_ 11 (lf_ 1 10),[3],false,0,0⟩,
 ⟨cl_ 12 87 [(.tmp 11),(.const (.bool true))],[0,1,2,3,4],false,0,0⟩,
 ⟨pr_ 13 (fa_ 2 1),[],false,0,0⟩,
 ⟨pr_ 14 (lt_ 3 13),[6],false,0,0⟩,
 ⟨c1_ 15 88 14,(List.range 8),true,0,0⟩,
 ⟨pr_ 16 (.build [.nils,.nils,.pl (.bool false),.pl (.float .f64 0),.pl (.float .f64 0),.nils] [(0,1,(.tmp 9)),(1,1,(.tmp 12)),(2,3,(.tmp 15))]),(List.range 9),false,1,1⟩,
 ⟨⟨some 3,none,.flo 6⟩,[],false,0,1⟩,
 ⟨⟨some 3,none,.adopt true 3 6 (.tmp 16)⟩,(List.range 11),true,0,0⟩])
 (.seq (sq_ [pr_ 4 (mi_ .i64 0)]
 (.block 0 (.loop [0,5,6,7,8,9,10,11,12,13,14,15,16,17,18,19,20,21,22,23,24,25,26,27,28,29,30,31,32,33,34,35,36,37,38,39,40,41,42,43,44,45,46,47,48,49,50,51,52,53,54,55] (.seq (sq_ [mv_ 17 4,
 pr_ 18 (bk_ .lss 17 .i64 5),
 mv_ 19 18,
 gp_ 20 19 true (fa_ 5 3),
 gp_ 21 19 true (lf_ 1 20),
 gp_ 22 19 true (.lenv (.tmp 21)),
 gp_ 23 19 true (bk_ .lss 22 .i64 4),
 pr_ 24 (pa_ 19 23)]
 (.cond (.tmp 24)
 .skip
 (.exit 0)))
 (.seq (.block 1 (sq_ [pr_ 27 (.build [.pl (.string .empty),.pl (.string .empty),.pl (.string .empty),.pl (.string .empty),.pl (.string .empty)] [(0,1,(.const (.string (ByteArray.mk #[90,111,110,101,57])))),(1,1,(.const (.string (ByteArray.mk #[95,120])))),(2,1,(.const (.string (ByteArray.mk #[104,111,115,116])))),(3,1,(.const (.string (ByteArray.mk #[106,111,98])))),(4,1,(.const (.string (ByteArray.mk #[115,101,118]))))]),
 mv_ 28 4,
 pr_ 29 (.idxa 1 5 false (.tmp 27) (.tmp 28)),
 mv_ 5 29]
 (sq_ [pr_ 6 (mi_ .i64 0)]
 (.block 2 (.loop [0,7,8,9,10,11,12,13,14,15,16,17,18,19,20,21,22,23,24,25,26,27,28,29,30,31,32,33,34,35,36,37,38,39,40,41,42,43,44,45,46,47,48,49,50,51,52,53,54,55] (.seq (sq_ [mv_ 30 6,
 pr_ 31 (fa_ 5 1),
 pr_ 32 (lf_ 1 31),
 pr_ 33 (.lenv (.tmp 32)),
 pr_ 34 (bt_ .lss 30 33),
 mv_ 35 34,
 gp_ 36 35 true (mo_ 6),
 gp_ 37 35 true (bk_ .lss 36 .i64 9),
 pr_ 38 (pa_ 35 37)]
 (.cond (.tmp 38)
 .skip
 (.exit 2)))
 (.seq (.block 3 (sq_ [pr_ 41 (fa_ 5 1),
 pr_ 42 (lf_ 1 41),
 mv_ 43 6,
 pr_ 44 (.iadrs 1 (.tmp 42) (.tmp 43)),
 pr_ 45 (lf_ 1 44),
 c1_ 46 114 45,
 mv_ 47 5,
 pr_ 48 (bt_ .eql 46 47)]
 (.cond (.tmp 48)
 (sq_ [pr_ 49 (fa_ 5 3),
 pr_ 50 (lf_ 1 49),
 mv_ 51 5,
 pr_ 52 (.bsl false 1 false 1 [.pl (.string .empty)] [(0,1,(.tmp 51))]),
 pr_ 53 (.app 1 (.tmp 50) (.tmp 52)),
 pr_ 54 (fa_ 5 3),
 st_ (so_ 1 54 53)]
 (.exit 2))
 .skip)))
 (.ops [mv_ 39 6,
 pr_ 40 (bk_ .add 39 .i64 1),
 mv_ 6 40]))))))))
 (.ops [mv_ 25 4,
 pr_ 26 (bk_ .add 25 .i64 1),
 mv_ 4 26]))))))
 (.seq (.ghost (.shutc 3 5 1) (.ops [pr_ 55 (lt_ 6 3),
 st_ (so_ 6 2 55)]))
 .ret))))
def o89:List Tmp:=[2,3]
def r89:List RV:=[.cell 2 6 true]
theorem t89:Text Tryz.prog 89 o89 c89 r89 56:=.mk_ Tryz.f89 rfl
def c90:ACode :=
 (sq_ [pr_ 2 (.mov (.const (.slice none 0 0)))]
 (.seq (.after (.ops [pr_ 3 (.mov (.const (.slice none 0 0)))]) (.own 3 2))
 (.seq (sq_ [pr_ 4 (mi_ .i64 0)]
 (.block 0 (.loop [1,2,5,6,7,8,9,10,11,12,13,14,15,16,17,18,19,20,21,22,23,24,25,26,27,28,29,30,31,32,33,34,35,36,37,38,39,40,41,42,43,44,45,46,47,48,49,50,51,52,53] (.seq (sq_ [mv_ 8 4,
 mv_ 9 0,
 pr_ 10 (.lenv (.tmp 9)),
 pr_ 11 (bt_ .lss 8 10),
 mv_ 12 11,
 gp_ 13 12 true (mo_ 4),
 gp_ 14 12 true (bk_ .lss 13 .i64 5),
 pr_ 15 (pa_ 12 14)]
 (.cond (.tmp 15)
 .skip
 (.exit 0)))
 (.seq (.block 1 (.seq (.draw [⟨mv_ 18 0,[],false,0,1⟩,
 ⟨mv_ 19 4,[],false,0,1⟩,
 ⟨pr_ 20 (.iadrs 1 (.tmp 18) (.tmp 19)),[0,1],false,0,1⟩,
 ⟨pr_ 21 (lf_ 1 20),[0,1,2],false,0,1⟩,
 ⟨cl_ 22 86 [(.tmp 21),(.const (.int .i64 0)),(.const (.int .i64 4))],[0,1,2,3],false,0,1⟩,
 ⟨c1_ 23 114 22,[0,1,2,3,4],false,0,1⟩,
 ⟨mv_ 24 0,[],false,0,1⟩,
 ⟨mv_ 25 4,[],false,0,1⟩,
 ⟨pr_ 26 (.iadrs 1 (.tmp 24) (.tmp 25)),[6,7],false,0,1⟩,
 ⟨pr_ 27 (lf_ 1 26),[6,7,8],false,0,1⟩,
 ⟨pr_ 28 (bk_ .quo 27 .i64 5),[6,7,8,9],false,0,1⟩,
 ⟨cl_ 29 86 [(.tmp 28),(.const (.int .i64 0)),(.const (.int .i64 6))],(List.range 11),false,0,1⟩,
 ⟨c1_ 30 115 29,(List.range 12),false,0,1⟩,
 ⟨pr_ 31 (.build [.pl (.string .empty),.pl (.string .empty)] [(0,1,(.tmp 23)),(1,1,(.tmp 30))]),(List.range 13),false,0,1⟩,
 ⟨pr_ 5 (.allocm [.pl (.string .empty),.pl (.string .empty)]),[],true,0,0⟩,
 ⟨st_ (so_ 2 5 31),(List.range 15),true,0,0⟩])
 (sq_ [mv_ 32 3,
 pr_ 33 (fa_ 0 5),
 pr_ 34 (lf_ 1 33),
 cl_ 35 116 [(.tmp 32),(.tmp 34)],
 pr_ 36 (.bin false .eql (.tmp 35) (.const (.string (ByteArray.mk #[]))))]
 (.cond (.tmp 36)
 (.ops [mv_ 37 3,
 pr_ 38 (lt_ 2 5),
 pr_ 39 (.bsl false 2 true 1 [.pl (.string .empty),.pl (.string .empty)] [(0,2,(.tmp 38))]),
 pr_ 40 (.app 2 (.tmp 37) (.tmp 39)),
 mv_ 3 40])
 .skip))))
 (.after (.after (.ops [mv_ 16 4,
 pr_ 17 (bk_ .add 16 .i64 1),
 mv_ 4 17]) (.clear [5,33])) (.keep 1)))))))
 (.seq (sq_ [mv_ 41 3,
 pr_ 42 (.lenv (.tmp 41)),
 pr_ 43 (bk_ .eql 42 .i64 0)]
 (.cond (.tmp 43)
 (.ops [mv_ 44 3,
 pr_ 45 (.build [.pl (.string .empty),.pl (.string .empty)] [(0,1,(.const (.string (ByteArray.mk #[115,101,118])))),(1,1,(.const (.string (ByteArray.mk #[97]))))]),
 pr_ 46 (.bsl false 2 true 1 [.pl (.string .empty),.pl (.string .empty)] [(0,2,(.tmp 45))]),
 pr_ 47 (.app 2 (.tmp 44) (.tmp 46)),
 mv_ 3 47])
 .skip))
 (.seq (.ghost (.shut 3) (.ops [mv_ 49 3,
 c1_ 50 117 49,
 mv_ 48 50,
 pr_ 51 (ex_ 0 48),
 pr_ 52 (ex_ 1 48),
 mv_ 6 51,
 mv_ 7 52]))
 (sq_ [mv_ 53 6,
 mv_ 2 53]
 (.ghost (.shut 2) .ret)))))))
def o90:List Tmp:=[]
def r90:List RV:=[.tmp 2]
theorem t90:Text Tryz.prog 90 o90 c90 r90 54:=.mk_ Tryz.f90 rfl
def c92:ACode :=
 (sq_ [pr_ 1 (.boxr (.tmp 0)),
 pr_ 2 (.allocm [.pl (.int .u32 0),.pl (.int .u32 0),.pl (.int .u32 0),.pl (.int .u32 0),.pl (.int .u32 0),.pl (.int .u32 0),.pl (.int .u32 0),.pl (.int .u32 0),.pl (.int .u32 0),.pl (.int .u32 0),.pl (.int .u32 0),.pl (.int .u32 0),.pl (.int .u32 0),.pl (.int .u32 0),.pl (.int .u32 0),.pl (.int .u32 0),.pl (.int .u32 0),.pl (.int .u32 0),.pl (.int .u32 0),.pl (.int .u32 0),.pl (.int .u32 0),.pl (.int .u32 0),.pl (.int .u32 0),.pl (.int .u32 0),.pl (.int .u32 0),.pl (.int .u32 0),.pl (.int .u32 0),.pl (.int .u32 0),.pl (.int .u32 0),.pl (.int .u32 0),.pl (.int .u32 0),.pl (.int .u32 0),.pl (.int .u32 0),.pl (.int .u32 0),.pl (.int .u32 0),.pl (.int .u32 0),.pl (.int .u32 0),.pl (.int .u32 0),.pl (.int .u32 0),.pl (.int .u32 0),.pl (.int .u32 0),.pl (.int .u32 0),.pl (.int .u32 0),.pl (.int .u32 0),.pl (.int .u32 0),.pl (.int .u32 0),.pl (.int .u32 0),.pl (.int .u32 0),.pl (.int .u32 0),.pl (.int .u32 0),.pl (.int .u32 0),.pl (.int .u32 0),.pl (.int .u32 0),.pl (.int .u32 0),.pl (.int .u32 0),.pl (.int .u32 0),.pl (.int .u32 0),.pl (.int .u32 0),.pl (.int .u32 0),.pl (.int .u32 0),.pl (.int .u32 0),.pl (.int .u32 0),.pl (.int .u32 0),.pl (.int .u32 0)])]
 (sq_ [pr_ 3 (.allocm [.pl (.int .u32 0),.pl (.int .u32 0),.pl (.int .u32 0),.pl (.int .u32 0),.pl (.int .u32 0),.pl (.int .u32 0),.pl (.int .u32 0),.pl (.int .u32 0),.pl (.int .u32 0),.pl (.int .u32 0),.pl (.int .u32 0),.pl (.int .u32 0),.pl (.int .u32 0),.pl (.int .u32 0),.pl (.int .u32 0),.pl (.int .u32 0),.pl (.int .u32 0),.pl (.int .u32 0),.pl (.int .u32 0),.pl (.int .u32 0),.pl (.int .u32 0),.pl (.int .u32 0),.pl (.int .u32 0),.pl (.int .u32 0),.pl (.int .u32 0),.pl (.int .u32 0),.pl (.int .u32 0),.pl (.int .u32 0),.pl (.int .u32 0),.pl (.int .u32 0),.pl (.int .u32 0),.pl (.int .u32 0),.pl (.int .u32 0),.pl (.int .u32 0),.pl (.int .u32 0),.pl (.int .u32 0),.pl (.int .u32 0),.pl (.int .u32 0),.pl (.int .u32 0),.pl (.int .u32 0),.pl (.int .u32 0),.pl (.int .u32 0),.pl (.int .u32 0),.pl (.int .u32 0),.pl (.int .u32 0),.pl (.int .u32 0),.pl (.int .u32 0),.pl (.int .u32 0),.pl (.int .u32 0),.pl (.int .u32 0),.pl (.int .u32 0),.pl (.int .u32 0),.pl (.int .u32 0),.pl (.int .u32 0),.pl (.int .u32 0),.pl (.int .u32 0),.pl (.int .u32 0),.pl (.int .u32 0),.pl (.int .u32 0),.pl (.int .u32 0),.pl (.int .u32 0),.pl (.int .u32 0),.pl (.int .u32 0),.pl (.int .u32 0)])]
 (.seq (sq_ [pr_ 10 (mi_ .i64 0)]
 (.block 0 (.loop [0,4,5,6,7,8,9,11,12,13,14,15,16,17,18,19,20,21,22,23,24,25,26,27,28,29,30,31,32,33,34,35,36,37,38,39,40,41,42,43,44,45,46,47,48,49,50,51,52,53,54,55,56,57,58,59,60,61,62,63,64,65,66,67,68,69,70,71,72,73,74,75,76,77,78,79,80,81,82,83,84,85,86,87,88] (sq_ [pr_ 11 (bk_ .lss 10 .i64 16)]
 (.seq (.cond (.tmp 11)
 .skip
 (.exit 0))
 (.seq (.block 1 (sq_ [mv_ 12 10,
 mv_ 4 12]
 (.draw [⟨mv_ 13 4,[],false,0,0⟩,
 ⟨mv_ 14 4,[],false,0,0⟩,
 ⟨pr_ 15 (.bin false .mul (.const (.int .i64 4)) (.tmp 14)),[1],false,0,0⟩,
 ⟨pr_ 16 (.iadra 1 64 (.tmp 1) (.tmp 15)),[1,2],false,0,0⟩,
 ⟨pr_ 17 (lf_ 1 16),[1,2,3],false,0,0⟩,
 ⟨pr_ 18 (.convi .u32 (.tmp 17)),[1,2,3,4],false,0,0⟩,
 ⟨pr_ 19 (bk_ .shl 18 .u64 24),[1,2,3,4,5],false,0,0⟩,
 ⟨mv_ 20 4,[],false,0,0⟩,
 ⟨pr_ 21 (.bin false .mul (.const (.int .i64 4)) (.tmp 20)),[7],false,0,0⟩,
 ⟨pr_ 22 (bk_ .add 21 .i64 1),[7,8],false,0,0⟩,
 ⟨pr_ 23 (.iadra 1 64 (.tmp 1) (.tmp 22)),[7,8,9],false,0,0⟩,
 ⟨pr_ 24 (lf_ 1 23),[7,8,9,10],false,0,0⟩,
 ⟨pr_ 25 (.convi .u32 (.tmp 24)),[7,8,9,10,11],false,0,0⟩,
 ⟨pr_ 26 (bk_ .shl 25 .u64 16),[7,8,9,10,11,12],false,0,0⟩,
 ⟨pr_ 27 (bt_ .or 19 26),[1,2,3,4,5,6,7,8,9,10,11,12,13],false,0,0⟩,
 ⟨mv_ 28 4,[],false,0,0⟩,
 ⟨pr_ 29 (.bin false .mul (.const (.int .i64 4)) (.tmp 28)),[15],false,0,0⟩,
 ⟨pr_ 30 (bk_ .add 29 .i64 2),[15,16],false,0,0⟩,
 ⟨pr_ 31 (.iadra 1 64 (.tmp 1) (.tmp 30)),[15,16,17],false,0,0⟩,
 ⟨pr_ 32 (lf_ 1 31),[15,16,17,18],false,0,0⟩,
 ⟨pr_ 33 (.convi .u32 (.tmp 32)),[15,16,17,18,19],false,0,0⟩,
 ⟨pr_ 34 (bk_ .shl 33 .u64 8),[15,16,17,18,19,20],false,0,0⟩,
 ⟨pr_ 35 (bt_ .or 27 34),[1,2,3,4,5,6,7,8,9,10,11,12,13,14,15,16,17,18,19,20,21],false,0,0⟩,
 ⟨mv_ 36 4,[],false,0,0⟩,
 ⟨pr_ 37 (.bin false .mul (.const (.int .i64 4)) (.tmp 36)),[23],false,0,0⟩,
 ⟨pr_ 38 (bk_ .add 37 .i64 3),[23,24],false,0,0⟩,
 ⟨pr_ 39 (.iadra 1 64 (.tmp 1) (.tmp 38)),[23,24,25],false,0,0⟩,
 ⟨pr_ 40 (lf_ 1 39),[23,24,25,26],false,0,0⟩,
 ⟨pr_ 41 (.convi .u32 (.tmp 40)),[23,24,25,26,27],false,0,0⟩,
 ⟨pr_ 42 (bt_ .or 35 41),[1,2,3,4,5,6,7,8,9,10,11,12,13,14,15,16,17,18,19,20,21,22,23,24,25,26,27,28],false,0,0⟩,
 ⟨pr_ 43 (.iadra 1 64 (.tmp 3) (.tmp 13)),(List.range 30),false,0,0⟩,
 ⟨st_ (so_ 1 43 42),(List.range 31),true,0,0⟩])))
 (.ops [pr_ 44 (bk_ .add 10 .i64 1),
 mv_ 10 44])))))))
 (.seq (sq_ [pr_ 5 (mi_ .i64 16)]
 (.block 2 (.loop [0,1,4,6,7,8,9,10,11,12,13,14,15,16,17,18,19,20,21,22,23,24,25,26,27,28,29,30,31,32,33,34,35,36,37,38,39,40,41,42,43,44,45,46,47,48,49,50,51,52,53,54,55,56,57,58,59,60,61,62,63,64,65,66,67,68,69,70,71,72,73,74,75,76,77,78,79,80,81,82,83,84,85,86,87,88] (.seq (sq_ [mv_ 45 5,
 pr_ 46 (bk_ .lss 45 .i64 64)]
 (.cond (.tmp 46)
 .skip
 (.exit 2)))
 (.seq (.block 3 (.seq (.draw [⟨mv_ 49 5,[],false,0,0⟩,
 ⟨pr_ 50 (bk_ .sub 49 .i64 15),[0],false,0,0⟩,
 ⟨pr_ 51 (.iadra 1 64 (.tmp 3) (.tmp 50)),[0,1],false,0,0⟩,
 ⟨pr_ 52 (lf_ 1 51),[0,1,2],false,0,0⟩,
 ⟨mv_ 53 5,[],false,0,0⟩,
 ⟨pr_ 54 (bk_ .sub 53 .i64 2),[4],false,0,0⟩,
 ⟨pr_ 55 (.iadra 1 64 (.tmp 3) (.tmp 54)),[4,5],false,0,0⟩,
 ⟨pr_ 56 (lf_ 1 55),[4,5,6],false,0,0⟩,
 ⟨mv_ 6 52,[0,1,2,3],false,0,0⟩,
 ⟨mv_ 7 56,(List.range 9),false,0,0⟩])
 (sq_ [mv_ 57 6,
 cl_ 58 93 [(.tmp 57),(.const (.int .i64 (-7)))],
 mv_ 59 6,
 cl_ 60 93 [(.tmp 59),(.const (.int .i64 (-18)))],
 pr_ 61 (bt_ .xor 58 60),
 mv_ 62 6,
 pr_ 63 (bk_ .shr 62 .u64 3),
 pr_ 64 (bt_ .xor 61 63),
 mv_ 8 64]
 (sq_ [mv_ 65 7,
 cl_ 66 93 [(.tmp 65),(.const (.int .i64 (-17)))],
 mv_ 67 7,
 cl_ 68 93 [(.tmp 67),(.const (.int .i64 (-19)))],
 pr_ 69 (bt_ .xor 66 68),
 mv_ 70 7,
 pr_ 71 (bk_ .shr 70 .u64 10),
 pr_ 72 (bt_ .xor 69 71),
 mv_ 9 72]
 (.draw [⟨mv_ 73 5,[],false,0,0⟩,
 ⟨mv_ 74 5,[],false,0,0⟩,
 ⟨pr_ 75 (bk_ .sub 74 .i64 16),[1],false,0,0⟩,
 ⟨pr_ 76 (.iadra 1 64 (.tmp 3) (.tmp 75)),[1,2],false,0,0⟩,
 ⟨pr_ 77 (lf_ 1 76),[1,2,3],false,0,0⟩,
 ⟨mv_ 78 8,[],false,0,0⟩,
 ⟨pr_ 79 (bt_ .add 77 78),[1,2,3,4,5],false,0,0⟩,
 ⟨mv_ 80 5,[],false,0,0⟩,
 ⟨pr_ 81 (bk_ .sub 80 .i64 7),[7],false,0,0⟩,
 ⟨pr_ 82 (.iadra 1 64 (.tmp 3) (.tmp 81)),[7,8],false,0,0⟩,
 ⟨pr_ 83 (lf_ 1 82),[7,8,9],false,0,0⟩,
 ⟨pr_ 84 (bt_ .add 79 83),[1,2,3,4,5,6,7,8,9,10],false,0,0⟩,
 ⟨mv_ 85 9,[],false,0,0⟩,
 ⟨pr_ 86 (bt_ .add 84 85),[1,2,3,4,5,6,7,8,9,10,11,12],false,0,0⟩,
 ⟨pr_ 87 (.iadra 1 64 (.tmp 3) (.tmp 73)),(List.range 14),false,0,0⟩,
 ⟨st_ (so_ 1 87 86),(List.range 15),true,0,0⟩])))))
 (.ops [mv_ 47 5,
 pr_ 48 (bk_ .add 47 .i64 1),
 mv_ 5 48]))))))
 (sq_ [pr_ 88 (lt_ 64 3),
 st_ (so_ 64 2 88)]
 .ret)))))
def o92:List Tmp:=[2,3]
def r92:List RV:=[.cell 2 64 true]
theorem t92:Text Tryz.prog 92 o92 c92 r92 89:=.mk_ Tryz.f92 rfl
def c93:ACode :=
 (sq_ [pr_ 4 (mi_ .u32 0)]
 (sq_ [mv_ 6 1,
 pr_ 7 (.convi .u64 (.tmp 6)),
 pr_ 8 (bk_ .and 7 .u64 31),
 mv_ 5 8]
 (sq_ [mv_ 9 0,
 mv_ 10 5,
 pr_ 11 (bt_ .shl 9 10),
 mv_ 12 0,
 mv_ 13 5,
 pr_ 14 (.bin false .sub (.const (.int .u64 32)) (.tmp 13)),
 pr_ 15 (bt_ .shr 12 14),
 pr_ 16 (bt_ .or 11 15),
 mv_ 4 16]
 .ret)))
def o93:List Tmp:=[]
def r93:List RV:=[.tmp 4]
theorem t93:Text Tryz.prog 93 o93 c93 r93 17:=.mk_ Tryz.f93 rfl
def c94:ACode :=
 (sq_ [pr_ 4 (.mov (.const (.slice none 0 0)))]
 (.seq (sq_ [mv_ 5 1,
 pr_ 6 (bk_ .lss 5 .i64 0)]
 (.cond (.tmp 6)
 (.ops [pr_ 7 (.bad),
 st_ (.bad)])
 .skip))
 (.seq (sq_ [mv_ 8 1,
 mv_ 9 0,
 pr_ 10 (.capn (.tmp 9)),
 mv_ 11 0,
 pr_ 12 (.lenv (.tmp 11)),
 pr_ 13 (bt_ .sub 10 12),
 pr_ 14 (bt_ .sub 8 13),
 mv_ 1 14]
 (sq_ [mv_ 15 1,
 pr_ 16 (bk_ .gtr 15 .i64 0)]
 (.cond (.tmp 16)
 (.ops [mv_ 17 0,
 mv_ 18 0,
 pr_ 19 (.capn (.tmp 18)),
 pr_ 20 (.slco 1 (.tmp 17) none (some (.tmp 19))),
 mv_ 21 1,
 pr_ 22 (.appz 1 false [.pl (.int .u8 0)] (.tmp 20) (.tmp 21)),
 mv_ 23 0,
 pr_ 24 (.lenv (.tmp 23)),
 pr_ 25 (.slco 1 (.tmp 22) none (some (.tmp 24))),
 mv_ 0 25])
 .skip)))
 (sq_ [mv_ 26 0,
 mv_ 4 26]
 .ret))))
def o94:List Tmp:=[20,25]
def r94:List RV:=[.tmp 4]
theorem t94:Text Tryz.prog 94 o94 c94 r94 27:=.mk_ Tryz.f94 rfl
def c95:ACode :=
 (sq_ [pr_ 2 (mi_ .u64 0),
 pr_ 3 (mi_ .i64 0),
 pr_ 4 mf_]
 (sq_ [pr_ 5 (mi_ .u64 0)]
 (.seq (sq_ [mv_ 8 0,
 pr_ 9 (.lenv (.tmp 8)),
 pr_ 10 (mi_ .i64 0)]
 (.block 0 (.loop [0,1,2,3,4,6,7,11,12,13,14,15,16,17,18,19,20,21,22,23,24,25,26,27,28,29,30,31,32,33,34,35,36,37,38,39,40,41,42] (sq_ [pr_ 11 (bt_ .lss 10 9)]
 (.seq (.cond (.tmp 11)
 .skip
 (.exit 0))
 (.seq (.block 1 (sq_ [mv_ 12 10,
 pr_ 13 (.iadrs 1 (.tmp 8) (.tmp 10)),
 pr_ 14 (lf_ 1 13),
 mv_ 6 12,
 mv_ 7 14]
 (.seq (sq_ [mv_ 15 6,
 pr_ 16 (bk_ .eql 15 .i64 9),
 mv_ 17 16,
 gp_ 18 17 true (mo_ 7),
 gp_ 19 17 true (bk_ .gtr 18 .u8 1),
 pr_ 20 (pa_ 17 19),
 mv_ 21 20,
 gp_ 22 21 false (mo_ 6),
 gp_ 23 21 false (bk_ .gtr 22 .i64 0),
 gp_ 24 21 false (mo_ 23),
 gp_ 25 24 true (mo_ 7),
 gp_ 26 24 true (bk_ .eql 25 .u8 0),
 gp_ 27 21 false (pa_ 24 26),
 pr_ 28 (po_ 21 27)]
 (.cond (.tmp 28)
 (.exit 0)
 .skip))
 (sq_ [mv_ 29 5,
 mv_ 30 7,
 pr_ 31 (bk_ .and 30 .u8 127),
 pr_ 32 (.convi .u64 (.tmp 31)),
 mv_ 33 6,
 pr_ 34 (.bin false .mul (.const (.int .i64 7)) (.tmp 33)),
 pr_ 35 (bt_ .shl 32 34),
 pr_ 36 (bt_ .or 29 35),
 mv_ 5 36]
 (sq_ [mv_ 37 7,
 pr_ 38 (bk_ .lss 37 .u8 128)]
 (.cond (.tmp 38)
 (sq_ [mv_ 39 5,
 mv_ 40 6,
 pr_ 41 (bk_ .add 40 .i64 1),
 mv_ 2 39,
 mv_ 3 41,
 pr_ 4 mt_]
 .ret)
 .skip))))))
 (.ops [pr_ 42 (bk_ .add 10 .i64 1),
 mv_ 10 42])))))))
 (sq_ [pr_ 2 (mi_ .u64 0),
 pr_ 3 (mi_ .i64 0),
 pr_ 4 mf_]
 .ret))))
def o95:List Tmp:=[]
def r95:List RV:=[.tmp 2,.tmp 3,.tmp 4]
theorem t95:Text Tryz.prog 95 o95 c95 r95 43:=.mk_ Tryz.f95 rfl
def c96:ACode :=
 (sq_ [pr_ 2 (.mov (.const (.slice none 0 0)))]
 (.seq (.draw [⟨mv_ 3 0,[],false,0,0⟩,
 ⟨pr_ 4 (nc_ 3),[0],false,0,0⟩,
 ⟨pr_ 5 (fa_ 0 4),[0,1],false,0,0⟩,
 ⟨pr_ 6 (lf_ 1 5),[0,1,2],false,0,0⟩,
 ⟨mv_ 7 0,[],false,0,0⟩,
 ⟨pr_ 8 (nc_ 7),[4],false,0,0⟩,
 ⟨pr_ 9 (fa_ 1 8),[4,5],false,0,0⟩,
 ⟨pr_ 10 (lf_ 1 9),[4,5,6],false,0,0⟩,
 ⟨pr_ 11 (.slcv 1 (.tmp 6) (some (.tmp 10)) none),(List.range 8),false,0,0⟩,
 ⟨mv_ 2 11,(List.range 9),false,0,0⟩])
 (.ghost (.shut 2) .ret)))
def o96:List Tmp:=[]
def r96:List RV:=[.tmp 2]
theorem t96:Text Tryz.prog 96 o96 c96 r96 12:=.mk_ Tryz.f96 rfl
def c97:ACode :=
 (sq_ [pr_ 6 mf_]
 (sq_ [mv_ 7 0,
 mv_ 8 0,
 pr_ 9 (nc_ 8),
 pr_ 10 (fa_ 2 9),
 pr_ 11 (lf_ 1 10),
 mv_ 12 11,
 gp_ 13 12 false (mo_ 2),
 gp_ 14 12 false (no_ 13),
 pr_ 15 (po_ 12 14),
 pr_ 16 (nc_ 7),
 pr_ 17 (fa_ 2 16),
 st_ (so_ 1 17 15)]
 (.seq (sq_ [mv_ 18 0,
 pr_ 19 (nc_ 18),
 pr_ 20 (fa_ 2 19),
 pr_ 21 (lf_ 1 20),
 pr_ 22 (no_ 21)]
 (.cond (.tmp 22)
 (.ops [mv_ 23 0,
 pr_ 24 (nc_ 23),
 pr_ 25 (fa_ 1 24),
 pr_ 26 (lf_ 1 25),
 mv_ 27 1,
 pr_ 28 (bt_ .add 26 27),
 pr_ 29 (nc_ 23),
 pr_ 30 (fa_ 1 29),
 st_ (so_ 1 30 28)])
 .skip))
 (sq_ [mv_ 31 0,
 pr_ 32 (nc_ 31),
 pr_ 33 (fa_ 2 32),
 pr_ 34 (lf_ 1 33),
 pr_ 35 (no_ 34),
 mv_ 6 35]
 .ret))))
def o97:List Tmp:=[]
def r97:List RV:=[.tmp 6]
theorem t97:Text Tryz.prog 97 o97 c97 r97 36:=.mk_ Tryz.f97 rfl
def c98:ACode :=
 (sq_ [pr_ 2 (mi_ .u8 0)]
 (sq_ [mv_ 4 0,
 c1_ 5 96 4,
 mv_ 3 5]
 (.seq (sq_ [mv_ 6 0,
 mv_ 7 3,
 pr_ 8 (.lenv (.tmp 7)),
 pr_ 9 (bk_ .gtr 8 .i64 0),
 cl_ 10 97 [(.tmp 6),(.const (.int .i64 1)),(.tmp 9)],
 pr_ 11 (no_ 10)]
 (.cond (.tmp 11)
 (sq_ [pr_ 2 (mi_ .u8 0)]
 .ret)
 .skip))
 (sq_ [mv_ 12 3,
 pr_ 13 (.iadrs 1 (.tmp 12) (.const (.int .i64 0))),
 pr_ 14 (lf_ 1 13),
 mv_ 2 14]
 .ret))))
def o98:List Tmp:=[]
def r98:List RV:=[.tmp 2]
theorem t98:Text Tryz.prog 98 o98 c98 r98 15:=.mk_ Tryz.f98 rfl
def c99:ACode :=
 (sq_ [pr_ 4 (.mov (.const (.string (ByteArray.mk #[])))),
 pr_ 5 (mi_ .i64 0),
 pr_ 6 mf_]
 (sq_ [mv_ 12 0,
 c1_ 13 95 12,
 mv_ 11 13,
 pr_ 14 (ex_ 0 11),
 pr_ 15 (ex_ 1 11),
 pr_ 16 (ex_ 2 11),
 mv_ 7 14,
 mv_ 8 15,
 mv_ 9 16]
 (.seq (sq_ [mv_ 17 9,
 pr_ 18 (no_ 17),
 mv_ 19 18,
 gp_ 20 19 false (mo_ 1),
 gp_ 21 19 false (bk_ .lss 20 .i64 0),
 pr_ 22 (po_ 19 21),
 mv_ 23 22,
 gp_ 24 23 false (mo_ 7),
 gp_ 25 23 false (mo_ 1),
 gp_ 26 23 false (.convi .u64 (.tmp 25)),
 gp_ 27 23 false (bt_ .gtr 24 26),
 pr_ 28 (po_ 23 27),
 mv_ 29 28,
 gp_ 30 29 false (mo_ 7),
 gp_ 31 29 false (mo_ 0),
 gp_ 32 29 false (.lenv (.tmp 31)),
 gp_ 33 29 false (mo_ 8),
 gp_ 34 29 false (bt_ .sub 32 33),
 gp_ 35 29 false (.convi .u64 (.tmp 34)),
 gp_ 36 29 false (bt_ .gtr 30 35),
 pr_ 37 (po_ 29 36)]
 (.cond (.tmp 37)
 (sq_ [pr_ 4 (.mov (.const (.string (ByteArray.mk #[])))),
 pr_ 5 (mi_ .i64 0),
 pr_ 6 mf_]
 .ret)
 .skip))
 (sq_ [mv_ 38 8,
 mv_ 39 7,
 pr_ 40 (.convi .i64 (.tmp 39)),
 pr_ 41 (bt_ .add 38 40),
 mv_ 10 41]
 (sq_ [mv_ 42 0,
 mv_ 43 8,
 mv_ 44 10,
 pr_ 45 (.slcv 1 (.tmp 42) (some (.tmp 43)) (some (.tmp 44))),
 pr_ 46 (.b2s (.tmp 45)),
 mv_ 47 10,
 mv_ 4 46,
 mv_ 5 47,
 pr_ 6 mt_]
 .ret)))))
def o99:List Tmp:=[]
def r99:List RV:=[.tmp 4,.tmp 5,.tmp 6]
theorem t99:Text Tryz.prog 99 o99 c99 r99 48:=.mk_ Tryz.f99 rfl
def c100:ACode :=
 (sq_ [pr_ 4 (mi_ .u32 0)]
 (sq_ [mv_ 5 0,
 mv_ 6 1,
 pr_ 7 (bt_ .shr 5 6),
 mv_ 8 0,
 mv_ 9 1,
 pr_ 10 (.bin false .sub (.const (.int .u64 32)) (.tmp 9)),
 pr_ 11 (bt_ .shl 8 10),
 pr_ 12 (bt_ .or 7 11),
 mv_ 4 12]
 .ret))
def o100:List Tmp:=[]
def r100:List RV:=[.tmp 4]
theorem t100:Text Tryz.prog 100 o100 c100 r100 13:=.mk_ Tryz.f100 rfl
def c101:ACode :=
 (sq_ [pr_ 3 (.boxr (.tmp 0)),
 pr_ 6 (.allocm z19_),
 pr_ 7 mf_]
 (.seq (sq_ [mv_ 11 1,
 c1_ 12 63 11,
 mv_ 10 12,
 pr_ 13 (ex_ 0 10),
 pr_ 14 (ex_ 1 10),
 mv_ 8 13,
 mv_ 9 14]
 (sq_ [mv_ 15 9,
 pr_ 16 (no_ 15),
 mv_ 17 16,
 gp_ 18 17 false (mo_ 8),
 gp_ 19 17 false (mo_ 2),
 gp_ 20 17 false (.lenv (.tmp 19)),
 gp_ 21 17 false (bt_ .neq 18 20),
 pr_ 22 (po_ 17 21)]
 (.cond (.tmp 22)
 (sq_ [pr_ 23 (.build z19_ []),
 st_ (so_ 19 6 23),
 pr_ 7 mf_]
 .ret)
 .skip)))
 (sq_ [pr_ 24 (lt_ 19 3),
 st_ (so_ 19 6 24),
 pr_ 7 mt_]
 .ret)))
def o101:List Tmp:=[6]
def r101:List RV:=[.cell 6 19 true,.tmp 7]
theorem t101:Text Tryz.prog 101 o101 c101 r101 25:=.mk_ Tryz.f101 rfl
def c102:ACode :=
 (sq_ [pr_ 2 (.allocm z19_)]
 (sq_ [mv_ 8 0,
 c1_ 9 98 8,
 pr_ 10 (.convi .i64 (.tmp 9)),
 pr_ 11 (.build z19_ [(1,1,(.tmp 10))]),
 pr_ 3 (.allocm z19_),
 st_ (so_ 19 3 11)]
 (sq_ [pr_ 13 (fa_ 1 3),
 pr_ 14 (lf_ 1 13),
 c1_ 15 119 14,
 mv_ 12 15,
 pr_ 16 (ex_ 0 12),
 pr_ 17 (ex_ 1 12),
 mv_ 4 16,
 mv_ 5 17]
 (sq_ [mv_ 18 0,
 mv_ 19 5,
 cl_ 20 120 [(.tmp 18),(.tmp 19)]]
 (.seq (sq_ [mv_ 21 4,
 pr_ 22 (bk_ .and 21 .i64 1),
 pr_ 23 (bk_ .gtr 22 .i64 0)]
 (.cond (.tmp 23)
 (.ops [mv_ 24 0,
 cl_ 25 60 [(.tmp 24),(.const (.int .u64 2147483647))],
 pr_ 26 (.convi .i64 (.tmp 25)),
 pr_ 27 (fa_ 2 3),
 st_ (so_ 1 27 26)])
 .skip))
 (.seq (sq_ [mv_ 28 4,
 pr_ 29 (bk_ .and 28 .i64 2),
 pr_ 30 (bk_ .gtr 29 .i64 0)]
 (.cond (.tmp 30)
 (.ops [mv_ 31 0,
 cl_ 32 62 [(.tmp 31),(.const (.int .i64 16))],
 pr_ 33 (fa_ 3 3),
 st_ (so_ 1 33 32)])
 .skip))
 (.seq (sq_ [mv_ 34 4,
 pr_ 35 (bk_ .and 34 .i64 4),
 pr_ 36 (bk_ .gtr 35 .i64 0)]
 (.cond (.tmp 36)
 (.ops [mv_ 37 0,
 cl_ 38 60 [(.tmp 37),(.const (.int .u64 1099511627776))],
 mv_ 39 0,
 cl_ 40 60 [(.tmp 39),(.const (.int .u64 1099511627776))],
 pr_ 41 (fa_ 4 3),
 st_ (so_ 1 41 38),
 pr_ 42 (fa_ 5 3),
 st_ (so_ 1 42 40)])
 .skip))
 (.seq (sq_ [mv_ 43 4,
 pr_ 44 (bk_ .and 43 .i64 8),
 pr_ 45 (bk_ .gtr 44 .i64 0)]
 (.cond (.tmp 45)
 (.ops [mv_ 46 0,
 c1_ 47 98 46,
 pr_ 48 (.convi .i64 (.tmp 47)),
 pr_ 49 (fa_ 6 3),
 st_ (so_ 1 49 48)])
 .skip))
 (.seq (sq_ [mv_ 50 4,
 pr_ 51 (bk_ .and 50 .i64 16),
 pr_ 52 (bk_ .gtr 51 .i64 0)]
 (.cond (.tmp 52)
 (.ops [mv_ 53 0,
 cl_ 54 121 [(.tmp 53),(.func 122)],
 pr_ 55 (fa_ 7 3),
 st_ (so_ 1 55 54)])
 .skip))
 (.seq (sq_ [mv_ 56 4,
 pr_ 57 (bk_ .and 56 .i64 64),
 pr_ 58 (bk_ .gtr 57 .i64 0)]
 (.cond (.tmp 58)
 (.ops [mv_ 59 0,
 cl_ 60 123 [(.tmp 59),(.func 124)],
 pr_ 61 (fa_ 8 3),
 st_ (so_ 3 61 60)])
 .skip))
 (.seq (sq_ [mv_ 62 4,
 pr_ 63 (bk_ .and 62 .i64 128),
 pr_ 64 (bk_ .gtr 63 .i64 0)]
 (.cond (.tmp 64)
 (.ops [mv_ 65 0,
 cl_ 66 125 [(.tmp 65),(.func 126)],
 pr_ 67 (fa_ 11 3),
 st_ (so_ 6 67 66)])
 .skip))
 (.seq (sq_ [mv_ 68 4,
 pr_ 69 (bk_ .and 68 .i64 256),
 pr_ 70 (bk_ .gtr 69 .i64 0)]
 (.cond (.tmp 70)
 (.ops [mv_ 71 0,
 cl_ 72 127 [(.tmp 71),(.func 128)],
 pr_ 73 (fa_ 17 3),
 st_ (so_ 1 73 72)])
 .skip))
 (.seq (sq_ [mv_ 74 4,
 pr_ 75 (bk_ .and 74 .i64 512),
 pr_ 76 (bk_ .gtr 75 .i64 0)]
 (.cond (.tmp 76)
 (sq_ [mv_ 78 0,
 c1_ 79 130 78,
 c1_ 80 129 79,
 mv_ 77 80,
 pr_ 81 (ex_ 0 77),
 pr_ 82 (ex_ 1 77),
 mv_ 6 81,
 mv_ 7 82]
 (sq_ [mv_ 83 0,
 mv_ 84 7,
 cl_ 85 120 [(.tmp 83),(.tmp 84)]]
 (.ops [mv_ 86 6,
 pr_ 87 (fa_ 18 3),
 st_ (so_ 1 87 86)])))
 .skip))
 (sq_ [mv_ 88 0,
 pr_ 89 (lt_ 19 3),
 c1_ 90 131 89,
 cl_ 91 120 [(.tmp 88),(.tmp 90)]]
 (sq_ [pr_ 92 (lt_ 19 3),
 st_ (so_ 19 2 92)]
 .ret)))))))))))))))
def o102:List Tmp:=[2,3]
def r102:List RV:=[.cell 2 19 true]
theorem t102:Text Tryz.prog 102 o102 c102 r102 93:=.mk_ Tryz.f102 rfl
def c103:ACode :=
 (sq_ [pr_ 4 mf_]
 (.seq (sq_ [pr_ 5 (mi_ .i64 0)]
 (.block 0 (.loop [2,3,4,6,7,8,9,10,11,12,13,14,15,16] (.seq (sq_ [mv_ 6 5,
 mv_ 7 0,
 pr_ 8 (.lens (.tmp 7)),
 pr_ 9 (bt_ .lss 6 8)]
 (.cond (.tmp 9)
 .skip
 (.exit 0)))
 (.seq (.block 1 (sq_ [mv_ 12 0,
 mv_ 13 5,
 pr_ 14 (.idxs (.tmp 12) (.tmp 13)),
 mv_ 15 1,
 pr_ 16 (bt_ .eql 14 15)]
 (.cond (.tmp 16)
 (sq_ [pr_ 4 mt_]
 .ret)
 .skip)))
 (.ops [mv_ 10 5,
 pr_ 11 (bk_ .add 10 .i64 1),
 mv_ 5 11]))))))
 (sq_ [pr_ 4 mf_]
 .ret)))
def o103:List Tmp:=[]
def r103:List RV:=[.tmp 4]
theorem t103:Text Tryz.prog 103 o103 c103 r103 17:=.mk_ Tryz.f103 rfl
def c104:ACode :=
 (sq_ [pr_ 2 mf_]
 (sq_ [mv_ 3 0,
 pr_ 4 (.lens (.tmp 3)),
 pr_ 5 (bk_ .geq 4 .i64 4),
 mv_ 6 5,
 gp_ 7 6 true (mo_ 0),
 gp_ 8 6 true (.lens (.tmp 7)),
 gp_ 9 6 true (bk_ .leq 8 .i64 16),
 pr_ 10 (pa_ 6 9),
 mv_ 2 10]
 .ret))
def o104:List Tmp:=[]
def r104:List RV:=[.tmp 2]
theorem t104:Text Tryz.prog 104 o104 c104 r104 11:=.mk_ Tryz.f104 rfl
def c105:ACode :=
 (sq_ [pr_ 2 mf_]
 (.seq (sq_ [mv_ 4 0,
 pr_ 5 (.lenv (.tmp 4)),
 pr_ 6 (bk_ .gtr 5 .i64 5)]
 (.cond (.tmp 6)
 (sq_ [pr_ 2 mf_]
 .ret)
 .skip))
 (.seq (sq_ [pr_ 3 (mi_ .i64 0)]
 (.block 0 (.loop [1,2,4,5,6,7,8,9,10,11,12,13,14,15,16,17,18,19,20,21,22,23,24,25,26,27,28,29,30,31,32,33,34,35] (.seq (sq_ [mv_ 7 3,
 mv_ 8 0,
 pr_ 9 (.lenv (.tmp 8)),
 pr_ 10 (bt_ .lss 7 9)]
 (.cond (.tmp 10)
 .skip
 (.exit 0)))
 (.seq (.block 1 (.seq (.draw [⟨mv_ 13 0,[],false,0,0⟩,
 ⟨mv_ 14 3,[],false,0,0⟩,
 ⟨pr_ 15 (.iadrs 3 (.tmp 13) (.tmp 14)),[0,1],false,0,0⟩,
 ⟨pr_ 16 (lt_ 3 15),[0,1,2],false,0,0⟩,
 ⟨c1_ 17 132 16,[0,1,2,3],true,0,0⟩,
 ⟨pr_ 18 (no_ 17),[0,1,2,3,4],false,1,1⟩,
 ⟨mv_ 19 18,(List.range 6),false,1,1⟩,
 ⟨gp_ 20 19 false (mo_ 3),(List.range 7),false,1,1⟩,
 ⟨gp_ 21 19 false (bk_ .gtr 20 .i64 0),(List.range 8),false,1,1⟩,
 ⟨gp_ 22 19 false (mo_ 21),(List.range 9),false,1,1⟩,
 ⟨gp_ 23 22 true (mo_ 0),(List.range 10),false,1,1⟩,
 ⟨gp_ 24 22 true (mo_ 3),(List.range 10),false,1,1⟩,
 ⟨gp_ 25 22 true (bk_ .sub 24 .i64 1),[0,1,2,3,4,5,6,7,8,9,11],false,1,1⟩,
 ⟨gp_ 26 22 true (.iadrs 3 (.tmp 23) (.tmp 25)),(List.range 13),false,1,1⟩,
 ⟨gp_ 27 22 true (lt_ 3 26),(List.range 14),false,1,1⟩,
 ⟨gp_ 28 22 true (mo_ 0),(List.range 10),false,1,1⟩,
 ⟨gp_ 29 22 true (mo_ 3),(List.range 10),false,1,1⟩,
 ⟨gp_ 30 22 true (.iadrs 3 (.tmp 28) (.tmp 29)),[0,1,2,3,4,5,6,7,8,9,15,16],false,1,1⟩,
 ⟨gp_ 31 22 true (lt_ 3 30),[0,1,2,3,4,5,6,7,8,9,15,16,17],false,1,1⟩,
 ⟨gc_ 32 22 true 133 [(.tmp 27),(.tmp 31)],(List.range 19),true,0,0⟩,
 ⟨gp_ 33 22 true (no_ 32),(List.range 20),false,2,2⟩,
 ⟨gp_ 34 19 false (pa_ 22 33),(List.range 21),false,2,2⟩,
 ⟨pr_ 35 (po_ 19 34),(List.range 22),false,2,2⟩])
 (.cond (.tmp 35)
 (sq_ [pr_ 2 mf_]
 .ret)
 .skip)))
 (.ops [mv_ 11 3,
 pr_ 12 (bk_ .add 11 .i64 1),
 mv_ 3 12]))))))
 (sq_ [pr_ 2 mt_]
 .ret))))
def o105:List Tmp:=[]
def r105:List RV:=[.tmp 2]
theorem t105:Text Tryz.prog 105 o105 c105 r105 36:=.mk_ Tryz.f105 rfl
def c106:ACode :=
 (sq_ [pr_ 1 (.boxr (.tmp 0)),
 pr_ 2 mf_]
 (sq_ [pr_ 3 (fa_ 0 1),
 pr_ 4 (lf_ 1 3),
 pr_ 5 (no_ 4),
 mv_ 6 5,
 gp_ 7 6 true (fa_ 1 1),
 gp_ 8 6 true (lf_ 1 7),
 gc_ 9 6 true 83 [(.tmp 8)],
 gp_ 10 6 true (bk_ .eql 9 .u64 0),
 pr_ 11 (pa_ 6 10),
 mv_ 12 11,
 gp_ 13 12 true (fa_ 2 1),
 gp_ 14 12 true (lf_ 1 13),
 gc_ 15 12 true 83 [(.tmp 14)],
 gp_ 16 12 true (bk_ .eql 15 .u64 0),
 pr_ 17 (pa_ 12 16),
 mv_ 2 17]
 .ret))
def o106:List Tmp:=[]
def r106:List RV:=[.tmp 2]
theorem t106:Text Tryz.prog 106 o106 c106 r106 18:=.mk_ Tryz.f106 rfl
def c107:ACode :=
 (sq_ [pr_ 1 (.boxr (.tmp 0)),
 pr_ 2 mf_]
 (.seq (sq_ [pr_ 3 (fa_ 0 1),
 pr_ 4 (lf_ 1 3)]
 (.cond (.tmp 4)
 (sq_ [pr_ 5 (fa_ 1 1),
 pr_ 6 (lf_ 1 5),
 c1_ 7 83 6,
 pr_ 8 (bk_ .eql 7 .u64 0),
 mv_ 9 8,
 gp_ 10 9 true (fa_ 2 1),
 gp_ 11 9 true (lf_ 1 10),
 gc_ 12 9 true 83 [(.tmp 11)],
 gp_ 13 9 true (bk_ .eql 12 .u64 0),
 pr_ 14 (pa_ 9 13),
 mv_ 2 14]
 .ret)
 .skip))
 (sq_ [pr_ 15 (fa_ 1 1),
 pr_ 16 (lf_ 1 15),
 pr_ 17 (fa_ 2 1),
 pr_ 18 (lf_ 1 17),
 pr_ 19 (bt_ .leq 16 18),
 mv_ 2 19]
 .ret)))
def o107:List Tmp:=[]
def r107:List RV:=[.tmp 2]
theorem t107:Text Tryz.prog 107 o107 c107 r107 20:=.mk_ Tryz.f107 rfl
def c108:ACode :=
 (sq_ [pr_ 1 (.boxr (.tmp 0)),
 pr_ 2 mf_]
 (.seq (sq_ [pr_ 4 (fa_ 0 1),
 pr_ 5 (lf_ 1 4),
 pr_ 6 (.lenv (.tmp 5)),
 pr_ 7 (bk_ .eql 6 .i64 0),
 mv_ 8 7,
 gp_ 9 8 false (fa_ 1 1),
 gp_ 10 8 false (lf_ 1 9),
 gp_ 11 8 false (.lenv (.tmp 10)),
 gp_ 12 8 false (bk_ .eql 11 .i64 0),
 pr_ 13 (po_ 8 12),
 mv_ 14 13,
 gp_ 15 14 false (fa_ 0 1),
 gp_ 16 14 false (lf_ 1 15),
 gc_ 17 14 false 105 [(.tmp 16)],
 gp_ 18 14 false (no_ 17),
 pr_ 19 (po_ 14 18),
 mv_ 20 19,
 gp_ 21 20 false (fa_ 1 1),
 gp_ 22 20 false (lf_ 1 21),
 gc_ 23 20 false 105 [(.tmp 22)],
 gp_ 24 20 false (no_ 23),
 pr_ 25 (po_ 20 24),
 mv_ 26 25,
 gp_ 27 26 false (fa_ 2 1),
 gp_ 28 26 false (lt_ 3 27),
 gc_ 29 26 false 107 [(.tmp 28)],
 gp_ 30 26 false (no_ 29),
 pr_ 31 (po_ 26 30),
 mv_ 32 31,
 gp_ 33 32 false (fa_ 5 1),
 gp_ 34 32 false (lf_ 1 33),
 gp_ 35 32 false (.lenv (.tmp 34)),
 gp_ 36 32 false (bk_ .gtr 35 .i64 4),
 pr_ 37 (po_ 32 36)]
 (.cond (.tmp 37)
 (sq_ [pr_ 2 mf_]
 .ret)
 .skip))
 (.seq (sq_ [pr_ 3 (mi_ .i64 0)]
 (.block 0 (.loop [0,2,4,5,6,7,8,9,10,11,12,13,14,15,16,17,18,19,20,21,22,23,24,25,26,27,28,29,30,31,32,33,34,35,36,37,38,39,40,41,42,43,44,45,46,47,48,49,50,51,52,53,54,55,56,57,58,59,60,61,62,63,64,65,66,67,68,69] (.seq (sq_ [mv_ 38 3,
 pr_ 39 (fa_ 5 1),
 pr_ 40 (lf_ 1 39),
 pr_ 41 (.lenv (.tmp 40)),
 pr_ 42 (bt_ .lss 38 41)]
 (.cond (.tmp 42)
 .skip
 (.exit 0)))
 (.seq (.block 1 (.seq (.draw [⟨pr_ 45 (fa_ 5 1),[],false,0,0⟩,
 ⟨pr_ 46 (lf_ 1 45),[0],false,0,0⟩,
 ⟨mv_ 47 3,[],false,0,0⟩,
 ⟨pr_ 48 (.iadrs 1 (.tmp 46) (.tmp 47)),[0,1,2],false,0,0⟩,
 ⟨pr_ 49 (lf_ 1 48),[0,1,2,3],false,0,0⟩,
 ⟨c1_ 50 134 49,[0,1,2,3,4],true,0,0⟩,
 ⟨pr_ 51 (no_ 50),(List.range 6),false,1,1⟩,
 ⟨mv_ 52 51,(List.range 7),false,1,1⟩,
 ⟨gp_ 53 52 false (mo_ 3),(List.range 8),false,1,1⟩,
 ⟨gp_ 54 52 false (bk_ .gtr 53 .i64 0),(List.range 9),false,1,1⟩,
 ⟨gp_ 55 52 false (mo_ 54),(List.range 10),false,1,1⟩,
 ⟨gp_ 56 55 true (fa_ 5 1),(List.range 11),false,1,1⟩,
 ⟨gp_ 57 55 true (lf_ 1 56),(List.range 12),false,1,1⟩,
 ⟨gp_ 58 55 true (mo_ 3),(List.range 11),false,1,1⟩,
 ⟨gp_ 59 55 true (.iadrs 1 (.tmp 57) (.tmp 58)),(List.range 14),false,1,1⟩,
 ⟨gp_ 60 55 true (lf_ 1 59),(List.range 15),false,1,1⟩,
 ⟨gp_ 61 55 true (fa_ 5 1),(List.range 11),false,1,1⟩,
 ⟨gp_ 62 55 true (lf_ 1 61),[0,1,2,3,4,5,6,7,8,9,10,16],false,1,1⟩,
 ⟨gp_ 63 55 true (mo_ 3),(List.range 11),false,1,1⟩,
 ⟨gp_ 64 55 true (bk_ .sub 63 .i64 1),[0,1,2,3,4,5,6,7,8,9,10,18],false,1,1⟩,
 ⟨gp_ 65 55 true (.iadrs 1 (.tmp 62) (.tmp 64)),[0,1,2,3,4,5,6,7,8,9,10,16,17,18,19],false,1,1⟩,
 ⟨gp_ 66 55 true (lf_ 1 65),[0,1,2,3,4,5,6,7,8,9,10,16,17,18,19,20],false,1,1⟩,
 ⟨gp_ 67 55 true (bt_ .leq 60 66),(List.range 22),false,1,1⟩,
 ⟨gp_ 68 52 false (pa_ 55 67),(List.range 23),false,1,1⟩,
 ⟨pr_ 69 (po_ 52 68),(List.range 24),false,1,1⟩])
 (.cond (.tmp 69)
 (sq_ [pr_ 2 mf_]
 .ret)
 .skip)))
 (.ops [mv_ 43 3,
 pr_ 44 (bk_ .add 43 .i64 1),
 mv_ 3 44]))))))
 (sq_ [pr_ 2 mt_]
 .ret))))
def o108:List Tmp:=[]
def r108:List RV:=[.tmp 2]
theorem t108:Text Tryz.prog 108 o108 c108 r108 70:=.mk_ Tryz.f108 rfl
def c109:ACode :=
 (sq_ [pr_ 1 (.boxr (.tmp 0)),
 pr_ 2 mf_]
 (sq_ [pr_ 3 (fa_ 0 1),
 pr_ 4 (lf_ 1 3),
 pr_ 5 (.lenv (.tmp 4)),
 pr_ 6 (bk_ .eql 5 .i64 0),
 mv_ 7 6,
 gp_ 8 7 true (fa_ 1 1),
 gp_ 9 7 true (lf_ 1 8),
 gp_ 10 7 true (.lenv (.tmp 9)),
 gp_ 11 7 true (bk_ .eql 10 .i64 0),
 pr_ 12 (pa_ 7 11),
 mv_ 13 12,
 gp_ 14 13 true (fa_ 2 1),
 gp_ 15 13 true (lt_ 3 14),
 gc_ 16 13 true 106 [(.tmp 15)],
 pr_ 17 (pa_ 13 16),
 mv_ 18 17,
 gp_ 19 18 true (fa_ 5 1),
 gp_ 20 18 true (lf_ 1 19),
 gp_ 21 18 true (.lenv (.tmp 20)),
 gp_ 22 18 true (bk_ .eql 21 .i64 0),
 pr_ 23 (pa_ 18 22),
 mv_ 2 23]
 .ret))
def o109:List Tmp:=[]
def r109:List RV:=[.tmp 2]
theorem t109:Text Tryz.prog 109 o109 c109 r109 24:=.mk_ Tryz.f109 rfl
def c110:ACode :=
 (sq_ [pr_ 2 mf_]
 (.seq (sq_ [mv_ 4 0,
 pr_ 5 (.lenv (.tmp 4)),
 pr_ 6 (bk_ .lss 5 .i64 1),
 mv_ 7 6,
 gp_ 8 7 false (mo_ 0),
 gp_ 9 7 false (.lenv (.tmp 8)),
 gp_ 10 7 false (bk_ .gtr 9 .i64 6),
 pr_ 11 (po_ 7 10)]
 (.cond (.tmp 11)
 (sq_ [pr_ 2 mf_]
 .ret)
 .skip))
 (.seq (sq_ [pr_ 3 (mi_ .i64 0)]
 (.block 0 (.loop [1,2,4,5,6,7,8,9,10,11,12,13,14,15,16,17,18,19,20,21,22,23,24,25,26,27,28,29,30,31,32,33,34,35,36,37,38,39,40,41,42,43,44,45,46,47,48,49,50,51] (.seq (sq_ [mv_ 12 3,
 mv_ 13 0,
 pr_ 14 (.lenv (.tmp 13)),
 pr_ 15 (bt_ .lss 12 14)]
 (.cond (.tmp 15)
 .skip
 (.exit 0)))
 (.seq (.block 1 (.seq (.draw [⟨mv_ 18 0,[],false,0,0⟩,
 ⟨mv_ 19 3,[],false,0,0⟩,
 ⟨pr_ 20 (.iadrs 2 (.tmp 18) (.tmp 19)),[0,1],false,0,0⟩,
 ⟨pr_ 21 (fa_ 0 20),[0,1,2],false,0,0⟩,
 ⟨pr_ 22 (lf_ 1 21),[0,1,2,3],false,0,0⟩,
 ⟨c1_ 23 134 22,[0,1,2,3,4],true,0,0⟩,
 ⟨pr_ 24 (no_ 23),(List.range 6),false,1,1⟩,
 ⟨mv_ 25 24,(List.range 7),false,1,1⟩,
 ⟨gp_ 26 25 false (mo_ 0),(List.range 8),false,1,1⟩,
 ⟨gp_ 27 25 false (mo_ 3),(List.range 8),false,1,1⟩,
 ⟨gp_ 28 25 false (.iadrs 2 (.tmp 26) (.tmp 27)),(List.range 10),false,1,1⟩,
 ⟨gp_ 29 25 false (fa_ 1 28),(List.range 11),false,1,1⟩,
 ⟨gp_ 30 25 false (lf_ 1 29),(List.range 12),false,1,1⟩,
 ⟨gc_ 31 25 false 135 [(.tmp 30)],(List.range 13),true,0,0⟩,
 ⟨gp_ 32 25 false (no_ 31),(List.range 14),false,2,2⟩,
 ⟨pr_ 33 (po_ 25 32),(List.range 15),false,2,2⟩,
 ⟨mv_ 34 33,(List.range 16),false,2,2⟩,
 ⟨gp_ 35 34 false (mo_ 3),(List.range 17),false,2,2⟩,
 ⟨gp_ 36 34 false (bk_ .gtr 35 .i64 0),(List.range 18),false,2,2⟩,
 ⟨gp_ 37 34 false (mo_ 36),(List.range 19),false,2,2⟩,
 ⟨gp_ 38 37 true (mo_ 0),(List.range 20),false,2,2⟩,
 ⟨gp_ 39 37 true (mo_ 3),(List.range 20),false,2,2⟩,
 ⟨gp_ 40 37 true (.iadrs 2 (.tmp 38) (.tmp 39)),(List.range 22),false,2,2⟩,
 ⟨gp_ 41 37 true (fa_ 0 40),(List.range 23),false,2,2⟩,
 ⟨gp_ 42 37 true (lf_ 1 41),(List.range 24),false,2,2⟩,
 ⟨gp_ 43 37 true (mo_ 0),(List.range 20),false,2,2⟩,
 ⟨gp_ 44 37 true (mo_ 3),(List.range 20),false,2,2⟩,
 ⟨gp_ 45 37 true (bk_ .sub 44 .i64 1),[0,1,2,3,4,5,6,7,8,9,10,11,12,13,14,15,16,17,18,19,26],false,2,2⟩,
 ⟨gp_ 46 37 true (.iadrs 2 (.tmp 43) (.tmp 45)),[0,1,2,3,4,5,6,7,8,9,10,11,12,13,14,15,16,17,18,19,25,26,27],false,2,2⟩,
 ⟨gp_ 47 37 true (fa_ 0 46),[0,1,2,3,4,5,6,7,8,9,10,11,12,13,14,15,16,17,18,19,25,26,27,28],false,2,2⟩,
 ⟨gp_ 48 37 true (lf_ 1 47),[0,1,2,3,4,5,6,7,8,9,10,11,12,13,14,15,16,17,18,19,25,26,27,28,29],false,2,2⟩,
 ⟨gp_ 49 37 true (bt_ .leq 42 48),(List.range 31),false,2,2⟩,
 ⟨gp_ 50 34 false (pa_ 37 49),(List.range 32),false,2,2⟩,
 ⟨pr_ 51 (po_ 34 50),(List.range 33),false,2,2⟩])
 (.cond (.tmp 51)
 (sq_ [pr_ 2 mf_]
 .ret)
 .skip)))
 (.ops [mv_ 16 3,
 pr_ 17 (bk_ .add 16 .i64 1),
 mv_ 3 17]))))))
 (sq_ [pr_ 2 mt_]
 .ret))))
def o110:List Tmp:=[]
def r110:List RV:=[.tmp 2]
theorem t110:Text Tryz.prog 110 o110 c110 r110 52:=.mk_ Tryz.f110 rfl
def c112:ACode :=
 (sq_ [pr_ 1 (.boxr (.tmp 0)),
 pr_ 2 (.allocm [.pl (.int .i64 0),.pl (.string .empty),.pl (.string .empty)])]
 (.seq (.draw [⟨pr_ 4 (fa_ 0 1),[],false,0,1⟩,
 ⟨pr_ 5 (lf_ 1 4),[0],false,0,1⟩,
 ⟨cl_ 6 85 [(.tmp 5),(.const (.int .i64 1)),(.const (.int .i64 4))],[0,1],false,0,1⟩,
 ⟨pr_ 7 (fa_ 1 1),[],false,0,1⟩,
 ⟨pr_ 8 (lf_ 1 7),[3],false,0,1⟩,
 ⟨c1_ 9 114 8,[0,1,2,3,4],false,0,1⟩,
 ⟨pr_ 10 (fa_ 2 1),[],false,0,1⟩,
 ⟨pr_ 11 (lf_ 1 10),[6],false,0,1⟩,
 ⟨c1_ 12 136 11,(List.range 8),false,0,1⟩,
 ⟨pr_ 13 (.build [.pl (.int .i64 0),.pl (.string .empty),.pl (.string .empty)] [(0,1,(.tmp 6)),(1,1,(.tmp 9)),(2,1,(.tmp 12))]),(List.range 9),false,0,1⟩,
 ⟨pr_ 3 (.allocm [.pl (.int .i64 0),.pl (.string .empty),.pl (.string .empty)]),[],true,0,0⟩,
 ⟨st_ (so_ 3 3 13),(List.range 11),true,0,0⟩])
 (.seq (sq_ [pr_ 14 (fa_ 0 3),
 pr_ 15 (lf_ 1 14),
 pr_ 16 (bk_ .lss 15 .i64 3)]
 (.cond (.tmp 16)
 (sq_ [pr_ 17 (fa_ 2 1),
 pr_ 18 (lf_ 1 17),
 c1_ 19 115 18,
 pr_ 20 (fa_ 2 3),
 st_ (so_ 1 20 19)]
 (sq_ [pr_ 21 (fa_ 2 1),
 pr_ 22 (lf_ 1 21),
 pr_ 23 (bk_ .lss 22 .i64 0)]
 (.cond (.tmp 23)
 (.ops [pr_ 24 (fa_ 2 3),
 st_ (.store 1 (.tmp 24) (.const (.string (ByteArray.mk #[]))))])
 .skip)))
 .skip))
 (sq_ [pr_ 25 (lt_ 3 3),
 st_ (so_ 3 2 25)]
 .ret))))
def o112:List Tmp:=[2,3]
def r112:List RV:=[.cell 2 3 true]
theorem t112:Text Tryz.prog 112 o112 c112 r112 26:=.mk_ Tryz.f112 rfl
def c113:ACode :=
 (sq_ [pr_ 2 (.boxr (.tmp 0)),
 pr_ 3 (.boxr (.tmp 1)),
 pr_ 4 mf_]
 (.seq (sq_ [pr_ 5 (fa_ 1 2),
 pr_ 6 (lf_ 1 5),
 pr_ 7 (fa_ 1 3),
 pr_ 8 (lf_ 1 7),
 pr_ 9 (bt_ .neq 6 8)]
 (.cond (.tmp 9)
 (sq_ [pr_ 10 (fa_ 1 2),
 pr_ 11 (lf_ 1 10),
 pr_ 12 (fa_ 1 3),
 pr_ 13 (lf_ 1 12),
 pr_ 14 (bt_ .lss 11 13),
 mv_ 4 14]
 .ret)
 .skip))
 (.seq (sq_ [pr_ 15 (fa_ 0 2),
 pr_ 16 (lf_ 1 15),
 pr_ 17 (fa_ 0 3),
 pr_ 18 (lf_ 1 17),
 pr_ 19 (bt_ .neq 16 18)]
 (.cond (.tmp 19)
 (sq_ [pr_ 20 (fa_ 0 2),
 pr_ 21 (lf_ 1 20),
 pr_ 22 (fa_ 0 3),
 pr_ 23 (lf_ 1 22),
 pr_ 24 (bt_ .lss 21 23),
 mv_ 4 24]
 .ret)
 .skip))
 (sq_ [pr_ 25 (fa_ 2 2),
 pr_ 26 (lf_ 1 25),
 pr_ 27 (fa_ 2 3),
 pr_ 28 (lf_ 1 27),
 pr_ 29 (bt_ .lss 26 28),
 mv_ 4 29]
 .ret))))
def o113:List Tmp:=[]
def r113:List RV:=[.tmp 4]
theorem t113:Text Tryz.prog 113 o113 c113 r113 30:=.mk_ Tryz.f113 rfl
def c114:ACode :=
 (sq_ [pr_ 2 (.mov (.const (.string (ByteArray.mk #[]))))]
 (sq_ [pr_ 3 (.build [.pl (.string .empty),.pl (.string .empty),.pl (.string .empty),.pl (.string .empty),.pl (.string .empty)] [(0,1,(.const (.string (ByteArray.mk #[115,101,118])))),(1,1,(.const (.string (ByteArray.mk #[106,111,98])))),(2,1,(.const (.string (ByteArray.mk #[104,111,115,116])))),(3,1,(.const (.string (ByteArray.mk #[95,120])))),(4,1,(.const (.string (ByteArray.mk #[90,111,110,101,57]))))]),
 mv_ 4 0,
 cl_ 5 85 [(.tmp 4),(.const (.int .i64 0)),(.const (.int .i64 4))],
 pr_ 6 (.idxa 1 5 false (.tmp 3) (.tmp 5)),
 mv_ 2 6]
 .ret))
def o114:List Tmp:=[]
def r114:List RV:=[.tmp 2]
theorem t114:Text Tryz.prog 114 o114 c114 r114 7:=.mk_ Tryz.f114 rfl
def c115:ACode :=
 (sq_ [pr_ 2 (.mov (.const (.string (ByteArray.mk #[]))))]
 (sq_ [pr_ 3 (.build [.pl (.string .empty),.pl (.string .empty),.pl (.string .empty),.pl (.string .empty),.pl (.string .empty),.pl (.string .empty),.pl (.string .empty)] [(0,1,(.const (.string (ByteArray.mk #[97])))),(1,1,(.const (.string (ByteArray.mk #[98])))),(2,1,(.const (.string (ByteArray.mk #[99,114,105,116])))),(3,1,(.const (.string (ByteArray.mk #[119,97,114,110])))),(4,1,(.const (.string (ByteArray.mk #[97,98])))),(5,1,(.const (.string (ByteArray.mk #[0,255])))),(6,1,(.const (.string (ByteArray.mk #[97,98,97,98,97,98,97,98,97,98,97,98,97,98,97,98,97,98,97,98,97,98,97,98]))))]),
 mv_ 4 0,
 cl_ 5 85 [(.tmp 4),(.const (.int .i64 0)),(.const (.int .i64 6))],
 pr_ 6 (.idxa 1 7 false (.tmp 3) (.tmp 5)),
 mv_ 2 6]
 .ret))
def o115:List Tmp:=[]
def r115:List RV:=[.tmp 2]
theorem t115:Text Tryz.prog 115 o115 c115 r115 7:=.mk_ Tryz.f115 rfl
def c116:ACode :=
 (sq_ [pr_ 4 (.mov (.const (.string (ByteArray.mk #[]))))]
 (.seq (sq_ [pr_ 5 (mi_ .i64 0)]
 (.block 0 (.loop [2,3,4,6,7,8,9,10,11,12,13,14,15,16,17,18,19,20,21,22,23] (.seq (sq_ [mv_ 6 5,
 mv_ 7 0,
 pr_ 8 (.lenv (.tmp 7)),
 pr_ 9 (bt_ .lss 6 8)]
 (.cond (.tmp 9)
 .skip
 (.exit 0)))
 (.seq (.block 1 (sq_ [mv_ 12 0,
 mv_ 13 5,
 pr_ 14 (.iadrs 2 (.tmp 12) (.tmp 13)),
 pr_ 15 (fa_ 0 14),
 pr_ 16 (lf_ 1 15),
 mv_ 17 1,
 pr_ 18 (bt_ .eql 16 17)]
 (.cond (.tmp 18)
 (sq_ [mv_ 19 0,
 mv_ 20 5,
 pr_ 21 (.iadrs 2 (.tmp 19) (.tmp 20)),
 pr_ 22 (fa_ 1 21),
 pr_ 23 (lf_ 1 22),
 mv_ 4 23]
 .ret)
 .skip)))
 (.ops [mv_ 10 5,
 pr_ 11 (bk_ .add 10 .i64 1),
 mv_ 5 11]))))))
 (sq_ [pr_ 4 (.mov (.const (.string (ByteArray.mk #[]))))]
 .ret)))
def o116:List Tmp:=[]
def r116:List RV:=[.tmp 4]
theorem t116:Text Tryz.prog 116 o116 c116 r116 24:=.mk_ Tryz.f116 rfl
def c117:ACode :=
 (sq_ [pr_ 2 (.mov (.const (.slice none 0 0))),
 pr_ 3 mf_]
 (.seq (.after (.after (.after (.ops [pr_ 4 (.mov (.const (.slice none 0 0)))]) (.own 4 2)) (.shut 4)) (.keep 0))
 (.seq (sq_ [pr_ 5 (mi_ .i64 0)]
 (.block 0 (.loop [1,2,3,6,7,8,9,10,11,12,13,14,15,16,17,18,19,20,21,22,23,24,25,26,27,28,29,30,31,32,33,34,35,36,37,38,39,40,41,42,43,44,45,46,47,48,49,50] (.seq (sq_ [mv_ 7 5,
 mv_ 8 0,
 pr_ 9 (.lenv (.tmp 8)),
 pr_ 10 (bt_ .lss 7 9)]
 (.cond (.tmp 10)
 .skip
 (.exit 0)))
 (.seq (.block 1 (sq_ [mv_ 13 4,
 pr_ 14 (.lenv (.tmp 13)),
 mv_ 6 14]
 (.seq (.block 2 (.loop [1,2,3,7,8,9,10,11,12,13,14,15,16,17,18,19,20,21,22,23,24,25,26,27,28,29,30,31,32,33,34,35,36,37,38,39,40,41,42,43,44,45,46,47,48,49,50] (.seq (.seq (.draw [⟨mv_ 15 6,[],false,0,0⟩,
 ⟨pr_ 16 (bk_ .gtr 15 .i64 0),[0],false,0,0⟩,
 ⟨mv_ 17 16,[0,1],false,0,0⟩,
 ⟨gp_ 18 17 true (mo_ 0),[0,1,2],false,0,0⟩,
 ⟨gp_ 19 17 true (mo_ 5),[0,1,2],false,0,0⟩,
 ⟨gp_ 20 17 true (.iadrs 2 (.tmp 18) (.tmp 19)),[0,1,2,3,4],false,0,0⟩,
 ⟨gp_ 21 17 true (fa_ 0 20),(List.range 6),false,0,0⟩,
 ⟨gp_ 22 17 true (lf_ 1 21),(List.range 7),false,0,0⟩,
 ⟨gp_ 23 17 true (mo_ 4),[0,1,2],false,0,0⟩,
 ⟨gp_ 24 17 true (mo_ 6),[0,1,2],false,0,0⟩,
 ⟨gp_ 25 17 true (bk_ .sub 24 .i64 1),[0,1,2,9],false,0,0⟩,
 ⟨gp_ 26 17 true (.iadrs 2 (.tmp 23) (.tmp 25)),[0,1,2,8,9,10],false,0,0⟩,
 ⟨gp_ 27 17 true (fa_ 0 26),[0,1,2,8,9,10,11],false,0,0⟩,
 ⟨gp_ 28 17 true (lf_ 1 27),[0,1,2,8,9,10,11,12],false,0,0⟩,
 ⟨gp_ 29 17 true (bt_ .lss 22 28),(List.range 14),false,0,0⟩,
 ⟨pr_ 30 (pa_ 17 29),(List.range 15),false,0,0⟩])
 (.cond (.tmp 30)
 .skip
 (.exit 2)))
 (.block 3 (.ops [mv_ 31 6,
 pr_ 32 (bk_ .sub 31 .i64 1),
 mv_ 6 32])))))
 (.after (.after (.after (.draw [⟨mv_ 33 4,[],false,0,0⟩,
 ⟨mv_ 34 6,[],false,0,0⟩,
 ⟨pr_ 35 (.slcv 2 (.tmp 33) none (some (.tmp 34))),[0,1],false,0,0⟩,
 ⟨pr_ 36 (.app 2 (.const (.slice none 0 0)) (.tmp 35)),[0,1,2],true,0,0⟩,
 ⟨mv_ 37 0,[],false,0,1⟩,
 ⟨mv_ 38 5,[],false,0,1⟩,
 ⟨pr_ 39 (.iadrs 2 (.tmp 37) (.tmp 38)),[4,5],false,0,1⟩,
 ⟨pr_ 40 (lt_ 2 39),[4,5,6],false,0,1⟩,
 ⟨pr_ 41 (.bsl false 2 true 1 [.pl (.string .empty),.pl (.string .empty)] [(0,2,(.tmp 40))]),[4,5,6,7],false,0,1⟩,
 ⟨pr_ 42 (.app 2 (.tmp 36) (.tmp 41)),(List.range 9),true,0,0⟩,
 ⟨mv_ 43 4,[],false,0,2⟩,
 ⟨mv_ 44 6,[],false,0,2⟩,
 ⟨pr_ 45 (.slcv 2 (.tmp 43) (some (.tmp 44)) none),[10,11],false,0,2⟩,
 ⟨pr_ 46 (.app 2 (.tmp 42) (.tmp 45)),(List.range 13),true,0,0⟩,
 ⟨mv_ 4 46,(List.range 14),false,3,3⟩]) (.shut 4)) (.clear [36,42,46])) (.keep 0)))))
 (.ops [mv_ 11 5,
 pr_ 12 (bk_ .add 11 .i64 1),
 mv_ 5 12]))))))
 (.seq (sq_ [mv_ 47 4,
 c1_ 48 110 47,
 pr_ 49 (no_ 48)]
 (.cond (.tmp 49)
 (sq_ [pr_ 2 (.mov (.const (.slice none 0 0))),
 pr_ 3 mf_]
 (.ghost (.shut 2) .ret))
 .skip))
 (sq_ [mv_ 50 4,
 mv_ 2 50,
 pr_ 3 mt_]
 (.ghost (.shut 2) .ret))))))
def o117:List Tmp:=[]
def r117:List RV:=[.tmp 2,.tmp 3]
theorem t117:Text Tryz.prog 117 o117 c117 r117 51:=.mk_ Tryz.f117 rfl
def c119:ACode :=
 (sq_ [pr_ 2 (mi_ .i64 0),
 pr_ 3 mf_]
 (.seq (sq_ [mv_ 4 0]
 (.block 0 (.seq (sq_ [pr_ 6 (bk_ .eql 4 .i64 1),
 mv_ 5 6]
 (.cond (.tmp 5)
 .skip
 (sq_ [pr_ 7 (bk_ .eql 4 .i64 14),
 mv_ 5 7]
 (.cond (.tmp 5)
 .skip
 (sq_ [pr_ 8 (bk_ .eql 4 .i64 16),
 mv_ 5 8]
 (.cond (.tmp 5)
 .skip
 (.ops [pr_ 9 (bk_ .eql 4 .i64 17),
 mv_ 5 9])))))))
 (.cond (.tmp 5)
 (sq_ [pr_ 2 (mi_ .i64 0),
 pr_ 3 mt_]
 .ret)
 (.seq (sq_ [pr_ 11 (bk_ .eql 4 .i64 2),
 mv_ 10 11]
 (.cond (.tmp 10)
 .skip
 (sq_ [pr_ 12 (bk_ .eql 4 .i64 7),
 mv_ 10 12]
 (.cond (.tmp 10)
 .skip
 (sq_ [pr_ 13 (bk_ .eql 4 .i64 10),
 mv_ 10 13]
 (.cond (.tmp 10)
 .skip
 (sq_ [pr_ 14 (bk_ .eql 4 .i64 12),
 mv_ 10 14]
 (.cond (.tmp 10)
 .skip
 (.ops [pr_ 15 (bk_ .eql 4 .i64 15),
 mv_ 10 15])))))))))
 (.cond (.tmp 10)
 (sq_ [pr_ 2 (mi_ .i64 1),
 pr_ 3 mt_]
 .ret)
 (.seq (sq_ [pr_ 17 (bk_ .eql 4 .i64 3),
 mv_ 16 17]
 (.cond (.tmp 16)
 .skip
 (.ops [pr_ 18 (bk_ .eql 4 .i64 4),
 mv_ 16 18])))
 (.cond (.tmp 16)
 (sq_ [pr_ 2 (mi_ .i64 3),
 pr_ 3 mt_]
 .ret)
 (sq_ [pr_ 20 (bk_ .eql 4 .i64 5),
 mv_ 19 20]
 (.cond (.tmp 19)
 (sq_ [pr_ 2 (mi_ .i64 116),
 pr_ 3 mt_]
 .ret)
 (sq_ [pr_ 22 (bk_ .eql 4 .i64 6),
 mv_ 21 22]
 (.cond (.tmp 21)
 (sq_ [pr_ 2 (mi_ .i64 117),
 pr_ 3 mt_]
 .ret)
 (sq_ [pr_ 24 (bk_ .eql 4 .i64 8),
 mv_ 23 24]
 (.cond (.tmp 23)
 (sq_ [pr_ 2 (mi_ .i64 8),
 pr_ 3 mt_]
 .ret)
 (sq_ [pr_ 26 (bk_ .eql 4 .i64 9),
 mv_ 25 26]
 (.cond (.tmp 25)
 (sq_ [pr_ 2 (mi_ .i64 128),
 pr_ 3 mt_]
 .ret)
 (sq_ [pr_ 28 (bk_ .eql 4 .i64 11),
 mv_ 27 28]
 (.cond (.tmp 27)
 (sq_ [pr_ 2 (mi_ .i64 768),
 pr_ 3 mt_]
 .ret)
 (sq_ [pr_ 30 (bk_ .eql 4 .i64 13),
 mv_ 29 30]
 (.cond (.tmp 29)
 (sq_ [pr_ 2 (mi_ .i64 16),
 pr_ 3 mt_]
 .ret)
 .skip))))))))))))))))))))
 (sq_ [pr_ 2 (mi_ .i64 0),
 pr_ 3 mf_]
 .ret)))
def o119:List Tmp:=[]
def r119:List RV:=[.tmp 2,.tmp 3]
theorem t119:Text Tryz.prog 119 o119 c119 r119 31:=.mk_ Tryz.f119 rfl
def c120:ACode :=
 (.ops [mv_ 4 0,
 mv_ 5 1,
 cl_ 6 97 [(.tmp 4),(.const (.int .i64 0)),(.tmp 5)]])
def o120:List Tmp:=[]
def r120:List RV:=[]
theorem t120:Text Tryz.prog 120 o120 c120 r120 7:=.mk_ Tryz.f120 rfl
def c121:ACode :=
 (sq_ [pr_ 4 (.mov (.const (.slice none 0 0)))]
 (sq_ [mv_ 10 1,
 mv_ 11 0,
 c1_ 12 96 11,
 ⟨some 13,none,.call (.tmp 10) [(.tmp 12)]⟩,
 mv_ 9 13,
 pr_ 14 (ex_ 0 9),
 pr_ 15 (ex_ 1 9),
 pr_ 16 (ex_ 2 9),
 mv_ 5 14,
 mv_ 6 15,
 mv_ 7 16]
 (.seq (sq_ [mv_ 17 0,
 mv_ 18 6,
 mv_ 19 7,
 cl_ 20 97 [(.tmp 17),(.tmp 18),(.tmp 19)],
 pr_ 21 (no_ 20)]
 (.cond (.tmp 21)
 (sq_ [pr_ 8 (.mov (.const (.slice none 0 0)))]
 (sq_ [mv_ 22 8,
 mv_ 4 22]
 .ret))
 .skip))
 (sq_ [mv_ 23 5,
 mv_ 4 23]
 .ret))))
def o121:List Tmp:=[]
def r121:List RV:=[.tmp 4]
theorem t121:Text Tryz.prog 121 o121 c121 r121 24:=.mk_ Tryz.f121 rfl
def c122:ACode :=
 (sq_ [pr_ 2 (.mov (.const (.slice none 0 0))),
 pr_ 3 (mi_ .i64 0),
 pr_ 4 mf_]
 (sq_ [mv_ 9 0,
 c1_ 10 59 9,
 mv_ 5 10]
 (.seq (.after (.ops [pr_ 6 (.mov (.const (.slice none 0 0)))]) (.own 6 3))
 (.seq (sq_ [mv_ 11 5,
 cl_ 12 60 [(.tmp 11),(.const (.int .u64 5))],
 pr_ 13 (mi_ .u64 0)]
 (.block 0 (.loop [0,1,2,3,4,7,8,9,10,11,14,15,16,17,18,19,20,21,22,23,24,25,26,27,28,29,30,31,32,33,34,35,36,37,38,39] (sq_ [pr_ 14 (bt_ .lss 13 12)]
 (.seq (.cond (.tmp 14)
 .skip
 (.exit 0))
 (.seq (.block 1 (.ops [mv_ 15 6,
 mv_ 16 5,
 c1_ 17 98 16,
 pr_ 18 (.convi .i64 (.tmp 17)),
 mv_ 19 5,
 cl_ 20 62 [(.tmp 19),(.const (.int .i64 12))],
 mv_ 21 5,
 cl_ 22 62 [(.tmp 21),(.const (.int .i64 40))],
 pr_ 23 (.build [.pl (.int .i64 0),.pl (.string .empty),.pl (.string .empty)] [(0,1,(.tmp 18)),(1,1,(.tmp 20)),(2,1,(.tmp 22))]),
 pr_ 24 (.bsl false 3 true 1 [.pl (.int .i64 0),.pl (.string .empty),.pl (.string .empty)] [(0,3,(.tmp 23))]),
 pr_ 25 (.app 3 (.tmp 15) (.tmp 24)),
 mv_ 6 25]))
 (.ops [pr_ 26 (bk_ .add 13 .u64 1),
 mv_ 13 26])))))))
 (.seq (.ghost (.shut 6) (.ops [mv_ 27 5,
 mv_ 28 6,
 c1_ 29 143 28,
 cl_ 30 120 [(.tmp 27),(.tmp 29)]]))
 (sq_ [mv_ 32 5,
 c1_ 33 63 32,
 mv_ 31 33,
 pr_ 34 (ex_ 0 31),
 pr_ 35 (ex_ 1 31),
 mv_ 7 34,
 mv_ 8 35]
 (.seq (sq_ [mv_ 36 8,
 pr_ 37 (no_ 36)]
 (.cond (.tmp 37)
 (sq_ [pr_ 2 (.mov (.const (.slice none 0 0))),
 pr_ 3 (mi_ .i64 0),
 pr_ 4 mf_]
 (.ghost (.shut 2) .ret))
 .skip))
 (sq_ [mv_ 38 6,
 mv_ 39 7,
 mv_ 2 38,
 mv_ 3 39,
 pr_ 4 mt_]
 (.ghost (.shut 2) .ret)))))))))
def o122:List Tmp:=[]
def r122:List RV:=[.tmp 2,.tmp 3,.tmp 4]
theorem t122:Text Tryz.prog 122 o122 c122 r122 40:=.mk_ Tryz.f122 rfl
def c123:ACode :=
 (sq_ [pr_ 4 (.allocm [.pl (.bool false),.pl (.float .f64 0),.pl (.float .f64 0)])]
 (sq_ [mv_ 10 1,
 mv_ 11 0,
 c1_ 12 96 11,
 ⟨some 13,none,.call (.tmp 10) [(.tmp 12)]⟩,
 mv_ 9 13,
 pr_ 14 (ex_ 0 9),
 pr_ 15 (ex_ 1 9),
 pr_ 16 (ex_ 2 9),
 ⟨some 5,none,.fresh 3 5 (.tmp 14)⟩,
 mv_ 6 15,
 mv_ 7 16]
 (.seq (sq_ [mv_ 17 0,
 mv_ 18 6,
 mv_ 19 7,
 cl_ 20 97 [(.tmp 17),(.tmp 18),(.tmp 19)],
 pr_ 21 (no_ 20)]
 (.cond (.tmp 21)
 (sq_ [pr_ 8 (.allocm [.pl (.bool false),.pl (.float .f64 0),.pl (.float .f64 0)])]
 (sq_ [pr_ 22 (lt_ 3 8),
 st_ (so_ 3 4 22)]
 .ret))
 .skip))
 (sq_ [pr_ 23 (lt_ 3 5),
 st_ (so_ 3 4 23)]
 .ret))))
def o123:List Tmp:=[4]
def r123:List RV:=[.cell 4 3 true]
theorem t123:Text Tryz.prog 123 o123 c123 r123 24:=.mk_ Tryz.f123 rfl
def c124:ACode :=
 (sq_ [pr_ 2 (.allocm [.pl (.bool false),.pl (.float .f64 0),.pl (.float .f64 0)]),
 pr_ 3 (mi_ .i64 0),
 pr_ 4 mf_]
 (sq_ [mv_ 9 0,
 c1_ 10 59 9,
 mv_ 5 10]
 (sq_ [pr_ 6 (.allocm [.pl (.bool false),.pl (.float .f64 0),.pl (.float .f64 0)])]
 (.seq (sq_ [mv_ 11 5,
 c1_ 12 98 11]
 (.block 0 (sq_ [pr_ 16 (bk_ .eql 12 .u8 0),
 mv_ 15 16]
 (.cond (.tmp 15)
 (.ops [mv_ 17 5,
 c1_ 18 144 17,
 mv_ 19 5,
 c1_ 20 144 19,
 pr_ 21 (fa_ 1 6),
 st_ (so_ 1 21 18),
 pr_ 22 (fa_ 2 6),
 st_ (so_ 1 22 20)])
 (sq_ [pr_ 24 (bk_ .eql 12 .u8 1),
 mv_ 23 24]
 (.cond (.tmp 23)
 (.ops [pr_ 25 (fa_ 0 6),
 st_ (.store 1 (.tmp 25) (.const (.bool true)))])
 (.ops [mv_ 13 5,
 cl_ 14 120 [(.tmp 13),(.const (.bool false))]])))))))
 (sq_ [mv_ 26 5,
 pr_ 27 (lt_ 3 6),
 c1_ 28 145 27,
 cl_ 29 120 [(.tmp 26),(.tmp 28)]]
 (sq_ [mv_ 31 5,
 c1_ 32 63 31,
 mv_ 30 32,
 pr_ 33 (ex_ 0 30),
 pr_ 34 (ex_ 1 30),
 mv_ 7 33,
 mv_ 8 34]
 (.seq (sq_ [mv_ 35 8,
 pr_ 36 (no_ 35)]
 (.cond (.tmp 36)
 (sq_ [pr_ 37 (.build [.pl (.bool false),.pl (.float .f64 0),.pl (.float .f64 0)] []),
 st_ (so_ 3 2 37),
 pr_ 3 (mi_ .i64 0),
 pr_ 4 mf_]
 .ret)
 .skip))
 (sq_ [pr_ 38 (lt_ 3 6),
 mv_ 39 7,
 st_ (so_ 3 2 38),
 mv_ 3 39,
 pr_ 4 mt_]
 .ret))))))))
def o124:List Tmp:=[2,6]
def r124:List RV:=[.cell 2 3 true,.tmp 3,.tmp 4]
theorem t124:Text Tryz.prog 124 o124 c124 r124 40:=.mk_ Tryz.f124 rfl
def c125:ACode :=
 (sq_ [pr_ 4 (.allocm [.nils,.nils,.pl (.bool false),.pl (.float .f64 0),.pl (.float .f64 0),.nils])]
 (sq_ [mv_ 10 1,
 mv_ 11 0,
 c1_ 12 96 11,
 ⟨some 13,none,.call (.tmp 10) [(.tmp 12)]⟩,
 mv_ 9 13,
 pr_ 14 (ex_ 0 9),
 pr_ 15 (ex_ 1 9),
 pr_ 16 (ex_ 2 9),
 ⟨some 5,none,.fresh 6 5 (.tmp 14)⟩,
 mv_ 6 15,
 mv_ 7 16]
 (.seq (sq_ [mv_ 17 0,
 mv_ 18 6,
 mv_ 19 7,
 cl_ 20 97 [(.tmp 17),(.tmp 18),(.tmp 19)],
 pr_ 21 (no_ 20)]
 (.cond (.tmp 21)
 (sq_ [pr_ 8 (.allocm [.nils,.nils,.pl (.bool false),.pl (.float .f64 0),.pl (.float .f64 0),.nils])]
 (sq_ [pr_ 22 (lt_ 6 8),
 st_ (so_ 6 4 22)]
 .ret))
 .skip))
 (sq_ [pr_ 23 (lt_ 6 5),
 st_ (so_ 6 4 23)]
 .ret))))
def o125:List Tmp:=[4]
def r125:List RV:=[.cell 4 6 true]
theorem t125:Text Tryz.prog 125 o125 c125 r125 24:=.mk_ Tryz.f125 rfl
def c126:ACode :=
 (sq_ [pr_ 2 (.allocm [.nils,.nils,.pl (.bool false),.pl (.float .f64 0),.pl (.float .f64 0),.nils]),
 pr_ 3 (mi_ .i64 0),
 pr_ 4 mf_]
 (sq_ [mv_ 9 0,
 c1_ 10 59 9,
 mv_ 5 10]
 (sq_ [mv_ 11 5,
 cl_ 12 121 [(.tmp 11),(.func 122)],
 mv_ 13 5,
 cl_ 14 121 [(.tmp 13),(.func 122)],
 mv_ 15 5,
 cl_ 16 123 [(.tmp 15),(.func 124)],
 pr_ 17 (.build [.nils,.nils,.pl (.bool false),.pl (.float .f64 0),.pl (.float .f64 0),.nils] [(0,1,(.tmp 12)),(1,1,(.tmp 14)),(2,3,(.tmp 16))]),
 pr_ 6 (.allocm [.nils,.nils,.pl (.bool false),.pl (.float .f64 0),.pl (.float .f64 0),.nils]),
 st_ (so_ 6 6 17)]
 (.seq (sq_ [mv_ 18 5,
 cl_ 19 60 [(.tmp 18),(.const (.int .u64 4))],
 pr_ 20 (mi_ .u64 0)]
 (.block 0 (.loop [0,1,3,4,7,8,9,10,11,12,13,14,15,16,17,18,21,22,23,24,25,26,27,28,29,30,31,32,33,34,35,36,37,38,39,40,41,42,43] (sq_ [pr_ 21 (bt_ .lss 20 19)]
 (.seq (.cond (.tmp 21)
 .skip
 (.exit 0))
 (.seq (.block 1 (.draw [⟨pr_ 22 (fa_ 5 6),[],false,0,1⟩,
 ⟨pr_ 23 (lf_ 1 22),[0],false,0,1⟩,
 ⟨mv_ 24 5,[],false,0,0⟩,
 ⟨cl_ 25 62 [(.tmp 24),(.const (.int .i64 12))],[2],true,0,0⟩,
 ⟨pr_ 26 (.bsl false 1 false 1 [.pl (.string .empty)] [(0,1,(.tmp 25))]),[2,3],false,1,1⟩,
 ⟨pr_ 27 (.app 1 (.tmp 23) (.tmp 26)),[0,1,2,3,4],true,0,0⟩,
 ⟨pr_ 28 (fa_ 5 6),(List.range 6),false,2,2⟩,
 ⟨st_ (so_ 1 28 27),(List.range 7),true,0,0⟩]))
 (.ops [pr_ 29 (bk_ .add 20 .u64 1),
 mv_ 20 29])))))))
 (.seq (.ghost (.shutc 6 5 1) (.ops [mv_ 30 5,
 pr_ 31 (lt_ 6 6),
 c1_ 32 146 31,
 cl_ 33 120 [(.tmp 30),(.tmp 32)]]))
 (sq_ [mv_ 35 5,
 c1_ 36 63 35,
 mv_ 34 36,
 pr_ 37 (ex_ 0 34),
 pr_ 38 (ex_ 1 34),
 mv_ 7 37,
 mv_ 8 38]
 (.seq (sq_ [mv_ 39 8,
 pr_ 40 (no_ 39)]
 (.cond (.tmp 40)
 (sq_ [pr_ 41 (.build [.nils,.nils,.pl (.bool false),.pl (.float .f64 0),.pl (.float .f64 0),.nils] []),
 st_ (so_ 6 2 41),
 pr_ 3 (mi_ .i64 0),
 pr_ 4 mf_]
 .ret)
 .skip))
 (sq_ [pr_ 42 (lt_ 6 6),
 mv_ 43 7,
 st_ (so_ 6 2 42),
 mv_ 3 43,
 pr_ 4 mt_]
 .ret))))))))
def o126:List Tmp:=[2,6]
def r126:List RV:=[.cell 2 6 true,.tmp 3,.tmp 4]
theorem t126:Text Tryz.prog 126 o126 c126 r126 44:=.mk_ Tryz.f126 rfl
def c127:ACode :=
 (sq_ [pr_ 4 (.mov (.const (.slice none 0 0)))]
 (sq_ [mv_ 10 1,
 mv_ 11 0,
 c1_ 12 96 11,
 ⟨some 13,none,.call (.tmp 10) [(.tmp 12)]⟩,
 mv_ 9 13,
 pr_ 14 (ex_ 0 9),
 pr_ 15 (ex_ 1 9),
 pr_ 16 (ex_ 2 9),
 mv_ 5 14,
 mv_ 6 15,
 mv_ 7 16]
 (.seq (sq_ [mv_ 17 0,
 mv_ 18 6,
 mv_ 19 7,
 cl_ 20 97 [(.tmp 17),(.tmp 18),(.tmp 19)],
 pr_ 21 (no_ 20)]
 (.cond (.tmp 21)
 (sq_ [pr_ 8 (.mov (.const (.slice none 0 0)))]
 (sq_ [mv_ 22 8,
 mv_ 4 22]
 .ret))
 .skip))
 (sq_ [mv_ 23 5,
 mv_ 4 23]
 .ret))))
def o127:List Tmp:=[]
def r127:List RV:=[.tmp 4]
theorem t127:Text Tryz.prog 127 o127 c127 r127 24:=.mk_ Tryz.f127 rfl
def c128:ACode :=
 (sq_ [pr_ 2 (.mov (.const (.slice none 0 0))),
 pr_ 3 (mi_ .i64 0),
 pr_ 4 mf_]
 (sq_ [mv_ 9 0,
 c1_ 10 59 9,
 mv_ 5 10]
 (.seq (.after (.ops [pr_ 6 (.mov (.const (.slice none 0 0)))]) (.own 6 2))
 (.seq (sq_ [mv_ 11 5,
 cl_ 12 60 [(.tmp 11),(.const (.int .u64 6))],
 pr_ 13 (mi_ .u64 0)]
 (.block 0 (.loop [0,1,2,3,4,7,8,9,10,11,14,15,16,17,18,19,20,21,22,23,24,25,26,27,28,29,30,31,32,33,34,35,36] (sq_ [pr_ 14 (bt_ .lss 13 12)]
 (.seq (.cond (.tmp 14)
 .skip
 (.exit 0))
 (.seq (.block 1 (.ops [mv_ 15 6,
 mv_ 16 5,
 cl_ 17 62 [(.tmp 16),(.const (.int .i64 12))],
 mv_ 18 5,
 cl_ 19 62 [(.tmp 18),(.const (.int .i64 24))],
 pr_ 20 (.build [.pl (.string .empty),.pl (.string .empty)] [(0,1,(.tmp 17)),(1,1,(.tmp 19))]),
 pr_ 21 (.bsl false 2 true 1 [.pl (.string .empty),.pl (.string .empty)] [(0,2,(.tmp 20))]),
 pr_ 22 (.app 2 (.tmp 15) (.tmp 21)),
 mv_ 6 22]))
 (.ops [pr_ 23 (bk_ .add 13 .u64 1),
 mv_ 13 23])))))))
 (.seq (.ghost (.shut 6) (.ops [mv_ 24 5,
 mv_ 25 6,
 c1_ 26 147 25,
 cl_ 27 120 [(.tmp 24),(.tmp 26)]]))
 (sq_ [mv_ 29 5,
 c1_ 30 63 29,
 mv_ 28 30,
 pr_ 31 (ex_ 0 28),
 pr_ 32 (ex_ 1 28),
 mv_ 7 31,
 mv_ 8 32]
 (.seq (sq_ [mv_ 33 8,
 pr_ 34 (no_ 33)]
 (.cond (.tmp 34)
 (sq_ [pr_ 2 (.mov (.const (.slice none 0 0))),
 pr_ 3 (mi_ .i64 0),
 pr_ 4 mf_]
 (.ghost (.shut 2) .ret))
 .skip))
 (sq_ [mv_ 35 6,
 mv_ 36 7,
 mv_ 2 35,
 mv_ 3 36,
 pr_ 4 mt_]
 (.ghost (.shut 2) .ret)))))))))
def o128:List Tmp:=[]
def r128:List RV:=[.tmp 2,.tmp 3,.tmp 4]
theorem t128:Text Tryz.prog 128 o128 c128 r128 37:=.mk_ Tryz.f128 rfl
def c129:ACode :=
 (sq_ [pr_ 2 (.mov (.const (.float Go.FloatKind.f64 0))),
 pr_ 3 mf_]
 (sq_ [mv_ 5 0,
 c1_ 6 148 5,
 mv_ 4 6]
 (.seq (sq_ [mv_ 7 4,
 c1_ 8 149 7,
 mv_ 9 0,
 pr_ 10 (bt_ .neq 8 9)]
 (.cond (.tmp 10)
 (sq_ [pr_ 2 (.mov (.const (.float Go.FloatKind.f64 0))),
 pr_ 3 mf_]
 .ret)
 .skip))
 (sq_ [mv_ 11 4,
 mv_ 2 11,
 pr_ 3 mt_]
 .ret))))
def o129:List Tmp:=[]
def r129:List RV:=[.tmp 2,.tmp 3]
theorem t129:Text Tryz.prog 129 o129 c129 r129 12:=.mk_ Tryz.f129 rfl
def c130:ACode :=
 (sq_ [pr_ 2 (mi_ .u64 0)]
 (sq_ [mv_ 6 0,
 c1_ 7 96 6,
 c1_ 8 150 7,
 mv_ 5 8,
 pr_ 9 (ex_ 0 5),
 pr_ 10 (ex_ 1 5),
 mv_ 3 9,
 mv_ 4 10]
 (.seq (sq_ [mv_ 11 0,
 mv_ 12 4,
 cl_ 13 97 [(.tmp 11),(.const (.int .i64 8)),(.tmp 12)],
 pr_ 14 (no_ 13)]
 (.cond (.tmp 14)
 (sq_ [pr_ 2 (mi_ .u64 0)]
 .ret)
 .skip))
 (sq_ [mv_ 15 3,
 mv_ 2 15]
 .ret))))
def o130:List Tmp:=[]
def r130:List RV:=[.tmp 2]
theorem t130:Text Tryz.prog 130 o130 c130 r130 16:=.mk_ Tryz.f130 rfl
def c131:ACode :=
 (sq_ [pr_ 1 (.boxr (.tmp 0)),
 pr_ 2 mf_]
 (sq_ [pr_ 6 (fa_ 1 1),
 pr_ 7 (lf_ 1 6),
 c1_ 8 119 7,
 mv_ 5 8,
 pr_ 9 (ex_ 0 5),
 pr_ 10 (ex_ 1 5),
 mv_ 3 9,
 mv_ 4 10]
 (sq_ [mv_ 11 4,
 mv_ 12 11,
 gp_ 13 12 true (lt_ 19 1),
 gp_ 14 12 true (mo_ 3),
 gc_ 15 12 true 151 [(.tmp 13),(.tmp 14)],
 pr_ 16 (pa_ 12 15),
 mv_ 17 16,
 gp_ 18 17 true (lt_ 19 1),
 gp_ 19 17 true (mo_ 3),
 gc_ 20 17 true 152 [(.tmp 18),(.tmp 19)],
 pr_ 21 (pa_ 17 20),
 mv_ 2 21]
 .ret)))
def o131:List Tmp:=[]
def r131:List RV:=[.tmp 2]
theorem t131:Text Tryz.prog 131 o131 c131 r131 22:=.mk_ Tryz.f131 rfl
def c132:ACode :=
 (sq_ [pr_ 1 (.boxr (.tmp 0)),
 pr_ 2 mf_]
 (.seq (sq_ [pr_ 5 (fa_ 1 1),
 pr_ 6 (lf_ 1 5),
 c1_ 7 134 6,
 pr_ 8 (no_ 7)]
 (.cond (.tmp 8)
 (sq_ [pr_ 2 mf_]
 .ret)
 .skip))
 (.seq (sq_ [pr_ 9 (lt_ 3 1),
 c1_ 10 153 9]
 (.cond (.tmp 10)
 (sq_ [pr_ 12 (fa_ 2 1),
 pr_ 13 (lf_ 1 12),
 c1_ 14 154 13,
 mv_ 11 14,
 pr_ 15 (ex_ 0 11),
 pr_ 16 (ex_ 1 11),
 ⟨some 3,none,.fresh 6 3 (.tmp 15)⟩,
 mv_ 4 16]
 (sq_ [mv_ 17 4,
 mv_ 2 17]
 .ret))
 .skip))
 (sq_ [pr_ 18 (fa_ 0 1),
 pr_ 19 (lf_ 1 18),
 pr_ 20 (bk_ .eql 19 .i64 1),
 mv_ 21 20,
 gp_ 22 21 false (fa_ 0 1),
 gp_ 23 21 false (lf_ 1 22),
 gp_ 24 21 false (bk_ .eql 23 .i64 2),
 pr_ 25 (po_ 21 24),
 mv_ 26 25,
 gp_ 27 26 true (fa_ 2 1),
 gp_ 28 26 true (lf_ 1 27),
 gp_ 29 26 true (.lens (.tmp 28)),
 gp_ 30 26 true (bk_ .leq 29 .i64 24),
 pr_ 31 (pa_ 26 30),
 mv_ 2 31]
 .ret))))
def o132:List Tmp:=[]
def r132:List RV:=[.tmp 2]
theorem t132:Text Tryz.prog 132 o132 c132 r132 32:=.mk_ Tryz.f132 rfl
def c133:ACode :=
 (sq_ [pr_ 2 (.boxr (.tmp 0)),
 pr_ 3 (.boxr (.tmp 1)),
 pr_ 4 mf_]
 (.seq (sq_ [pr_ 5 (fa_ 1 2),
 pr_ 6 (lf_ 1 5),
 pr_ 7 (fa_ 1 3),
 pr_ 8 (lf_ 1 7),
 pr_ 9 (bt_ .neq 6 8)]
 (.cond (.tmp 9)
 (sq_ [pr_ 10 (fa_ 1 2),
 pr_ 11 (lf_ 1 10),
 pr_ 12 (fa_ 1 3),
 pr_ 13 (lf_ 1 12),
 pr_ 14 (bt_ .lss 11 13),
 mv_ 4 14]
 .ret)
 .skip))
 (.seq (sq_ [pr_ 15 (fa_ 0 2),
 pr_ 16 (lf_ 1 15),
 pr_ 17 (fa_ 0 3),
 pr_ 18 (lf_ 1 17),
 pr_ 19 (bt_ .neq 16 18)]
 (.cond (.tmp 19)
 (sq_ [pr_ 20 (fa_ 0 2),
 pr_ 21 (lf_ 1 20),
 pr_ 22 (fa_ 0 3),
 pr_ 23 (lf_ 1 22),
 pr_ 24 (bt_ .lss 21 23),
 mv_ 4 24]
 .ret)
 .skip))
 (sq_ [pr_ 25 (fa_ 2 2),
 pr_ 26 (lf_ 1 25),
 pr_ 27 (fa_ 2 3),
 pr_ 28 (lf_ 1 27),
 pr_ 29 (bt_ .lss 26 28),
 mv_ 4 29]
 .ret))))
def o133:List Tmp:=[]
def r133:List RV:=[.tmp 4]
theorem t133:Text Tryz.prog 133 o133 c133 r133 30:=.mk_ Tryz.f133 rfl
def c134:ACode :=
 (sq_ [pr_ 2 mf_]
 (.seq (sq_ [pr_ 3 (mi_ .i64 0)]
 (.block 0 (.loop [1,2,4,5,6,7,8,9,10,11,12,13,14,15,16,17,18,19,20,21,22,23,24,25,26,27,28,29,30,31,32,33,34,35,36,37,38,39,40,41,42,43,44,45,46,47,48,49,50,51,52,53,54] (.seq (sq_ [mv_ 6 3,
 mv_ 7 0,
 pr_ 8 (.lens (.tmp 7)),
 pr_ 9 (bt_ .lss 6 8)]
 (.cond (.tmp 9)
 .skip
 (.exit 0)))
 (.seq (.block 1 (sq_ [mv_ 12 0,
 mv_ 13 3,
 pr_ 14 (.idxs (.tmp 12) (.tmp 13)),
 mv_ 4 14]
 (sq_ [mv_ 15 4,
 pr_ 16 (bk_ .geq 15 .u8 97),
 mv_ 17 16,
 gp_ 18 17 true (mo_ 4),
 gp_ 19 17 true (bk_ .leq 18 .u8 122),
 pr_ 20 (pa_ 17 19),
 mv_ 21 20,
 gp_ 22 21 false (mo_ 4),
 gp_ 23 21 false (bk_ .geq 22 .u8 65),
 gp_ 24 21 false (mo_ 23),
 gp_ 25 24 true (mo_ 4),
 gp_ 26 24 true (bk_ .leq 25 .u8 90),
 gp_ 27 21 false (pa_ 24 26),
 pr_ 28 (po_ 21 27),
 mv_ 29 28,
 gp_ 30 29 false (mo_ 4),
 gp_ 31 29 false (bk_ .eql 30 .u8 95),
 pr_ 32 (po_ 29 31),
 mv_ 5 32]
 (sq_ [mv_ 33 5,
 pr_ 34 (no_ 33),
 mv_ 35 34,
 gp_ 36 35 true (mo_ 3),
 gp_ 37 35 true (bk_ .eql 36 .i64 0),
 gp_ 38 35 true (mo_ 37),
 gp_ 39 38 false (mo_ 4),
 gp_ 40 38 false (bk_ .lss 39 .u8 48),
 gp_ 41 35 true (po_ 38 40),
 gp_ 42 35 true (mo_ 41),
 gp_ 43 42 false (mo_ 4),
 gp_ 44 42 false (bk_ .gtr 43 .u8 57),
 gp_ 45 35 true (po_ 42 44),
 pr_ 46 (pa_ 35 45)]
 (.cond (.tmp 46)
 (sq_ [pr_ 2 mf_]
 .ret)
 .skip)))))
 (.ops [mv_ 10 3,
 pr_ 11 (bk_ .add 10 .i64 1),
 mv_ 3 11]))))))
 (sq_ [mv_ 47 0,
 pr_ 48 (.lens (.tmp 47)),
 pr_ 49 (bk_ .geq 48 .i64 1),
 mv_ 50 49,
 gp_ 51 50 true (mo_ 0),
 gp_ 52 50 true (.lens (.tmp 51)),
 gp_ 53 50 true (bk_ .leq 52 .i64 12),
 pr_ 54 (pa_ 50 53),
 mv_ 2 54]
 .ret)))
def o134:List Tmp:=[]
def r134:List RV:=[.tmp 2]
theorem t134:Text Tryz.prog 134 o134 c134 r134 55:=.mk_ Tryz.f134 rfl
def c135:ACode :=
 (sq_ [pr_ 2 mf_]
 (sq_ [mv_ 3 0,
 pr_ 4 (.lens (.tmp 3)),
 pr_ 5 (bk_ .geq 4 .i64 1),
 mv_ 6 5,
 gp_ 7 6 true (mo_ 0),
 gp_ 8 6 true (.lens (.tmp 7)),
 gp_ 9 6 true (bk_ .leq 8 .i64 24),
 pr_ 10 (pa_ 6 9),
 mv_ 2 10]
 .ret))
def o135:List Tmp:=[]
def r135:List RV:=[.tmp 2]
theorem t135:Text Tryz.prog 135 o135 c135 r135 11:=.mk_ Tryz.f135 rfl
def c136:ACode :=
 (sq_ [pr_ 2 (.mov (.const (.string (ByteArray.mk #[]))))]
 (sq_ [pr_ 3 (.build [.pl (.string .empty),.pl (.string .empty),.pl (.string .empty),.pl (.string .empty),.pl (.string .empty),.pl (.string .empty),.pl (.string .empty),.pl (.string .empty),.pl (.string .empty)] [(0,1,(.const (.string (ByteArray.mk #[97,124,98])))),(1,1,(.const (.string (ByteArray.mk #[])))),(2,1,(.const (.string (ByteArray.mk #[40,99,114,105,116,124,119,97,114,110,41])))),(3,1,(.const (.string (ByteArray.mk #[91,97,45,99,93,43,46,42])))),(4,1,(.const (.string (ByteArray.mk #[46,43])))),(5,1,(.const (.string (ByteArray.mk #[40,97,98,41,42])))),(6,1,(.const (.string (ByteArray.mk #[97,63,98,63])))),(7,1,(.const (.string (ByteArray.mk #[91,94,97,93,42])))),(8,1,(.const (.string (ByteArray.mk #[97,42,97,42,97,42,97,42,97,42,97,42,97,42,97,42,97,42,97,42,97,42,97,42,97,42,97,42]))))]),
 mv_ 4 0,
 cl_ 5 85 [(.tmp 4),(.const (.int .i64 0)),(.const (.int .i64 8))],
 pr_ 6 (.idxa 1 9 false (.tmp 3) (.tmp 5)),
 mv_ 2 6]
 .ret))
def o136:List Tmp:=[]
def r136:List RV:=[.tmp 2]
theorem t136:Text Tryz.prog 136 o136 c136 r136 7:=.mk_ Tryz.f136 rfl
end Go.Proofs.YteakobbdgehlgaaGreatDoor
