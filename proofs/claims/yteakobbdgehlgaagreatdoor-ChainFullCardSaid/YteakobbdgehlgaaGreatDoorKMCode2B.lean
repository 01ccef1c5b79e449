/- What the functions do, over abstract values: printed by a program, checked by the kernel. No condition. -/
import Derived.Test.YteakobbdgehlgaaGreatDoorProg
import Derived.Test.YteakobbdgehlgaaGreatDoorAbStepB
set_option linter.unusedSimpArgs false
set_option linter.unusedVariables false
set_option linter.unusedSectionVars false
namespace Go.Proofs.YteakobbdgehlgaaGreatDoor
open Go Go.Ab
set_option maxRecDepth 100000
def c3:ACode :=
 (sq_ [pr_ 4 mf_]
 (sq_ [mv_ 8 0,
 cl_ 9 11 [(.const (.int .i64 1)),(.tmp 8)],
 mv_ 5 9]
 (.seq (sq_ [mv_ 10 5,
 pr_ 11 (.isnil false true (.tmp 10))]
 (.cond (.tmp 11)
 (sq_ [pr_ 4 mf_]
 .ret)
 .skip))
 (sq_ [mv_ 12 0,
 cl_ 13 12 [(.tmp 12),(.const (.int .i64 0)),(.const (.int .i64 200))],
 mv_ 6 13]
 (.seq (sq_ [mv_ 14 6,
 pr_ 15 (bk_ .gtr 14 .i64 20)]
 (.cond (.tmp 15)
 (sq_ [mv_ 16 5,
 c1_ 17 13 16,
 pr_ 18 (no_ 17),
 mv_ 19 18,
 gp_ 20 19 true (mo_ 5),
 gc_ 21 19 true 14 [(.tmp 20)],
 gp_ 22 19 true (bk_ .eql 21 .i64 0),
 pr_ 23 (pa_ 19 22),
 mv_ 24 23,
 gc_ 25 24 true 15 [],
 pr_ 26 (pa_ 24 25),
 mv_ 4 26]
 .ret)
 .skip))
 (.seq (sq_ [pr_ 7 (mi_ .i64 0)]
 (.block 0 (.loop [0,2,3,4,8,9,10,11,12,13,14,15,16,17,18,19,20,21,22,23,24,25,26,27,28,29,30,31,32,33,34,35,36,37,38,39,40,41,42,43,44,45,46,47,48,49,50,51,52,53,54,55,56,57,58,59,60,61,62,63,64,65,66,67,68,69,70] (.seq (sq_ [mv_ 27 7,
 mv_ 28 1,
 pr_ 29 (bk_ .rem 28 .u8 30),
 pr_ 30 (.convi .i64 (.tmp 29)),
 pr_ 31 (bt_ .lss 27 30)]
 (.cond (.tmp 31)
 .skip
 (.exit 0)))
 (.seq (.block 1 (sq_ [mv_ 34 5,
 c1_ 35 13 34,
 mv_ 36 7,
 mv_ 37 6,
 pr_ 38 (bt_ .geq 36 37),
 pr_ 39 (.bin true .neq (.tmp 35) (.tmp 38)),
 mv_ 40 39,
 gp_ 41 40 false (mo_ 5),
 gp_ 42 40 false (mo_ 7),
 gp_ 43 40 false (.convi .u64 (.tmp 42)),
 gp_ 44 40 false (.bsl false 1 false 1 [.pl (.int .u8 0)] [(0,1,(.const (.int .u8 1)))]),
 gc_ 45 40 false 16 [(.tmp 41),(.tmp 43),(.tmp 44),(.const (.int .i64 0))],
 gp_ 46 40 false (mo_ 7),
 gp_ 47 40 false (mo_ 6),
 gp_ 48 40 false (bt_ .lss 46 47),
 gp_ 49 40 false (.bin true .neq (.tmp 45) (.tmp 48)),
 pr_ 50 (po_ 40 49)]
 (.cond (.tmp 50)
 (sq_ [pr_ 4 mf_]
 .ret)
 .skip)))
 (.ops [mv_ 32 7,
 pr_ 33 (bk_ .add 32 .i64 1),
 mv_ 7 33]))))))
 (sq_ [mv_ 51 5,
 c1_ 52 14 51,
 mv_ 53 1,
 pr_ 54 (bk_ .rem 53 .u8 30),
 pr_ 55 (.convi .i64 (.tmp 54)),
 mv_ 56 6,
 pr_ 57 (.mm false (.tmp 55) (.tmp 56)),
 pr_ 58 (bt_ .eql 52 57),
 mv_ 59 58,
 gp_ 60 59 true (mo_ 5),
 gc_ 61 59 true 13 [(.tmp 60)],
 gp_ 62 59 true (mo_ 5),
 gc_ 63 59 true 14 [(.tmp 62)],
 gp_ 64 59 true (mo_ 6),
 gp_ 65 59 true (bt_ .eql 63 64),
 gp_ 66 59 true (.bin true .eql (.tmp 61) (.tmp 65)),
 pr_ 67 (pa_ 59 66),
 mv_ 68 67,
 gc_ 69 68 true 15 [],
 pr_ 70 (pa_ 68 69),
 mv_ 4 70]
 .ret)))))))
def o3:List Tmp:=[]
def r3:List RV:=[.tmp 4]
theorem t3:Text Tryz.prog 3 o3 c3 r3 71:=.mk_ Tryz.f3 rfl
def c11:ACode :=
 (sq_ [pr_ 4 (.mov (.const (.pointer none)))]
 (sq_ [mv_ 5 1,
 pr_ 6 (.mm true (.tmp 5) (.const (.int .i64 0))),
 pr_ 7 (.mm false (.tmp 6) (.const (.int .i64 200))),
 mv_ 8 0,
 c1_ 9 28 8,
 c1_ 10 27 9,
 pr_ 11 (.build [.pl (.int .i64 0),.nils,.pl (.int .u8 0),.pl (.int .u8 0),.pl (.int .u8 0),.pl (.int .u8 0),.pl (.int .u8 0),.pl (.int .u8 0),.pl (.int .u8 0),.pl (.int .u8 0),.pl (.int .u8 0),.pl (.int .u8 0),.pl (.int .u8 0),.pl (.int .u8 0),.pl (.int .u8 0),.pl (.int .u8 0),.pl (.int .u8 0),.pl (.int .u8 0),.pl (.int .u8 0),.pl (.int .u8 0),.pl (.int .u8 0),.pl (.int .u8 0),.pl (.int .u8 0),.pl (.int .u8 0),.pl (.int .u8 0),.pl (.int .u8 0),.pl (.int .u8 0),.pl (.int .u8 0),.pl (.int .u8 0),.pl (.int .u8 0),.pl (.int .u8 0),.pl (.int .u8 0),.pl (.int .u8 0),.pl (.int .u8 0)] [(0,1,(.tmp 7)),(2,32,(.tmp 10))]),
 pr_ 12 (.boxm (.tmp 11)),
 mv_ 4 12]
 .ret))
def o11:List Tmp:=[12]
def r11:List RV:=[.tmp 4]
theorem t11:Text Tryz.prog 11 o11 c11 r11 13:=.mk_ Tryz.f11 rfl
def c12:ACode :=
 (sq_ [pr_ 6 (mi_ .i64 0)]
 (.seq (sq_ [mv_ 7 0,
 mv_ 8 1,
 pr_ 9 (bt_ .lss 7 8)]
 (.cond (.tmp 9)
 (sq_ [mv_ 10 1,
 mv_ 6 10]
 .ret)
 .skip))
 (.seq (sq_ [mv_ 11 0,
 mv_ 12 2,
 pr_ 13 (bt_ .gtr 11 12)]
 (.cond (.tmp 13)
 (sq_ [mv_ 14 2,
 mv_ 6 14]
 .ret)
 .skip))
 (sq_ [mv_ 15 0,
 mv_ 6 15]
 .ret))))
def o12:List Tmp:=[]
def r12:List RV:=[.tmp 6]
theorem t12:Text Tryz.prog 12 o12 c12 r12 16:=.mk_ Tryz.f12 rfl
def c13:ACode :=
 (sq_ [pr_ 2 mf_]
 (.seq (.draw [⟨mv_ 3 0,[],false,0,0⟩,
 ⟨pr_ 4 (nc_ 3),[0],false,0,0⟩,
 ⟨pr_ 5 (fa_ 1 4),[0,1],false,0,0⟩,
 ⟨pr_ 6 (lf_ 1 5),[0,1,2],false,0,0⟩,
 ⟨pr_ 7 (.lenv (.tmp 6)),[0,1,2,3],false,0,0⟩,
 ⟨mv_ 8 0,[],false,0,0⟩,
 ⟨pr_ 9 (nc_ 8),[5],false,0,0⟩,
 ⟨pr_ 10 (fa_ 0 9),[5,6],false,0,0⟩,
 ⟨pr_ 11 (lf_ 1 10),[5,6,7],false,0,0⟩,
 ⟨pr_ 12 (bt_ .geq 7 11),(List.range 9),false,0,0⟩,
 ⟨mv_ 2 12,(List.range 10),false,0,0⟩])
 .ret))
def o13:List Tmp:=[]
def r13:List RV:=[.tmp 2]
theorem t13:Text Tryz.prog 13 o13 c13 r13 13:=.mk_ Tryz.f13 rfl
def c14:ACode :=
 (sq_ [pr_ 2 (mi_ .i64 0)]
 (sq_ [mv_ 3 0,
 pr_ 4 (nc_ 3),
 pr_ 5 (fa_ 1 4),
 pr_ 6 (lf_ 1 5),
 pr_ 7 (.lenv (.tmp 6)),
 mv_ 2 7]
 .ret))
def o14:List Tmp:=[]
def r14:List RV:=[.tmp 2]
theorem t14:Text Tryz.prog 14 o14 c14 r14 8:=.mk_ Tryz.f14 rfl
def c15:ACode :=
 (sq_ [pr_ 0 mf_]
 (sq_ [cl_ 5 11 [(.const (.int .i64 7)),(.const (.int .i64 2))],
 mv_ 1 5]
 (.seq (sq_ [mv_ 6 1,
 pr_ 7 (.isnil false true (.tmp 6))]
 (.cond (.tmp 7)
 (sq_ [pr_ 0 mf_]
 .ret)
 .skip))
 (sq_ [mv_ 8 1,
 c1_ 9 25 8,
 mv_ 2 9]
 (sq_ [mv_ 10 1,
 pr_ 11 (.bsl false 1 false 1 [.pl (.int .u8 0)] [(0,1,(.const (.int .u8 1)))]),
 cl_ 12 16 [(.tmp 10),(.const (.int .u64 3)),(.tmp 11),(.const (.int .i64 0))],
 mv_ 3 12]
 (sq_ [mv_ 13 1,
 pr_ 14 (.bsl false 1 false 1 [.pl (.int .u8 0)] [(0,1,(.const (.int .u8 1)))]),
 cl_ 15 16 [(.tmp 13),(.const (.int .u64 2)),(.tmp 14),(.const (.int .i64 0))],
 mv_ 4 15]
 (sq_ [mv_ 16 2,
 pr_ 17 (.lenv (.tmp 16)),
 pr_ 18 (bk_ .eql 17 .i64 1),
 mv_ 19 18,
 gp_ 20 19 true (mo_ 2),
 gp_ 21 19 true (.iadrs 1 (.tmp 20) (.const (.int .i64 0))),
 gp_ 22 19 true (lf_ 1 21),
 gp_ 23 19 true (bk_ .eql 22 .u8 0),
 pr_ 24 (pa_ 19 23),
 mv_ 25 24,
 gp_ 26 25 true (mo_ 3),
 pr_ 27 (pa_ 25 26),
 mv_ 28 27,
 gp_ 29 28 true (mo_ 4),
 gp_ 30 28 true (no_ 29),
 pr_ 31 (pa_ 28 30),
 mv_ 32 31,
 gp_ 33 32 true (mo_ 1),
 gc_ 34 32 true 14 [(.tmp 33)],
 gp_ 35 32 true (bk_ .eql 34 .i64 1),
 pr_ 36 (pa_ 32 35),
 mv_ 37 36,
 gp_ 38 37 true (mo_ 1),
 gc_ 39 37 true 13 [(.tmp 38)],
 gp_ 40 37 true (no_ 39),
 pr_ 41 (pa_ 37 40),
 mv_ 42 41,
 gp_ 43 42 true (mo_ 1),
 gc_ 44 42 true 25 [(.tmp 43)],
 gp_ 45 42 true (.b2s (.tmp 44)),
 gp_ 46 42 true (.bin false .eql (.tmp 45) (.const (.string (ByteArray.mk #[1,5,0,3,1,1,0])))),
 pr_ 47 (pa_ 42 46),
 mv_ 48 47,
 gp_ 49 48 true (mo_ 1),
 gc_ 50 48 true 21 [(.tmp 49)],
 gp_ 51 48 true (.bsl true 1 false 1 [.pl (.int .u8 0)] [(0,1,(.const (.int .u8 1)))]),
 gc_ 52 48 true 43 [(.const (.int .i64 7))],
 gp_ 53 48 true (.app 1 (.tmp 51) (.tmp 52)),
 gp_ 54 48 true (.bsl false 1 false 5 [.pl (.int .u8 0)] [(0,1,(.const (.int .u8 0))),(1,1,(.const (.int .u8 3))),(2,1,(.const (.int .u8 1))),(3,1,(.const (.int .u8 1))),(4,1,(.const (.int .u8 0)))]),
 gp_ 55 48 true (.app 1 (.tmp 53) (.tmp 54)),
 gc_ 56 48 true 42 [(.tmp 55)],
 gp_ 57 48 true (.eqa false [.int,.int,.int,.int,.int,.int,.int,.int,.int,.int,.int,.int,.int,.int,.int,.int,.int,.int,.int,.int,.int,.int,.int,.int,.int,.int,.int,.int,.int,.int,.int,.int] (.tmp 50) (.tmp 56)),
 pr_ 58 (pa_ 48 57),
 mv_ 0 58]
 .ret)))))))
def o15:List Tmp:=[51]
def r15:List RV:=[.tmp 0]
theorem t15:Text Tryz.prog 15 o15 c15 r15 59:=.mk_ Tryz.f15 rfl
def c16:ACode :=
 (sq_ [pr_ 8 mf_]
 (.seq (.draw [⟨mv_ 10 0,[],false,0,1⟩,
 ⟨pr_ 11 (nc_ 10),[0],false,0,1⟩,
 ⟨pr_ 12 (fa_ 1 11),[0,1],false,0,1⟩,
 ⟨pr_ 13 (lf_ 1 12),[0,1,2],false,0,1⟩,
 ⟨pr_ 14 (.lenv (.tmp 13)),[0,1,2,3],false,0,1⟩,
 ⟨mv_ 15 1,[],false,0,1⟩,
 ⟨mv_ 16 2,[],false,0,1⟩,
 ⟨c1_ 17 44 16,[6],false,0,1⟩,
 ⟨mv_ 18 3,[],false,0,1⟩,
 ⟨pr_ 19 (.build [.pl (.int .i64 0),.pl (.int .u64 0),.nils,.pl (.int .i64 0)] [(0,1,(.tmp 14)),(1,1,(.tmp 15)),(2,1,(.tmp 17)),(3,1,(.tmp 18))]),(List.range 9),false,0,1⟩,
 ⟨pr_ 9 (.allocm [.pl (.int .i64 0),.pl (.int .u64 0),.nils,.pl (.int .i64 0)]),[],true,0,0⟩,
 ⟨st_ (so_ 4 9 19),(List.range 11),true,0,0⟩])
 (.seq (.seq (.draw [⟨mv_ 20 0,[],false,0,0⟩,
 ⟨c1_ 21 13 20,[0],true,0,0⟩,
 ⟨mv_ 22 21,[0,1],false,1,1⟩,
 ⟨gp_ 23 22 false (lt_ 4 9),[0,1,2],false,1,1⟩,
 ⟨gc_ 24 22 false 45 [(.tmp 23)],[0,1,2,3],true,0,0⟩,
 ⟨gp_ 25 22 false (no_ 24),[0,1,2,3,4],false,2,2⟩,
 ⟨pr_ 26 (po_ 22 25),(List.range 6),false,2,2⟩,
 ⟨mv_ 27 26,(List.range 7),false,2,2⟩,
 ⟨gp_ 28 27 false (mo_ 0),(List.range 8),false,2,2⟩,
 ⟨gp_ 29 27 false (nc_ 28),(List.range 9),false,2,2⟩,
 ⟨gp_ 30 27 false (fa_ 1 29),(List.range 10),false,2,2⟩,
 ⟨gp_ 31 27 false (lf_ 1 30),(List.range 11),false,2,2⟩,
 ⟨gp_ 32 27 false (.lenv (.tmp 31)),(List.range 12),false,2,2⟩,
 ⟨gp_ 33 27 false (bk_ .gtr 32 .i64 0),(List.range 13),false,2,2⟩,
 ⟨gp_ 34 27 false (mo_ 33),(List.range 14),false,2,2⟩,
 ⟨gp_ 35 34 true (mo_ 1),(List.range 15),false,2,2⟩,
 ⟨gp_ 36 34 true (mo_ 0),(List.range 15),false,2,2⟩,
 ⟨gp_ 37 34 true (nc_ 36),[0,1,2,3,4,5,6,7,8,9,10,11,12,13,14,16],false,2,2⟩,
 ⟨gp_ 38 34 true (fa_ 1 37),[0,1,2,3,4,5,6,7,8,9,10,11,12,13,14,16,17],false,2,2⟩,
 ⟨gp_ 39 34 true (lf_ 1 38),[0,1,2,3,4,5,6,7,8,9,10,11,12,13,14,16,17,18],false,2,2⟩,
 ⟨gp_ 40 34 true (mo_ 0),(List.range 15),false,2,2⟩,
 ⟨gp_ 41 34 true (nc_ 40),[0,1,2,3,4,5,6,7,8,9,10,11,12,13,14,20],false,2,2⟩,
 ⟨gp_ 42 34 true (fa_ 1 41),[0,1,2,3,4,5,6,7,8,9,10,11,12,13,14,20,21],false,2,2⟩,
 ⟨gp_ 43 34 true (lf_ 1 42),[0,1,2,3,4,5,6,7,8,9,10,11,12,13,14,20,21,22],false,2,2⟩,
 ⟨gp_ 44 34 true (.lenv (.tmp 43)),[0,1,2,3,4,5,6,7,8,9,10,11,12,13,14,20,21,22,23],false,2,2⟩,
 ⟨gp_ 45 34 true (bk_ .sub 44 .i64 1),[0,1,2,3,4,5,6,7,8,9,10,11,12,13,14,20,21,22,23,24],false,2,2⟩,
 ⟨gp_ 46 34 true (.iadrs 4 (.tmp 39) (.tmp 45)),[0,1,2,3,4,5,6,7,8,9,10,11,12,13,14,16,17,18,19,20,21,22,23,24,25],false,2,2⟩,
 ⟨gp_ 47 34 true (fa_ 1 46),[0,1,2,3,4,5,6,7,8,9,10,11,12,13,14,16,17,18,19,20,21,22,23,24,25,26],false,2,2⟩,
 ⟨gp_ 48 34 true (lf_ 1 47),[0,1,2,3,4,5,6,7,8,9,10,11,12,13,14,16,17,18,19,20,21,22,23,24,25,26,27],false,2,2⟩,
 ⟨gp_ 49 34 true (bt_ .lss 35 48),(List.range 29),false,2,2⟩,
 ⟨gp_ 50 27 false (pa_ 34 49),(List.range 30),false,2,2⟩,
 ⟨pr_ 51 (po_ 27 50),(List.range 31),false,2,2⟩])
 (.cond (.tmp 51)
 (sq_ [pr_ 8 mf_]
 .ret)
 .skip))
 (.seq (.draw [⟨mv_ 52 0,[],false,0,1⟩,
 ⟨mv_ 53 0,[],false,0,0⟩,
 ⟨pr_ 54 (nc_ 53),[1],false,0,0⟩,
 ⟨pr_ 55 (fa_ 1 54),[1,2],false,0,0⟩,
 ⟨pr_ 56 (lf_ 1 55),[1,2,3],false,0,0⟩,
 ⟨pr_ 57 (lt_ 4 9),[],false,0,0⟩,
 ⟨pr_ 58 (.bsl false 4 true 1 [.pl (.int .i64 0),.pl (.int .u64 0),.nils,.pl (.int .i64 0)] [(0,4,(.tmp 57))]),[5],false,0,0⟩,
 ⟨pr_ 59 (.app 4 (.tmp 56) (.tmp 58)),[1,2,3,4,5,6],true,0,0⟩,
 ⟨pr_ 60 (nc_ 52),(List.range 8),false,1,1⟩,
 ⟨pr_ 61 (fa_ 1 60),(List.range 9),false,1,1⟩,
 ⟨st_ (so_ 1 61 59),(List.range 10),true,0,0⟩])
 (.seq (.draw [⟨mv_ 62 0,[],false,0,3⟩,
 ⟨mv_ 63 0,[],false,0,1⟩,
 ⟨pr_ 64 (nc_ 63),[1],false,0,1⟩,
 ⟨pr_ 65 (fa_ 2 64),[1,2],false,0,1⟩,
 ⟨pr_ 66 (lt_ 32 65),[1,2,3],false,0,1⟩,
 ⟨pr_ 67 (lt_ 4 9),[],false,0,0⟩,
 ⟨c1_ 68 30 67,[5],true,0,0⟩,
 ⟨cl_ 69 29 [(.tmp 66),(.tmp 68)],[1,2,3,4,5,6],true,0,0⟩,
 ⟨c1_ 70 27 69,[1,2,3,4,5,6,7],true,0,0⟩,
 ⟨pr_ 71 (nc_ 62),(List.range 9),false,3,3⟩,
 ⟨pr_ 72 (fa_ 2 71),(List.range 10),false,3,3⟩,
 ⟨st_ (so_ 32 72 70),(List.range 11),true,0,0⟩])
 (sq_ [pr_ 8 mt_]
 .ret))))))
def o16:List Tmp:=[9]
def r16:List RV:=[.tmp 8]
theorem t16:Text Tryz.prog 16 o16 c16 r16 73:=.mk_ Tryz.f16 rfl
def c21:ACode :=
 (sq_ [pr_ 2 (.allocm [.pl (.int .u8 0),.pl (.int .u8 0),.pl (.int .u8 0),.pl (.int .u8 0),.pl (.int .u8 0),.pl (.int .u8 0),.pl (.int .u8 0),.pl (.int .u8 0),.pl (.int .u8 0),.pl (.int .u8 0),.pl (.int .u8 0),.pl (.int .u8 0),.pl (.int .u8 0),.pl (.int .u8 0),.pl (.int .u8 0),.pl (.int .u8 0),.pl (.int .u8 0),.pl (.int .u8 0),.pl (.int .u8 0),.pl (.int .u8 0),.pl (.int .u8 0),.pl (.int .u8 0),.pl (.int .u8 0),.pl (.int .u8 0),.pl (.int .u8 0),.pl (.int .u8 0),.pl (.int .u8 0),.pl (.int .u8 0),.pl (.int .u8 0),.pl (.int .u8 0),.pl (.int .u8 0),.pl (.int .u8 0)])]
 (sq_ [mv_ 3 0,
 pr_ 4 (nc_ 3),
 pr_ 5 (fa_ 2 4),
 pr_ 6 (lt_ 32 5),
 st_ (so_ 32 2 6)]
 .ret))
def o21:List Tmp:=[2]
def r21:List RV:=[.cell 2 32 true]
theorem t21:Text Tryz.prog 21 o21 c21 r21 7:=.mk_ Tryz.f21 rfl
def c25:ACode :=
 (sq_ [pr_ 2 (.mov (.const (.slice none 0 0)))]
 (sq_ [mv_ 6 0,
 pr_ 7 (nc_ 6),
 pr_ 8 (fa_ 1 7),
 pr_ 9 (lf_ 1 8),
 pr_ 10 (.lenv (.tmp 9)),
 pr_ 11 (.convi .u64 (.tmp 10)),
 c1_ 12 50 11,
 mv_ 3 12]
 (.seq (sq_ [mv_ 13 0,
 pr_ 14 (nc_ 13),
 pr_ 15 (fa_ 1 14),
 pr_ 16 (lf_ 1 15),
 pr_ 17 (.lenv (.tmp 16)),
 pr_ 18 (mi_ .i64 0)]
 (.block 0 (.loop [0,1,2,4,5,6,7,8,9,10,11,12,13,14,15,19,20,21,22,23,24,25,26,27,28,29] (sq_ [pr_ 19 (bt_ .lss 18 17)]
 (.seq (.cond (.tmp 19)
 .skip
 (.exit 0))
 (.seq (.block 1 (sq_ [pr_ 20 (.iadrs 4 (.tmp 16) (.tmp 18)),
 pr_ 21 (lt_ 4 20),
 ⟨some 5,none,.fresh 4 5 (.tmp 21)⟩]
 (.ops [mv_ 22 3,
 pr_ 23 (lt_ 4 5),
 c1_ 24 30 23,
 pr_ 25 (.b2s (.tmp 24)),
 c1_ 26 51 25,
 pr_ 27 (.app 1 (.tmp 22) (.tmp 26)),
 mv_ 3 27])))
 (.ops [pr_ 28 (bk_ .add 18 .i64 1),
 mv_ 18 28])))))))
 (sq_ [mv_ 29 3,
 mv_ 2 29]
 (.ghost (.shut 2) .ret)))))
def o25:List Tmp:=[]
def r25:List RV:=[.tmp 2]
theorem t25:Text Tryz.prog 25 o25 c25 r25 30:=.mk_ Tryz.f25 rfl
def c27:ACode :=
 (sq_ [pr_ 2 (.allocm [.pl (.int .u8 0),.pl (.int .u8 0),.pl (.int .u8 0),.pl (.int .u8 0),.pl (.int .u8 0),.pl (.int .u8 0),.pl (.int .u8 0),.pl (.int .u8 0),.pl (.int .u8 0),.pl (.int .u8 0),.pl (.int .u8 0),.pl (.int .u8 0),.pl (.int .u8 0),.pl (.int .u8 0),.pl (.int .u8 0),.pl (.int .u8 0),.pl (.int .u8 0),.pl (.int .u8 0),.pl (.int .u8 0),.pl (.int .u8 0),.pl (.int .u8 0),.pl (.int .u8 0),.pl (.int .u8 0),.pl (.int .u8 0),.pl (.int .u8 0),.pl (.int .u8 0),.pl (.int .u8 0),.pl (.int .u8 0),.pl (.int .u8 0),.pl (.int .u8 0),.pl (.int .u8 0),.pl (.int .u8 0)])]
 (sq_ [pr_ 7 (.build [.pl (.int .u32 0),.pl (.int .u32 0),.pl (.int .u32 0),.pl (.int .u32 0),.pl (.int .u32 0),.pl (.int .u32 0),.pl (.int .u32 0),.pl (.int .u32 0)] [(0,1,(.const (.int .u32 1779033703))),(1,1,(.const (.int .u32 3144134277))),(2,1,(.const (.int .u32 1013904242))),(3,1,(.const (.int .u32 2773480762))),(4,1,(.const (.int .u32 1359893119))),(5,1,(.const (.int .u32 2600822924))),(6,1,(.const (.int .u32 528734635))),(7,1,(.const (.int .u32 1541459225)))]),
 pr_ 3 (.allocm [.pl (.int .u32 0),.pl (.int .u32 0),.pl (.int .u32 0),.pl (.int .u32 0),.pl (.int .u32 0),.pl (.int .u32 0),.pl (.int .u32 0),.pl (.int .u32 0)]),
 st_ (so_ 8 3 7)]
 (.seq (sq_ [mv_ 8 0,
 c1_ 9 55 8,
 mv_ 4 9]
 (.block 0 (.loop [0,1,5,6,7,8,9,10,11,12,13,14,15,16,17,18,19,20,21,22,23,24,25,26,27,28,29,30,31,32,33,34,35,36,37] (.seq (sq_ [mv_ 10 4,
 pr_ 11 (.lenv (.tmp 10)),
 pr_ 12 (bk_ .gtr 11 .i64 0)]
 (.cond (.tmp 12)
 .skip
 (.exit 0)))
 (.seq (.block 1 (.draw [⟨pr_ 15 (lt_ 8 3),[],false,0,0⟩,
 ⟨mv_ 16 4,[],false,0,0⟩,
 ⟨pr_ 17 (.slcv 1 (.tmp 16) none (some (.const (.int .i64 64)))),[1],false,0,0⟩,
 ⟨pr_ 18 (.arrp 64 (.tmp 17)),[1,2],false,0,0⟩,
 ⟨pr_ 19 (lt_ 64 18),[1,2,3],false,0,0⟩,
 ⟨cl_ 20 56 [(.tmp 15),(.tmp 19)],[0,1,2,3,4],true,0,0⟩,
 ⟨st_ (so_ 8 3 20),(List.range 6),true,0,0⟩]))
 (.ops [mv_ 13 4,
 pr_ 14 (.slcv 1 (.tmp 13) (some (.const (.int .i64 64))) none),
 mv_ 4 14]))))))
 (sq_ [pr_ 5 (.allocm [.pl (.int .u8 0),.pl (.int .u8 0),.pl (.int .u8 0),.pl (.int .u8 0),.pl (.int .u8 0),.pl (.int .u8 0),.pl (.int .u8 0),.pl (.int .u8 0),.pl (.int .u8 0),.pl (.int .u8 0),.pl (.int .u8 0),.pl (.int .u8 0),.pl (.int .u8 0),.pl (.int .u8 0),.pl (.int .u8 0),.pl (.int .u8 0),.pl (.int .u8 0),.pl (.int .u8 0),.pl (.int .u8 0),.pl (.int .u8 0),.pl (.int .u8 0),.pl (.int .u8 0),.pl (.int .u8 0),.pl (.int .u8 0),.pl (.int .u8 0),.pl (.int .u8 0),.pl (.int .u8 0),.pl (.int .u8 0),.pl (.int .u8 0),.pl (.int .u8 0),.pl (.int .u8 0),.pl (.int .u8 0)])]
 (.seq (sq_ [pr_ 21 (mi_ .i64 0)]
 (.block 2 (.loop [0,1,4,6,7,8,9,10,11,12,13,14,15,16,17,18,19,20,22,23,24,25,26,27,28,29,30,31,32,33,34,35,36,37] (sq_ [pr_ 22 (bk_ .lss 21 .i64 32)]
 (.seq (.cond (.tmp 22)
 .skip
 (.exit 2))
 (.seq (.block 3 (sq_ [mv_ 23 21,
 mv_ 6 23]
 (.ops [mv_ 24 6,
 mv_ 25 6,
 pr_ 26 (bk_ .quo 25 .i64 4),
 pr_ 27 (.iadra 1 8 (.tmp 3) (.tmp 26)),
 pr_ 28 (lf_ 1 27),
 mv_ 29 6,
 pr_ 30 (bk_ .rem 29 .i64 4),
 pr_ 31 (.bin false .mul (.const (.int .i64 8)) (.tmp 30)),
 pr_ 32 (.bin false .sub (.const (.int .i64 24)) (.tmp 31)),
 pr_ 33 (bt_ .shr 28 32),
 pr_ 34 (.convi .u8 (.tmp 33)),
 pr_ 35 (.iadra 1 32 (.tmp 5) (.tmp 24)),
 st_ (so_ 1 35 34)])))
 (.ops [pr_ 36 (bk_ .add 21 .i64 1),
 mv_ 21 36])))))))
 (sq_ [pr_ 37 (lt_ 32 5),
 st_ (so_ 32 2 37)]
 .ret))))))
def o27:List Tmp:=[2,3,5]
def r27:List RV:=[.cell 2 32 true]
theorem t27:Text Tryz.prog 27 o27 c27 r27 38:=.mk_ Tryz.f27 rfl
def c28:ACode :=
 (sq_ [pr_ 2 (.mov (.const (.slice none 0 0)))]
 (sq_ [pr_ 3 (.bsl true 1 false 1 [.pl (.int .u8 0)] [(0,1,(.const (.int .u8 0)))]),
 mv_ 4 0,
 pr_ 5 (.convi .u64 (.tmp 4)),
 c1_ 6 57 5,
 pr_ 7 (.app 1 (.tmp 3) (.tmp 6)),
 mv_ 2 7]
 (.ghost (.shut 2) .ret)))
def o28:List Tmp:=[3]
def r28:List RV:=[.tmp 2]
theorem t28:Text Tryz.prog 28 o28 c28 r28 8:=.mk_ Tryz.f28 rfl
def c29:ACode :=
 (sq_ [pr_ 2 (.boxr (.tmp 0)),
 pr_ 4 (.mov (.const (.slice none 0 0)))]
 (sq_ [pr_ 5 (.bsl false 1 false 1 [.pl (.int .u8 0)] [(0,1,(.const (.int .u8 1)))]),
 pr_ 6 (.slca 32 (.tmp 2)),
 mv_ 7 1,
 pr_ 8 (.bsl false 1 false 3 [.nils] [(0,1,(.tmp 5)),(1,1,(.tmp 6)),(2,1,(.tmp 7))]),
 c1_ 9 58 8,
 mv_ 4 9]
 (.ghost (.shut 4) .ret)))
def o29:List Tmp:=[]
def r29:List RV:=[.tmp 4]
theorem t29:Text Tryz.prog 29 o29 c29 r29 10:=.mk_ Tryz.f29 rfl
def c30:ACode :=
 (sq_ [pr_ 1 (.boxr (.tmp 0)),
 pr_ 2 (.mov (.const (.slice none 0 0)))]
 (.seq (sq_ [pr_ 3 (lt_ 4 1),
 c1_ 4 45 3,
 pr_ 5 (no_ 4)]
 (.cond (.tmp 5)
 (sq_ [pr_ 2 (.mov (.const (.slice none 0 0)))]
 (.ghost (.shut 2) .ret))
 .skip))
 (.seq (.draw [⟨pr_ 6 (fa_ 0 1),[],false,0,0⟩,
 ⟨pr_ 7 (lf_ 1 6),[0],false,0,0⟩,
 ⟨pr_ 8 (.convi .u64 (.tmp 7)),[0,1],false,0,0⟩,
 ⟨c1_ 9 50 8,[0,1,2],true,0,0⟩,
 ⟨pr_ 10 (fa_ 1 1),[],false,0,1⟩,
 ⟨pr_ 11 (lf_ 1 10),[4],false,0,1⟩,
 ⟨c1_ 12 50 11,(List.range 6),true,0,0⟩,
 ⟨pr_ 13 (fa_ 2 1),[],false,0,2⟩,
 ⟨pr_ 14 (lf_ 1 13),[7],false,0,2⟩,
 ⟨pr_ 15 (.b2s (.tmp 14)),[7,8],false,0,2⟩,
 ⟨c1_ 16 51 15,(List.range 10),true,0,0⟩,
 ⟨pr_ 17 (fa_ 3 1),[],false,0,3⟩,
 ⟨pr_ 18 (lf_ 1 17),[11],false,0,3⟩,
 ⟨pr_ 19 (.convi .u8 (.tmp 18)),[11,12],false,0,3⟩,
 ⟨pr_ 20 (.bsl false 1 false 1 [.pl (.int .u8 0)] [(0,1,(.tmp 19))]),[11,12,13],false,0,3⟩,
 ⟨pr_ 21 (.bsl false 1 false 4 [.nils] [(0,1,(.tmp 9)),(1,1,(.tmp 12)),(2,1,(.tmp 16)),(3,1,(.tmp 20))]),(List.range 15),false,3,3⟩,
 ⟨c1_ 22 58 21,(List.range 16),true,0,0⟩,
 ⟨mv_ 2 22,(List.range 17),false,4,4⟩])
 (.ghost (.shut 2) .ret))))
def o30:List Tmp:=[]
def r30:List RV:=[.tmp 2]
theorem t30:Text Tryz.prog 30 o30 c30 r30 23:=.mk_ Tryz.f30 rfl
def c42:ACode :=
 (sq_ [pr_ 2 (.allocm [.pl (.int .u8 0),.pl (.int .u8 0),.pl (.int .u8 0),.pl (.int .u8 0),.pl (.int .u8 0),.pl (.int .u8 0),.pl (.int .u8 0),.pl (.int .u8 0),.pl (.int .u8 0),.pl (.int .u8 0),.pl (.int .u8 0),.pl (.int .u8 0),.pl (.int .u8 0),.pl (.int .u8 0),.pl (.int .u8 0),.pl (.int .u8 0),.pl (.int .u8 0),.pl (.int .u8 0),.pl (.int .u8 0),.pl (.int .u8 0),.pl (.int .u8 0),.pl (.int .u8 0),.pl (.int .u8 0),.pl (.int .u8 0),.pl (.int .u8 0),.pl (.int .u8 0),.pl (.int .u8 0),.pl (.int .u8 0),.pl (.int .u8 0),.pl (.int .u8 0),.pl (.int .u8 0),.pl (.int .u8 0)])]
 (sq_ [mv_ 9 0,
 c1_ 10 72 9,
 mv_ 3 10]
 (sq_ [cl_ 11 73 [],
 pr_ 4 (.allocm [.pl (.int .u32 0),.pl (.int .u32 0),.pl (.int .u32 0),.pl (.int .u32 0),.pl (.int .u32 0),.pl (.int .u32 0),.pl (.int .u32 0),.pl (.int .u32 0)]),
 st_ (so_ 8 4 11)]
 (.seq (sq_ [pr_ 5 (mi_ .i64 0)]
 (.block 0 (.loop [0,1,6,7,8,9,10,11,12,13,14,15,16,17,18,19,20,21,22,23,24,25,26,27,28,29,30,31,32,33,34,35,36,37,38,39,40,41,42,43,44,45,46] (.seq (sq_ [mv_ 12 5,
 pr_ 13 (bk_ .add 12 .i64 64),
 mv_ 14 3,
 pr_ 15 (.lenv (.tmp 14)),
 pr_ 16 (bt_ .leq 13 15)]
 (.cond (.tmp 16)
 .skip
 (.exit 0)))
 (.seq (.block 1 (sq_ [pr_ 6 (.allocm [.pl (.int .u8 0),.pl (.int .u8 0),.pl (.int .u8 0),.pl (.int .u8 0),.pl (.int .u8 0),.pl (.int .u8 0),.pl (.int .u8 0),.pl (.int .u8 0),.pl (.int .u8 0),.pl (.int .u8 0),.pl (.int .u8 0),.pl (.int .u8 0),.pl (.int .u8 0),.pl (.int .u8 0),.pl (.int .u8 0),.pl (.int .u8 0),.pl (.int .u8 0),.pl (.int .u8 0),.pl (.int .u8 0),.pl (.int .u8 0),.pl (.int .u8 0),.pl (.int .u8 0),.pl (.int .u8 0),.pl (.int .u8 0),.pl (.int .u8 0),.pl (.int .u8 0),.pl (.int .u8 0),.pl (.int .u8 0),.pl (.int .u8 0),.pl (.int .u8 0),.pl (.int .u8 0),.pl (.int .u8 0),.pl (.int .u8 0),.pl (.int .u8 0),.pl (.int .u8 0),.pl (.int .u8 0),.pl (.int .u8 0),.pl (.int .u8 0),.pl (.int .u8 0),.pl (.int .u8 0),.pl (.int .u8 0),.pl (.int .u8 0),.pl (.int .u8 0),.pl (.int .u8 0),.pl (.int .u8 0),.pl (.int .u8 0),.pl (.int .u8 0),.pl (.int .u8 0),.pl (.int .u8 0),.pl (.int .u8 0),.pl (.int .u8 0),.pl (.int .u8 0),.pl (.int .u8 0),.pl (.int .u8 0),.pl (.int .u8 0),.pl (.int .u8 0),.pl (.int .u8 0),.pl (.int .u8 0),.pl (.int .u8 0),.pl (.int .u8 0),.pl (.int .u8 0),.pl (.int .u8 0),.pl (.int .u8 0),.pl (.int .u8 0)])]
 (.seq (.draw [⟨pr_ 19 (.slca 64 (.tmp 6)),[],false,0,0⟩,
 ⟨mv_ 20 3,[],false,0,0⟩,
 ⟨mv_ 21 5,[],false,0,0⟩,
 ⟨mv_ 22 5,[],false,0,0⟩,
 ⟨pr_ 23 (bk_ .add 22 .i64 64),[3],false,0,0⟩,
 ⟨pr_ 24 (.slcv 1 (.tmp 20) (some (.tmp 21)) (some (.tmp 23))),[1,2,3,4],false,0,0⟩,
 ⟨pr_ 25 (.copy (.tmp 19) (.tmp 24)),(List.range 6),true,0,0⟩])
 (.ops [pr_ 26 (lt_ 8 4),
 pr_ 27 (lt_ 64 6),
 cl_ 28 74 [(.tmp 26),(.tmp 27)],
 st_ (so_ 8 4 28)]))))
 (.ops [mv_ 17 5,
 pr_ 18 (bk_ .add 17 .i64 64),
 mv_ 5 18]))))))
 (sq_ [pr_ 7 (.allocm [.pl (.int .u8 0),.pl (.int .u8 0),.pl (.int .u8 0),.pl (.int .u8 0),.pl (.int .u8 0),.pl (.int .u8 0),.pl (.int .u8 0),.pl (.int .u8 0),.pl (.int .u8 0),.pl (.int .u8 0),.pl (.int .u8 0),.pl (.int .u8 0),.pl (.int .u8 0),.pl (.int .u8 0),.pl (.int .u8 0),.pl (.int .u8 0),.pl (.int .u8 0),.pl (.int .u8 0),.pl (.int .u8 0),.pl (.int .u8 0),.pl (.int .u8 0),.pl (.int .u8 0),.pl (.int .u8 0),.pl (.int .u8 0),.pl (.int .u8 0),.pl (.int .u8 0),.pl (.int .u8 0),.pl (.int .u8 0),.pl (.int .u8 0),.pl (.int .u8 0),.pl (.int .u8 0),.pl (.int .u8 0)])]
 (.seq (sq_ [pr_ 8 (mi_ .i64 0)]
 (.block 2 (.loop [0,1,3,5,6,9,10,11,12,13,14,15,16,17,18,19,20,21,22,23,24,25,26,27,28,29,30,31,32,33,34,35,36,37,38,39,40,41,42,43,44,45,46] (.seq (sq_ [mv_ 29 8,
 pr_ 30 (bk_ .lss 29 .i64 32)]
 (.cond (.tmp 30)
 .skip
 (.exit 2)))
 (.seq (.block 3 (.ops [mv_ 33 8,
 mv_ 34 8,
 pr_ 35 (bk_ .quo 34 .i64 4),
 pr_ 36 (.iadra 1 8 (.tmp 4) (.tmp 35)),
 pr_ 37 (lf_ 1 36),
 mv_ 38 8,
 pr_ 39 (bk_ .rem 38 .i64 4),
 pr_ 40 (.bin false .mul (.const (.int .i64 8)) (.tmp 39)),
 pr_ 41 (.bin false .sub (.const (.int .i64 24)) (.tmp 40)),
 pr_ 42 (.convi .u64 (.tmp 41)),
 pr_ 43 (bt_ .shr 37 42),
 pr_ 44 (.convi .u8 (.tmp 43)),
 pr_ 45 (.iadra 1 32 (.tmp 7) (.tmp 33)),
 st_ (so_ 1 45 44)]))
 (.ops [mv_ 31 8,
 pr_ 32 (bk_ .add 31 .i64 1),
 mv_ 8 32]))))))
 (sq_ [pr_ 46 (lt_ 32 7),
 st_ (so_ 32 2 46)]
 .ret)))))))
def o42:List Tmp:=[2,4,6,7]
def r42:List RV:=[.cell 2 32 true]
theorem t42:Text Tryz.prog 42 o42 c42 r42 47:=.mk_ Tryz.f42 rfl
def c43:ACode :=
 (sq_ [pr_ 2 (.mov (.const (.slice none 0 0)))]
 (sq_ [mv_ 4 0,
 c1_ 5 67 4,
 c1_ 6 42 5,
 ⟨some 3,none,.fresh 32 3 (.tmp 6)⟩]
 (sq_ [pr_ 7 (.slca 32 (.tmp 3)),
 mv_ 2 7]
 (.ghost (.shut 2) .ret))))
def o43:List Tmp:=[]
def r43:List RV:=[.tmp 2]
theorem t43:Text Tryz.prog 43 o43 c43 r43 8:=.mk_ Tryz.f43 rfl
def c44:ACode :=
 (sq_ [pr_ 2 (.mov (.const (.slice none 0 0)))]
 (.seq (sq_ [mv_ 3 0,
 pr_ 4 (.isnil false false (.tmp 3))]
 (.cond (.tmp 4)
 (sq_ [pr_ 2 (.mov (.const (.slice none 0 0)))]
 (.ghost (.shut 2) .ret))
 .skip))
 (sq_ [pr_ 5 (.bsl true 1 false 0 [.pl (.int .u8 0)] []),
 mv_ 6 0,
 pr_ 7 (.app 1 (.tmp 5) (.tmp 6)),
 mv_ 2 7]
 (.ghost (.shut 2) .ret))))
def o44:List Tmp:=[5]
def r44:List RV:=[.tmp 2]
theorem t44:Text Tryz.prog 44 o44 c44 r44 8:=.mk_ Tryz.f44 rfl
def c45:ACode :=
 (sq_ [pr_ 1 (.boxr (.tmp 0)),
 pr_ 2 mf_]
 (.seq (sq_ [pr_ 5 (fa_ 0 1),
 pr_ 6 (lf_ 1 5),
 pr_ 7 (bk_ .lss 6 .i64 0),
 mv_ 8 7,
 gp_ 9 8 false (fa_ 0 1),
 gp_ 10 8 false (lf_ 1 9),
 gp_ 11 8 false (bk_ .gtr 10 .i64 2147483647),
 pr_ 12 (po_ 8 11),
 mv_ 13 12,
 gp_ 14 13 false (fa_ 1 1),
 gp_ 15 13 false (lf_ 1 14),
 gp_ 16 13 false (bk_ .gtr 15 .u64 1099511627776),
 pr_ 17 (po_ 13 16)]
 (.cond (.tmp 17)
 (sq_ [pr_ 2 mf_]
 .ret)
 .skip))
 (sq_ [pr_ 19 (fa_ 2 1),
 pr_ 20 (lf_ 1 19),
 c1_ 21 75 20,
 mv_ 18 21,
 pr_ 22 (ex_ 0 18),
 pr_ 23 (ex_ 1 18),
 ⟨some 3,none,.fresh 19 3 (.tmp 22)⟩,
 mv_ 4 23]
 (sq_ [mv_ 24 4,
 mv_ 25 24,
 gp_ 26 25 true (fa_ 3 1),
 gp_ 27 25 true (lf_ 1 26),
 gp_ 28 25 true (bk_ .eql 27 .i64 0),
 gp_ 29 25 true (mo_ 28),
 gp_ 30 29 false (fa_ 3 1),
 gp_ 31 29 false (lf_ 1 30),
 gp_ 32 29 false (bk_ .geq 31 .i64 4),
 gp_ 33 29 false (mo_ 32),
 gp_ 34 33 true (fa_ 3 1),
 gp_ 35 33 true (lf_ 1 34),
 gp_ 36 33 true (bk_ .leq 35 .i64 10),
 gp_ 37 29 false (pa_ 33 36),
 gp_ 38 25 true (po_ 29 37),
 pr_ 39 (pa_ 25 38),
 mv_ 2 39]
 .ret))))
def o45:List Tmp:=[]
def r45:List RV:=[.tmp 2]
theorem t45:Text Tryz.prog 45 o45 c45 r45 40:=.mk_ Tryz.f45 rfl
def c50:ACode :=
 (sq_ [pr_ 2 (.mov (.const (.slice none 0 0)))]
 (.seq (.after (.ops [pr_ 3 (.mov (.const (.slice none 0 0)))]) (.own 3 1))
 (.seq (.block 0 (.loop [1,2,4,5,6,7,8,9,10,11,12,13,14,15,16,17,18] (.seq (sq_ [mv_ 4 0,
 pr_ 5 (bk_ .geq 4 .u64 128)]
 (.cond (.tmp 5)
 .skip
 (.exit 0)))
 (.block 1 (sq_ [mv_ 6 3,
 mv_ 7 0,
 pr_ 8 (.convi .u8 (.tmp 7)),
 pr_ 9 (bk_ .or 8 .u8 128),
 pr_ 10 (.bsl false 1 false 1 [.pl (.int .u8 0)] [(0,1,(.tmp 9))]),
 pr_ 11 (.app 1 (.tmp 6) (.tmp 10)),
 mv_ 3 11]
 (.ops [mv_ 12 0,
 pr_ 13 (bk_ .shr 12 .u64 7),
 mv_ 0 13]))))))
 (sq_ [mv_ 14 3,
 mv_ 15 0,
 pr_ 16 (.convi .u8 (.tmp 15)),
 pr_ 17 (.bsl false 1 false 1 [.pl (.int .u8 0)] [(0,1,(.tmp 16))]),
 pr_ 18 (.app 1 (.tmp 14) (.tmp 17)),
 mv_ 2 18]
 .ret))))
def o50:List Tmp:=[]
def r50:List RV:=[.tmp 2]
theorem t50:Text Tryz.prog 50 o50 c50 r50 19:=.mk_ Tryz.f50 rfl
def c51:ACode :=
 (sq_ [pr_ 2 (.mov (.const (.slice none 0 0)))]
 (sq_ [mv_ 3 0,
 pr_ 4 (.lens (.tmp 3)),
 pr_ 5 (.convi .u64 (.tmp 4)),
 c1_ 6 50 5,
 mv_ 7 0,
 pr_ 8 (.app 1 (.tmp 6) (.tmp 7)),
 mv_ 2 8]
 (.ghost (.shut 2) .ret)))
def o51:List Tmp:=[]
def r51:List RV:=[.tmp 2]
theorem t51:Text Tryz.prog 51 o51 c51 r51 9:=.mk_ Tryz.f51 rfl
def c55:ACode :=
 (sq_ [pr_ 2 (.mov (.const (.slice none 0 0)))]
 (sq_ [mv_ 7 0,
 pr_ 8 (.lenv (.tmp 7)),
 pr_ 9 (bk_ .add 8 .i64 1),
 mv_ 3 9]
 (.seq (.block 0 (.loop [1,2,4,5,6,7,8,9,10,11,12,13,14,15,16,17,18,19,20,21,22,23,24,25,26,27,28,29,30,31,32,33,34,35,36,37,38,39,40,41,42,43,44] (.seq (sq_ [mv_ 10 3,
 pr_ 11 (bk_ .rem 10 .i64 64),
 pr_ 12 (bk_ .neq 11 .i64 56)]
 (.cond (.tmp 12)
 .skip
 (.exit 0)))
 (.block 1 (.ops [mv_ 13 3,
 pr_ 14 (bk_ .add 13 .i64 1),
 mv_ 3 14])))))
 (sq_ [mv_ 15 3,
 pr_ 16 (bk_ .add 15 .i64 8),
 pr_ 17 (.mks 1 false [.pl (.int .u8 0)] (.tmp 16) (.tmp 16)),
 mv_ 4 17]
 (sq_ [mv_ 18 4,
 mv_ 19 0,
 pr_ 20 (.copy (.tmp 18) (.tmp 19))]
 (sq_ [mv_ 21 4,
 mv_ 22 0,
 pr_ 23 (.lenv (.tmp 22)),
 pr_ 24 (.iadrs 1 (.tmp 21) (.tmp 23)),
 st_ (.store 1 (.tmp 24) (.const (.int .u8 128)))]
 (sq_ [mv_ 25 0,
 pr_ 26 (.lenv (.tmp 25)),
 pr_ 27 (.convi .u64 (.tmp 26)),
 pr_ 28 (bk_ .mul 27 .u64 8),
 mv_ 5 28]
 (.seq (sq_ [pr_ 29 (mi_ .i64 0)]
 (.block 2 (.loop [0,1,2,6,7,8,9,10,11,12,13,14,15,16,17,18,19,20,21,22,23,24,25,26,27,28,30,31,32,33,34,35,36,37,38,39,40,41,42,43,44] (sq_ [pr_ 30 (bk_ .lss 29 .i64 8)]
 (.seq (.cond (.tmp 30)
 .skip
 (.exit 2))
 (.seq (.block 3 (sq_ [mv_ 31 29,
 mv_ 6 31]
 (.ops [mv_ 32 4,
 mv_ 33 3,
 mv_ 34 6,
 pr_ 35 (bt_ .add 33 34),
 mv_ 36 5,
 mv_ 37 6,
 pr_ 38 (.bin false .mul (.const (.int .i64 8)) (.tmp 37)),
 pr_ 39 (.bin false .sub (.const (.int .i64 56)) (.tmp 38)),
 pr_ 40 (bt_ .shr 36 39),
 pr_ 41 (.convi .u8 (.tmp 40)),
 pr_ 42 (.iadrs 1 (.tmp 32) (.tmp 35)),
 st_ (so_ 1 42 41)])))
 (.ops [pr_ 43 (bk_ .add 29 .i64 1),
 mv_ 29 43])))))))
 (sq_ [mv_ 44 4,
 mv_ 2 44]
 (.ghost (.shut 2) .ret))))))))))
def o55:List Tmp:=[]
def r55:List RV:=[.tmp 2]
theorem t55:Text Tryz.prog 55 o55 c55 r55 45:=.mk_ Tryz.f55 rfl
def c56:ACode :=
 (sq_ [pr_ 2 (.boxr (.tmp 0)),
 pr_ 3 (.boxr (.tmp 1)),
 pr_ 4 (.allocm [.pl (.int .u32 0),.pl (.int .u32 0),.pl (.int .u32 0),.pl (.int .u32 0),.pl (.int .u32 0),.pl (.int .u32 0),.pl (.int .u32 0),.pl (.int .u32 0)])]
 (sq_ [pr_ 18 (lt_ 64 3),
 c1_ 19 92 18,
 ⟨some 5,none,.fresh 64 5 (.tmp 19)⟩]
 (sq_ [pr_ 20 (lt_ 8 2),
 pr_ 6 (.allocm [.pl (.int .u32 0),.pl (.int .u32 0),.pl (.int .u32 0),.pl (.int .u32 0),.pl (.int .u32 0),.pl (.int .u32 0),.pl (.int .u32 0),.pl (.int .u32 0)]),
 st_ (so_ 8 6 20)]
 (.seq (sq_ [pr_ 21 (mi_ .i64 0)]
 (.block 0 (.loop [0,1,3,7,8,9,10,11,12,13,14,15,16,17,18,19,20,22,23,24,25,26,27,28,29,30,31,32,33,34,35,36,37,38,39,40,41,42,43,44,45,46,47,48,49,50,51,52,53,54,55,56,57,58,59,60,61,62,63,64,65,66,67,68,69,70,71,72,73,74,75,76,77,78,79,80,81,82,83,84,85,86,87,88,89,90,91,92,93,94,95,96,97,98,99,100,101,102,103,104,105,106,107,108,109,110,111,112,113] (sq_ [pr_ 22 (bk_ .lss 21 .i64 64)]
 (.seq (.cond (.tmp 22)
 .skip
 (.exit 0))
 (.seq (.block 1 (sq_ [mv_ 23 21,
 mv_ 7 23]
 (.seq (.draw [⟨pr_ 24 (.iadra 1 8 (.tmp 6) (.const (.int .i64 0))),[],false,0,0⟩,
 ⟨pr_ 25 (lf_ 1 24),[0],false,0,0⟩,
 ⟨pr_ 26 (.iadra 1 8 (.tmp 6) (.const (.int .i64 1))),[],false,0,0⟩,
 ⟨pr_ 27 (lf_ 1 26),[2],false,0,0⟩,
 ⟨pr_ 28 (.iadra 1 8 (.tmp 6) (.const (.int .i64 2))),[],false,0,0⟩,
 ⟨pr_ 29 (lf_ 1 28),[4],false,0,0⟩,
 ⟨pr_ 30 (.iadra 1 8 (.tmp 6) (.const (.int .i64 4))),[],false,0,0⟩,
 ⟨pr_ 31 (lf_ 1 30),[6],false,0,0⟩,
 ⟨pr_ 32 (.iadra 1 8 (.tmp 6) (.const (.int .i64 5))),[],false,0,0⟩,
 ⟨pr_ 33 (lf_ 1 32),[8],false,0,0⟩,
 ⟨pr_ 34 (.iadra 1 8 (.tmp 6) (.const (.int .i64 6))),[],false,0,0⟩,
 ⟨pr_ 35 (lf_ 1 34),[10],false,0,0⟩,
 ⟨mv_ 8 25,[0,1],false,0,0⟩,
 ⟨mv_ 9 27,[0,1,2,3,12],false,0,0⟩,
 ⟨mv_ 10 29,[0,1,2,3,4,5,12,13],false,0,0⟩,
 ⟨mv_ 11 31,[0,1,2,3,4,5,6,7,12,13,14],false,0,0⟩,
 ⟨mv_ 12 33,[0,1,2,3,4,5,6,7,8,9,12,13,14,15],false,0,0⟩,
 ⟨mv_ 13 35,(List.range 17),false,0,0⟩])
 (sq_ [mv_ 36 11,
 cl_ 37 93 [(.tmp 36),(.const (.int .i64 (-6)))],
 mv_ 38 11,
 cl_ 39 93 [(.tmp 38),(.const (.int .i64 (-11)))],
 pr_ 40 (bt_ .xor 37 39),
 mv_ 41 11,
 cl_ 42 93 [(.tmp 41),(.const (.int .i64 (-25)))],
 pr_ 43 (bt_ .xor 40 42),
 mv_ 14 43]
 (.seq (.draw [⟨pr_ 44 (.iadra 1 8 (.tmp 6) (.const (.int .i64 7))),[],false,0,0⟩,
 ⟨pr_ 45 (lf_ 1 44),[0],false,0,0⟩,
 ⟨mv_ 46 14,[],false,0,0⟩,
 ⟨pr_ 47 (bt_ .add 45 46),[0,1,2],false,0,0⟩,
 ⟨mv_ 48 11,[],false,0,0⟩,
 ⟨mv_ 49 12,[],false,0,0⟩,
 ⟨pr_ 50 (bt_ .and 48 49),[4,5],false,0,0⟩,
 ⟨mv_ 51 11,[],false,0,0⟩,
 ⟨pr_ 52 (.un .xor (.tmp 51)),[7],false,0,0⟩,
 ⟨mv_ 53 13,[],false,0,0⟩,
 ⟨pr_ 54 (bt_ .and 52 53),[7,8,9],false,0,0⟩,
 ⟨pr_ 55 (bt_ .xor 50 54),[4,5,6,7,8,9,10],false,0,0⟩,
 ⟨pr_ 56 (bt_ .add 47 55),(List.range 12),false,0,0⟩,
 ⟨mv_ 57 7,[],false,0,0⟩,
 ⟨pr_ 58 (.giadr 0 1 64 (.tmp 57)),[13],false,0,0⟩,
 ⟨pr_ 59 (lf_ 1 58),[13,14],false,0,0⟩,
 ⟨pr_ 60 (bt_ .add 56 59),(List.range 16),false,0,0⟩,
 ⟨mv_ 61 7,[],false,0,0⟩,
 ⟨pr_ 62 (.iadra 1 64 (.tmp 5) (.tmp 61)),[17],false,0,0⟩,
 ⟨pr_ 63 (lf_ 1 62),[17,18],false,0,0⟩,
 ⟨pr_ 64 (bt_ .add 60 63),(List.range 20),false,0,0⟩,
 ⟨mv_ 15 64,(List.range 21),false,0,0⟩])
 (sq_ [mv_ 65 8,
 cl_ 66 93 [(.tmp 65),(.const (.int .i64 (-2)))],
 mv_ 67 8,
 cl_ 68 93 [(.tmp 67),(.const (.int .i64 (-13)))],
 pr_ 69 (bt_ .xor 66 68),
 mv_ 70 8,
 cl_ 71 93 [(.tmp 70),(.const (.int .i64 (-22)))],
 pr_ 72 (bt_ .xor 69 71),
 mv_ 14 72]
 (sq_ [mv_ 73 14,
 mv_ 74 8,
 mv_ 75 9,
 pr_ 76 (bt_ .and 74 75),
 mv_ 77 8,
 mv_ 78 10,
 pr_ 79 (bt_ .and 77 78),
 pr_ 80 (bt_ .xor 76 79),
 mv_ 81 9,
 mv_ 82 10,
 pr_ 83 (bt_ .and 81 82),
 pr_ 84 (bt_ .xor 80 83),
 pr_ 85 (bt_ .add 73 84),
 mv_ 16 85]
 (.ops [mv_ 86 15,
 mv_ 87 16,
 pr_ 88 (bt_ .add 86 87),
 mv_ 89 8,
 mv_ 90 9,
 mv_ 91 10,
 pr_ 92 (.iadra 1 8 (.tmp 6) (.const (.int .i64 3))),
 pr_ 93 (lf_ 1 92),
 mv_ 94 15,
 pr_ 95 (bt_ .add 93 94),
 mv_ 96 11,
 mv_ 97 12,
 mv_ 98 13,
 pr_ 99 (.build [.pl (.int .u32 0),.pl (.int .u32 0),.pl (.int .u32 0),.pl (.int .u32 0),.pl (.int .u32 0),.pl (.int .u32 0),.pl (.int .u32 0),.pl (.int .u32 0)] [(0,1,(.tmp 88)),(1,1,(.tmp 89)),(2,1,(.tmp 90)),(3,1,(.tmp 91)),(4,1,(.tmp 95)),(5,1,(.tmp 96)),(6,1,(.tmp 97)),(7,1,(.tmp 98))]),
 st_ (so_ 8 6 99)]))))))))
 (.ops [pr_ 100 (bk_ .add 21 .i64 1),
 mv_ 21 100])))))))
 (.seq (sq_ [pr_ 101 (mi_ .i64 0)]
 (.block 2 (.loop [0,1,3,5,7,8,9,10,11,12,13,14,15,16,17,18,19,20,21,22,23,24,25,26,27,28,29,30,31,32,33,34,35,36,37,38,39,40,41,42,43,44,45,46,47,48,49,50,51,52,53,54,55,56,57,58,59,60,61,62,63,64,65,66,67,68,69,70,71,72,73,74,75,76,77,78,79,80,81,82,83,84,85,86,87,88,89,90,91,92,93,94,95,96,97,98,99,100,102,103,104,105,106,107,108,109,110,111,112,113] (sq_ [pr_ 102 (bk_ .lss 101 .i64 8)]
 (.seq (.cond (.tmp 102)
 .skip
 (.exit 2))
 (.seq (.block 3 (sq_ [mv_ 103 101,
 mv_ 17 103]
 (.draw [⟨mv_ 104 17,[],false,0,0⟩,
 ⟨pr_ 105 (.iadra 1 8 (.tmp 6) (.tmp 104)),[0],false,0,0⟩,
 ⟨pr_ 106 (lf_ 1 105),[0,1],false,0,0⟩,
 ⟨mv_ 107 17,[],false,0,0⟩,
 ⟨pr_ 108 (.iadra 1 8 (.tmp 2) (.tmp 107)),[3],false,0,0⟩,
 ⟨pr_ 109 (lf_ 1 108),[3,4],false,0,0⟩,
 ⟨pr_ 110 (bt_ .add 106 109),(List.range 6),false,0,0⟩,
 ⟨pr_ 111 (.iadra 1 8 (.tmp 6) (.tmp 104)),(List.range 7),false,0,0⟩,
 ⟨st_ (so_ 1 111 110),(List.range 8),true,0,0⟩])))
 (.ops [pr_ 112 (bk_ .add 101 .i64 1),
 mv_ 101 112])))))))
 (sq_ [pr_ 113 (lt_ 8 6),
 st_ (so_ 8 4 113)]
 .ret))))))
def o56:List Tmp:=[4,6]
def r56:List RV:=[.cell 4 8 true]
theorem t56:Text Tryz.prog 56 o56 c56 r56 114:=.mk_ Tryz.f56 rfl
def c57:ACode :=
 (sq_ [pr_ 2 (.mov (.const (.slice none 0 0)))]
 (sq_ [pr_ 5 (.mks 1 false [.pl (.int .u8 0)] (.const (.int .i64 8)) (.const (.int .i64 8))),
 mv_ 3 5]
 (.seq (sq_ [mv_ 6 3,
 pr_ 7 (.lenv (.tmp 6)),
 pr_ 8 (mi_ .i64 0)]
 (.block 0 (.loop [1,2,4,5,6,9,10,11,12,13,14,15,16,17,18,19,20,21] (sq_ [pr_ 9 (bt_ .lss 8 7)]
 (.seq (.cond (.tmp 9)
 .skip
 (.exit 0))
 (.seq (.block 1 (sq_ [mv_ 10 8,
 mv_ 4 10]
 (.ops [mv_ 11 3,
 mv_ 12 4,
 mv_ 13 0,
 mv_ 14 4,
 pr_ 15 (.bin false .mul (.const (.int .i64 8)) (.tmp 14)),
 pr_ 16 (.bin false .sub (.const (.int .i64 56)) (.tmp 15)),
 pr_ 17 (bt_ .shr 13 16),
 pr_ 18 (.convi .u8 (.tmp 17)),
 pr_ 19 (.iadrs 1 (.tmp 11) (.tmp 12)),
 st_ (so_ 1 19 18)])))
 (.ops [pr_ 20 (bk_ .add 8 .i64 1),
 mv_ 8 20])))))))
 (sq_ [mv_ 21 3,
 mv_ 2 21]
 (.ghost (.shut 2) .ret)))))
def o57:List Tmp:=[]
def r57:List RV:=[.tmp 2]
theorem t57:Text Tryz.prog 57 o57 c57 r57 22:=.mk_ Tryz.f57 rfl
def c58:ACode :=
 (sq_ [pr_ 2 (.mov (.const (.slice none 0 0)))]
 (sq_ [pr_ 3 (mi_ .i64 0)]
 (.seq (sq_ [mv_ 9 0,
 pr_ 10 (.lenv (.tmp 9)),
 pr_ 11 (mi_ .i64 0)]
 (.block 0 (.loop [1,2,4,5,6,7,8,12,13,14,15,16,17,18,19,20,21,22,23,24,25,26,27,28,29,30,31,32,33,34,35] (sq_ [pr_ 12 (bt_ .lss 11 10)]
 (.seq (.cond (.tmp 12)
 .skip
 (.exit 0))
 (.seq (.block 1 (sq_ [pr_ 13 (.iadrs 1 (.tmp 9) (.tmp 11)),
 pr_ 14 (lf_ 1 13),
 mv_ 5 14]
 (sq_ [mv_ 15 3,
 mv_ 16 5,
 pr_ 17 (.lenv (.tmp 16)),
 pr_ 18 (bt_ .add 15 17),
 mv_ 3 18]
 (sq_ [mv_ 19 3,
 pr_ 20 (bk_ .lss 19 .i64 0)]
 (.cond (.tmp 20)
 (.ops [pr_ 21 (.bad),
 st_ (.bad)])
 .skip)))))
 (.ops [pr_ 22 (bk_ .add 11 .i64 1),
 mv_ 11 22])))))))
 (sq_ [mv_ 23 3,
 cl_ 24 94 [(.const (.slice none 0 0)),(.tmp 23)],
 mv_ 6 24]
 (.seq (sq_ [mv_ 25 0,
 pr_ 26 (.lenv (.tmp 25)),
 pr_ 27 (mi_ .i64 0)]
 (.block 2 (.loop [0,1,2,3,4,5,7,8,9,10,11,12,13,14,15,16,17,18,19,20,21,22,23,24,28,29,30,31,32,33,34,35] (sq_ [pr_ 28 (bt_ .lss 27 26)]
 (.seq (.cond (.tmp 28)
 .skip
 (.exit 2))
 (.seq (.block 3 (sq_ [pr_ 29 (.iadrs 1 (.tmp 25) (.tmp 27)),
 pr_ 30 (lf_ 1 29),
 mv_ 8 30]
 (.ops [mv_ 31 6,
 mv_ 32 8,
 pr_ 33 (.app 1 (.tmp 31) (.tmp 32)),
 mv_ 6 33])))
 (.ops [pr_ 34 (bk_ .add 27 .i64 1),
 mv_ 27 34])))))))
 (sq_ [mv_ 35 6,
 mv_ 2 35]
 (.ghost (.shut 2) .ret)))))))
def o58:List Tmp:=[]
def r58:List RV:=[.tmp 2]
theorem t58:Text Tryz.prog 58 o58 c58 r58 36:=.mk_ Tryz.f58 rfl
def c59:ACode :=
 (sq_ [pr_ 2 (.mov (.const (.pointer none)))]
 (sq_ [mv_ 3 0,
 pr_ 4 (.build [.nils,.pl (.int .i64 0),.pl (.bool false)] [(0,1,(.tmp 3))]),
 pr_ 5 (.boxm (.tmp 4)),
 mv_ 2 5]
 .ret))
def o59:List Tmp:=[5]
def r59:List RV:=[.tmp 2]
theorem t59:Text Tryz.prog 59 o59 c59 r59 6:=.mk_ Tryz.f59 rfl
def c60:ACode :=
 (sq_ [pr_ 4 (mi_ .u64 0)]
 (sq_ [mv_ 9 0,
 c1_ 10 96 9,
 c1_ 11 95 10,
 mv_ 8 11,
 pr_ 12 (ex_ 0 8),
 pr_ 13 (ex_ 1 8),
 pr_ 14 (ex_ 2 8),
 mv_ 5 12,
 mv_ 6 13,
 mv_ 7 14]
 (.seq (sq_ [mv_ 15 0,
 mv_ 16 6,
 mv_ 17 7,
 mv_ 18 17,
 gp_ 19 18 true (mo_ 5),
 gp_ 20 18 true (mo_ 1),
 gp_ 21 18 true (bt_ .leq 19 20),
 pr_ 22 (pa_ 18 21),
 cl_ 23 97 [(.tmp 15),(.tmp 16),(.tmp 22)],
 pr_ 24 (no_ 23)]
 (.cond (.tmp 24)
 (sq_ [pr_ 4 (mi_ .u64 0)]
 .ret)
 .skip))
 (sq_ [mv_ 25 5,
 mv_ 4 25]
 .ret))))
def o60:List Tmp:=[]
def r60:List RV:=[.tmp 4]
theorem t60:Text Tryz.prog 60 o60 c60 r60 26:=.mk_ Tryz.f60 rfl
def c62:ACode :=
 (sq_ [pr_ 4 (.mov (.const (.string (ByteArray.mk #[]))))]
 (sq_ [mv_ 9 0,
 c1_ 10 96 9,
 mv_ 11 1,
 cl_ 12 99 [(.tmp 10),(.tmp 11)],
 mv_ 8 12,
 pr_ 13 (ex_ 0 8),
 pr_ 14 (ex_ 1 8),
 pr_ 15 (ex_ 2 8),
 mv_ 5 13,
 mv_ 6 14,
 mv_ 7 15]
 (.seq (sq_ [mv_ 16 0,
 mv_ 17 6,
 mv_ 18 7,
 cl_ 19 97 [(.tmp 16),(.tmp 17),(.tmp 18)],
 pr_ 20 (no_ 19)]
 (.cond (.tmp 20)
 (sq_ [pr_ 4 (.mov (.const (.string (ByteArray.mk #[]))))]
 .ret)
 .skip))
 (sq_ [mv_ 21 5,
 mv_ 4 21]
 .ret))))
def o62:List Tmp:=[]
def r62:List RV:=[.tmp 4]
theorem t62:Text Tryz.prog 62 o62 c62 r62 22:=.mk_ Tryz.f62 rfl
def c63:ACode :=
 (sq_ [pr_ 2 (mi_ .i64 0),
 pr_ 3 mf_]
 (.seq (sq_ [mv_ 4 0,
 pr_ 5 (nc_ 4),
 pr_ 6 (fa_ 2 5),
 pr_ 7 (lf_ 1 6)]
 (.cond (.tmp 7)
 (sq_ [pr_ 2 (mi_ .i64 0),
 pr_ 3 mf_]
 .ret)
 .skip))
 (sq_ [mv_ 8 0,
 pr_ 9 (nc_ 8),
 pr_ 10 (fa_ 1 9),
 pr_ 11 (lf_ 1 10),
 mv_ 2 11,
 pr_ 3 mt_]
 .ret)))
def o63:List Tmp:=[]
def r63:List RV:=[.tmp 2,.tmp 3]
theorem t63:Text Tryz.prog 63 o63 c63 r63 12:=.mk_ Tryz.f63 rfl
def c67:ACode :=
 (sq_ [pr_ 2 (.mov (.const (.slice none 0 0)))]
 (sq_ [pr_ 3 (.bsl true 1 false 1 [.pl (.int .u8 0)] [(0,1,(.const (.int .u8 0)))]),
 mv_ 4 0,
 pr_ 5 (.convi .u64 (.tmp 4)),
 c1_ 6 82 5,
 pr_ 7 (.app 1 (.tmp 3) (.tmp 6)),
 mv_ 2 7]
 (.ghost (.shut 2) .ret)))
def o67:List Tmp:=[3]
def r67:List RV:=[.tmp 2]
theorem t67:Text Tryz.prog 67 o67 c67 r67 8:=.mk_ Tryz.f67 rfl
def c72:ACode :=
 (sq_ [pr_ 2 (.mov (.const (.slice none 0 0)))]
 (sq_ [mv_ 4 0,
 pr_ 5 (.app 1 (.const (.slice none 0 0)) (.tmp 4)),
 pr_ 6 (.bsl false 1 false 1 [.pl (.int .u8 0)] [(0,1,(.const (.int .u8 128)))]),
 pr_ 7 (.app 1 (.tmp 5) (.tmp 6)),
 mv_ 3 7]
 (.seq (.block 0 (.loop [1,2,4,5,6,7,8,9,10,11,12,13,14,15,16,17,18,19,20,21] (.seq (sq_ [mv_ 8 3,
 pr_ 9 (.lenv (.tmp 8)),
 pr_ 10 (bk_ .rem 9 .i64 64),
 pr_ 11 (bk_ .neq 10 .i64 56)]
 (.cond (.tmp 11)
 .skip
 (.exit 0)))
 (.block 1 (.ops [mv_ 12 3,
 pr_ 13 (.bsl false 1 false 1 [.pl (.int .u8 0)] [(0,1,(.const (.int .u8 0)))]),
 pr_ 14 (.app 1 (.tmp 12) (.tmp 13)),
 mv_ 3 14])))))
 (sq_ [mv_ 15 3,
 mv_ 16 0,
 pr_ 17 (.lenv (.tmp 16)),
 pr_ 18 (.convi .u64 (.tmp 17)),
 pr_ 19 (bk_ .mul 18 .u64 8),
 c1_ 20 82 19,
 pr_ 21 (.app 1 (.tmp 15) (.tmp 20)),
 mv_ 2 21]
 (.ghost (.shut 2) .ret)))))
def o72:List Tmp:=[]
def r72:List RV:=[.tmp 2]
theorem t72:Text Tryz.prog 72 o72 c72 r72 22:=.mk_ Tryz.f72 rfl
def c73:ACode :=
 (sq_ [pr_ 0 (.allocm [.pl (.int .u32 0),.pl (.int .u32 0),.pl (.int .u32 0),.pl (.int .u32 0),.pl (.int .u32 0),.pl (.int .u32 0),.pl (.int .u32 0),.pl (.int .u32 0)])]
 (sq_ [pr_ 1 (.build [.pl (.int .u32 0),.pl (.int .u32 0),.pl (.int .u32 0),.pl (.int .u32 0),.pl (.int .u32 0),.pl (.int .u32 0),.pl (.int .u32 0),.pl (.int .u32 0)] [(0,1,(.const (.int .u32 1779033703))),(1,1,(.const (.int .u32 3144134277))),(2,1,(.const (.int .u32 1013904242))),(3,1,(.const (.int .u32 2773480762))),(4,1,(.const (.int .u32 1359893119))),(5,1,(.const (.int .u32 2600822924))),(6,1,(.const (.int .u32 528734635))),(7,1,(.const (.int .u32 1541459225)))]),
 st_ (so_ 8 0 1)]
 .ret))
def o73:List Tmp:=[0]
def r73:List RV:=[.cell 0 8 true]
theorem t73:Text Tryz.prog 73 o73 c73 r73 2:=.mk_ Tryz.f73 rfl
def c74:ACode :=
 (sq_ [pr_ 2 (.boxr (.tmp 0)),
 pr_ 3 (.boxr (.tmp 1)),
 pr_ 4 (.allocm [.pl (.int .u32 0),.pl (.int .u32 0),.pl (.int .u32 0),.pl (.int .u32 0),.pl (.int .u32 0),.pl (.int .u32 0),.pl (.int .u32 0),.pl (.int .u32 0)])]
 (sq_ [pr_ 5 (.allocm [.pl (.int .u32 0),.pl (.int .u32 0),.pl (.int .u32 0),.pl (.int .u32 0),.pl (.int .u32 0),.pl (.int .u32 0),.pl (.int .u32 0),.pl (.int .u32 0),.pl (.int .u32 0),.pl (.int .u32 0),.pl (.int .u32 0),.pl (.int .u32 0),.pl (.int .u32 0),.pl (.int .u32 0),.pl (.int .u32 0),.pl (.int .u32 0),.pl (.int .u32 0),.pl (.int .u32 0),.pl (.int .u32 0),.pl (.int .u32 0),.pl (.int .u32 0),.pl (.int .u32 0),.pl (.int .u32 0),.pl (.int .u32 0),.pl (.int .u32 0),.pl (.int .u32 0),.pl (.int .u32 0),.pl (.int .u32 0),.pl (.int .u32 0),.pl (.int .u32 0),.pl (.int .u32 0),.pl (.int .u32 0),.pl (.int .u32 0),.pl (.int .u32 0),.pl (.int .u32 0),.pl (.int .u32 0),.pl (.int .u32 0),.pl (.int .u32 0),.pl (.int .u32 0),.pl (.int .u32 0),.pl (.int .u32 0),.pl (.int .u32 0),.pl (.int .u32 0),.pl (.int .u32 0),.pl (.int .u32 0),.pl (.int .u32 0),.pl (.int .u32 0),.pl (.int .u32 0),.pl (.int .u32 0),.pl (.int .u32 0),.pl (.int .u32 0),.pl (.int .u32 0),.pl (.int .u32 0),.pl (.int .u32 0),.pl (.int .u32 0),.pl (.int .u32 0),.pl (.int .u32 0),.pl (.int .u32 0),.pl (.int .u32 0),.pl (.int .u32 0),.pl (.int .u32 0),.pl (.int .u32 0),.pl (.int .u32 0),.pl (.int .u32 0)])]
 (.seq (sq_ [pr_ 6 (mi_ .i64 0)]
 (.block 0 (.loop [0,1,7,8,9,10,11,12,13,14,15,16,17,18,19,20,21,22,23,24,25,26,27,28,29,30,31,32,33,34,35,36,37,38,39,40,41,42,43,44,45,46,47,48,49,50,51,52,53,54,55,56,57,58,59,60,61,62,63,64,65,66,67,68,69,70,71,72,73,74,75,76,77,78,79,80,81,82,83,84,85,86,87,88,89,90,91,92,93,94,95,96,97,98,99,100,101,102,103,104,105,106,107,108,109,110,111,112,113,114,115,116,117,118,119,120,121,122,123,124,125,126,127,128,129,130,131,132,133,134,135,136,137,138,139,140,141,142,143,144,145,146,147,148,149,150,151,152,153,154,155,156,157,158,159,160,161,162,163,164,165,166,167,168,169,170,171,172,173,174,175,176,177,178,179,180,181,182,183,184,185,186,187,188] (.seq (sq_ [mv_ 18 6,
 pr_ 19 (bk_ .lss 18 .i64 64)]
 (.cond (.tmp 19)
 .skip
 (.exit 0)))
 (.seq (.block 1 (.seq (sq_ [mv_ 22 6,
 pr_ 23 (bk_ .lss 22 .i64 16)]
 (.cond (.tmp 23)
 (.seq (.draw [⟨mv_ 24 6,[],false,0,0⟩,
 ⟨mv_ 25 6,[],false,0,0⟩,
 ⟨pr_ 26 (.bin false .mul (.const (.int .i64 4)) (.tmp 25)),[1],false,0,0⟩,
 ⟨pr_ 27 (.iadra 1 64 (.tmp 3) (.tmp 26)),[1,2],false,0,0⟩,
 ⟨pr_ 28 (lf_ 1 27),[1,2,3],false,0,0⟩,
 ⟨pr_ 29 (.convi .u32 (.tmp 28)),[1,2,3,4],false,0,0⟩,
 ⟨pr_ 30 (bk_ .shl 29 .u64 24),[1,2,3,4,5],false,0,0⟩,
 ⟨mv_ 31 6,[],false,0,0⟩,
 ⟨pr_ 32 (.bin false .mul (.const (.int .i64 4)) (.tmp 31)),[7],false,0,0⟩,
 ⟨pr_ 33 (bk_ .add 32 .i64 1),[7,8],false,0,0⟩,
 ⟨pr_ 34 (.iadra 1 64 (.tmp 3) (.tmp 33)),[7,8,9],false,0,0⟩,
 ⟨pr_ 35 (lf_ 1 34),[7,8,9,10],false,0,0⟩,
 ⟨pr_ 36 (.convi .u32 (.tmp 35)),[7,8,9,10,11],false,0,0⟩,
 ⟨pr_ 37 (bk_ .shl 36 .u64 16),[7,8,9,10,11,12],false,0,0⟩,
 ⟨pr_ 38 (bt_ .or 30 37),[1,2,3,4,5,6,7,8,9,10,11,12,13],false,0,0⟩,
 ⟨mv_ 39 6,[],false,0,0⟩,
 ⟨pr_ 40 (.bin false .mul (.const (.int .i64 4)) (.tmp 39)),[15],false,0,0⟩,
 ⟨pr_ 41 (bk_ .add 40 .i64 2),[15,16],false,0,0⟩,
 ⟨pr_ 42 (.iadra 1 64 (.tmp 3) (.tmp 41)),[15,16,17],false,0,0⟩,
 ⟨pr_ 43 (lf_ 1 42),[15,16,17,18],false,0,0⟩,
 ⟨pr_ 44 (.convi .u32 (.tmp 43)),[15,16,17,18,19],false,0,0⟩,
 ⟨pr_ 45 (bk_ .shl 44 .u64 8),[15,16,17,18,19,20],false,0,0⟩,
 ⟨pr_ 46 (bt_ .or 38 45),[1,2,3,4,5,6,7,8,9,10,11,12,13,14,15,16,17,18,19,20,21],false,0,0⟩,
 ⟨mv_ 47 6,[],false,0,0⟩,
 ⟨pr_ 48 (.bin false .mul (.const (.int .i64 4)) (.tmp 47)),[23],false,0,0⟩,
 ⟨pr_ 49 (bk_ .add 48 .i64 3),[23,24],false,0,0⟩,
 ⟨pr_ 50 (.iadra 1 64 (.tmp 3) (.tmp 49)),[23,24,25],false,0,0⟩,
 ⟨pr_ 51 (lf_ 1 50),[23,24,25,26],false,0,0⟩,
 ⟨pr_ 52 (.convi .u32 (.tmp 51)),[23,24,25,26,27],false,0,0⟩,
 ⟨pr_ 53 (bt_ .or 46 52),[1,2,3,4,5,6,7,8,9,10,11,12,13,14,15,16,17,18,19,20,21,22,23,24,25,26,27,28],false,0,0⟩,
 ⟨pr_ 54 (.iadra 1 64 (.tmp 5) (.tmp 24)),(List.range 30),false,0,0⟩,
 ⟨st_ (so_ 1 54 53),(List.range 31),true,0,0⟩])
 (.exit 1))
 .skip))
 (.seq (.draw [⟨mv_ 55 6,[],false,0,0⟩,
 ⟨pr_ 56 (bk_ .sub 55 .i64 15),[0],false,0,0⟩,
 ⟨pr_ 57 (.iadra 1 64 (.tmp 5) (.tmp 56)),[0,1],false,0,0⟩,
 ⟨pr_ 58 (lf_ 1 57),[0,1,2],false,0,0⟩,
 ⟨mv_ 59 6,[],false,0,0⟩,
 ⟨pr_ 60 (bk_ .sub 59 .i64 2),[4],false,0,0⟩,
 ⟨pr_ 61 (.iadra 1 64 (.tmp 5) (.tmp 60)),[4,5],false,0,0⟩,
 ⟨pr_ 62 (lf_ 1 61),[4,5,6],false,0,0⟩,
 ⟨mv_ 7 58,[0,1,2,3],false,0,0⟩,
 ⟨mv_ 8 62,(List.range 9),false,0,0⟩])
 (sq_ [mv_ 63 7,
 cl_ 64 100 [(.tmp 63),(.const (.int .u64 7))],
 mv_ 65 7,
 cl_ 66 100 [(.tmp 65),(.const (.int .u64 18))],
 pr_ 67 (bt_ .xor 64 66),
 mv_ 68 7,
 pr_ 69 (bk_ .shr 68 .u64 3),
 pr_ 70 (bt_ .xor 67 69),
 mv_ 9 70]
 (sq_ [mv_ 71 8,
 cl_ 72 100 [(.tmp 71),(.const (.int .u64 17))],
 mv_ 73 8,
 cl_ 74 100 [(.tmp 73),(.const (.int .u64 19))],
 pr_ 75 (bt_ .xor 72 74),
 mv_ 76 8,
 pr_ 77 (bk_ .shr 76 .u64 10),
 pr_ 78 (bt_ .xor 75 77),
 mv_ 10 78]
 (.draw [⟨mv_ 79 6,[],false,0,0⟩,
 ⟨mv_ 80 6,[],false,0,0⟩,
 ⟨pr_ 81 (bk_ .sub 80 .i64 16),[1],false,0,0⟩,
 ⟨pr_ 82 (.iadra 1 64 (.tmp 5) (.tmp 81)),[1,2],false,0,0⟩,
 ⟨pr_ 83 (lf_ 1 82),[1,2,3],false,0,0⟩,
 ⟨mv_ 84 9,[],false,0,0⟩,
 ⟨pr_ 85 (bt_ .add 83 84),[1,2,3,4,5],false,0,0⟩,
 ⟨mv_ 86 6,[],false,0,0⟩,
 ⟨pr_ 87 (bk_ .sub 86 .i64 7),[7],false,0,0⟩,
 ⟨pr_ 88 (.iadra 1 64 (.tmp 5) (.tmp 87)),[7,8],false,0,0⟩,
 ⟨pr_ 89 (lf_ 1 88),[7,8,9],false,0,0⟩,
 ⟨pr_ 90 (bt_ .add 85 89),[1,2,3,4,5,6,7,8,9,10],false,0,0⟩,
 ⟨mv_ 91 10,[],false,0,0⟩,
 ⟨pr_ 92 (bt_ .add 90 91),[1,2,3,4,5,6,7,8,9,10,11,12],false,0,0⟩,
 ⟨pr_ 93 (.iadra 1 64 (.tmp 5) (.tmp 79)),(List.range 14),false,0,0⟩,
 ⟨st_ (so_ 1 93 92),(List.range 15),true,0,0⟩]))))))
 (.ops [mv_ 20 6,
 pr_ 21 (bk_ .add 20 .i64 1),
 mv_ 6 21]))))))
 (sq_ [pr_ 94 (lt_ 8 2),
 pr_ 11 (.allocm [.pl (.int .u32 0),.pl (.int .u32 0),.pl (.int .u32 0),.pl (.int .u32 0),.pl (.int .u32 0),.pl (.int .u32 0),.pl (.int .u32 0),.pl (.int .u32 0)]),
 st_ (so_ 8 11 94)]
 (.seq (sq_ [pr_ 12 (mi_ .i64 0)]
 (.block 2 (.loop [0,1,3,6,7,8,9,10,13,14,15,16,17,18,19,20,21,22,23,24,25,26,27,28,29,30,31,32,33,34,35,36,37,38,39,40,41,42,43,44,45,46,47,48,49,50,51,52,53,54,55,56,57,58,59,60,61,62,63,64,65,66,67,68,69,70,71,72,73,74,75,76,77,78,79,80,81,82,83,84,85,86,87,88,89,90,91,92,93,94,95,96,97,98,99,100,101,102,103,104,105,106,107,108,109,110,111,112,113,114,115,116,117,118,119,120,121,122,123,124,125,126,127,128,129,130,131,132,133,134,135,136,137,138,139,140,141,142,143,144,145,146,147,148,149,150,151,152,153,154,155,156,157,158,159,160,161,162,163,164,165,166,167,168,169,170,171,172,173,174,175,176,177,178,179,180,181,182,183,184,185,186,187,188] (.seq (sq_ [mv_ 95 12,
 pr_ 96 (bk_ .lss 95 .i64 64)]
 (.cond (.tmp 96)
 .skip
 (.exit 2)))
 (.seq (.block 3 (.seq (.draw [⟨pr_ 99 (.iadra 1 8 (.tmp 11) (.const (.int .i64 4))),[],false,0,0⟩,
 ⟨pr_ 100 (lf_ 1 99),[0],false,0,0⟩,
 ⟨pr_ 101 (.iadra 1 8 (.tmp 11) (.const (.int .i64 0))),[],false,0,0⟩,
 ⟨pr_ 102 (lf_ 1 101),[2],false,0,0⟩,
 ⟨mv_ 13 100,[0,1],false,0,0⟩,
 ⟨mv_ 14 102,[0,1,2,3,4],false,0,0⟩])
 (.seq (.draw [⟨pr_ 103 (.iadra 1 8 (.tmp 11) (.const (.int .i64 7))),[],false,0,3⟩,
 ⟨pr_ 104 (lf_ 1 103),[0],false,0,3⟩,
 ⟨mv_ 105 13,[],false,0,0⟩,
 ⟨cl_ 106 100 [(.tmp 105),(.const (.int .u64 6))],[2],true,0,0⟩,
 ⟨mv_ 107 13,[],false,0,1⟩,
 ⟨cl_ 108 100 [(.tmp 107),(.const (.int .u64 11))],[2,3,4],true,0,0⟩,
 ⟨pr_ 109 (bt_ .xor 106 108),[2,3,4,5],false,2,3⟩,
 ⟨mv_ 110 13,[],false,0,2⟩,
 ⟨cl_ 111 100 [(.tmp 110),(.const (.int .u64 25))],[2,3,4,5,7],true,0,0⟩,
 ⟨pr_ 112 (bt_ .xor 109 111),[2,3,4,5,6,7,8],false,3,3⟩,
 ⟨pr_ 113 (bt_ .add 104 112),(List.range 10),false,3,3⟩,
 ⟨mv_ 114 13,[],false,0,3⟩,
 ⟨pr_ 115 (.iadra 1 8 (.tmp 11) (.const (.int .i64 5))),[],false,0,3⟩,
 ⟨pr_ 116 (lf_ 1 115),[12],false,0,3⟩,
 ⟨pr_ 117 (bt_ .and 114 116),[11,12,13],false,0,3⟩,
 ⟨mv_ 118 13,[],false,0,3⟩,
 ⟨pr_ 119 (.un .xor (.tmp 118)),[15],false,0,3⟩,
 ⟨pr_ 120 (.iadra 1 8 (.tmp 11) (.const (.int .i64 6))),[],false,0,3⟩,
 ⟨pr_ 121 (lf_ 1 120),[17],false,0,3⟩,
 ⟨pr_ 122 (bt_ .and 119 121),[15,16,17,18],false,0,3⟩,
 ⟨pr_ 123 (bt_ .xor 117 122),[11,12,13,14,15,16,17,18,19],false,0,3⟩,
 ⟨pr_ 124 (bt_ .add 113 123),(List.range 21),false,3,3⟩,
 ⟨mv_ 125 12,[],false,0,3⟩,
 ⟨pr_ 126 (.giadr 1 1 64 (.tmp 125)),[22],false,0,3⟩,
 ⟨pr_ 127 (lf_ 1 126),[22,23],false,0,3⟩,
 ⟨pr_ 128 (bt_ .add 124 127),(List.range 25),false,3,3⟩,
 ⟨mv_ 129 12,[],false,0,3⟩,
 ⟨pr_ 130 (.iadra 1 64 (.tmp 5) (.tmp 129)),[26],false,0,3⟩,
 ⟨pr_ 131 (lf_ 1 130),[26,27],false,0,3⟩,
 ⟨pr_ 132 (bt_ .add 128 131),(List.range 29),false,3,3⟩,
 ⟨mv_ 15 132,(List.range 30),false,3,3⟩])
 (.seq (.draw [⟨mv_ 133 14,[],false,0,0⟩,
 ⟨cl_ 134 100 [(.tmp 133),(.const (.int .u64 2))],[0],true,0,0⟩,
 ⟨mv_ 135 14,[],false,0,1⟩,
 ⟨cl_ 136 100 [(.tmp 135),(.const (.int .u64 13))],[0,1,2],true,0,0⟩,
 ⟨pr_ 137 (bt_ .xor 134 136),[0,1,2,3],false,2,3⟩,
 ⟨mv_ 138 14,[],false,0,2⟩,
 ⟨cl_ 139 100 [(.tmp 138),(.const (.int .u64 22))],[0,1,2,3,5],true,0,0⟩,
 ⟨pr_ 140 (bt_ .xor 137 139),(List.range 7),false,3,3⟩,
 ⟨mv_ 141 14,[],false,0,3⟩,
 ⟨pr_ 142 (.iadra 1 8 (.tmp 11) (.const (.int .i64 1))),[],false,0,3⟩,
 ⟨pr_ 143 (lf_ 1 142),[9],false,0,3⟩,
 ⟨pr_ 144 (bt_ .and 141 143),[8,9,10],false,0,3⟩,
 ⟨mv_ 145 14,[],false,0,3⟩,
 ⟨pr_ 146 (.iadra 1 8 (.tmp 11) (.const (.int .i64 2))),[],false,0,3⟩,
 ⟨pr_ 147 (lf_ 1 146),[13],false,0,3⟩,
 ⟨pr_ 148 (bt_ .and 145 147),[12,13,14],false,0,3⟩,
 ⟨pr_ 149 (bt_ .xor 144 148),[8,9,10,11,12,13,14,15],false,0,3⟩,
 ⟨pr_ 150 (.iadra 1 8 (.tmp 11) (.const (.int .i64 1))),[],false,0,3⟩,
 ⟨pr_ 151 (lf_ 1 150),[17],false,0,3⟩,
 ⟨pr_ 152 (.iadra 1 8 (.tmp 11) (.const (.int .i64 2))),[],false,0,3⟩,
 ⟨pr_ 153 (lf_ 1 152),[19],false,0,3⟩,
 ⟨pr_ 154 (bt_ .and 151 153),[17,18,19,20],false,0,3⟩,
 ⟨pr_ 155 (bt_ .xor 149 154),[8,9,10,11,12,13,14,15,16,17,18,19,20,21],false,0,3⟩,
 ⟨pr_ 156 (bt_ .add 140 155),(List.range 23),false,3,3⟩,
 ⟨mv_ 16 156,(List.range 24),false,3,3⟩])
 (.ops [mv_ 157 15,
 mv_ 158 16,
 pr_ 159 (bt_ .add 157 158),
 mv_ 160 14,
 pr_ 161 (.iadra 1 8 (.tmp 11) (.const (.int .i64 1))),
 pr_ 162 (lf_ 1 161),
 pr_ 163 (.iadra 1 8 (.tmp 11) (.const (.int .i64 2))),
 pr_ 164 (lf_ 1 163),
 pr_ 165 (.iadra 1 8 (.tmp 11) (.const (.int .i64 3))),
 pr_ 166 (lf_ 1 165),
 mv_ 167 15,
 pr_ 168 (bt_ .add 166 167),
 mv_ 169 13,
 pr_ 170 (.iadra 1 8 (.tmp 11) (.const (.int .i64 5))),
 pr_ 171 (lf_ 1 170),
 pr_ 172 (.iadra 1 8 (.tmp 11) (.const (.int .i64 6))),
 pr_ 173 (lf_ 1 172),
 pr_ 174 (.build [.pl (.int .u32 0),.pl (.int .u32 0),.pl (.int .u32 0),.pl (.int .u32 0),.pl (.int .u32 0),.pl (.int .u32 0),.pl (.int .u32 0),.pl (.int .u32 0)] [(0,1,(.tmp 159)),(1,1,(.tmp 160)),(2,1,(.tmp 162)),(3,1,(.tmp 164)),(4,1,(.tmp 168)),(5,1,(.tmp 169)),(6,1,(.tmp 171)),(7,1,(.tmp 173))]),
 st_ (so_ 8 11 174)])))))
 (.ops [mv_ 97 12,
 pr_ 98 (bk_ .add 97 .i64 1),
 mv_ 12 98]))))))
 (.seq (sq_ [pr_ 17 (mi_ .i64 0)]
 (.block 4 (.loop [0,1,3,5,6,7,8,9,10,12,13,14,15,16,18,19,20,21,22,23,24,25,26,27,28,29,30,31,32,33,34,35,36,37,38,39,40,41,42,43,44,45,46,47,48,49,50,51,52,53,54,55,56,57,58,59,60,61,62,63,64,65,66,67,68,69,70,71,72,73,74,75,76,77,78,79,80,81,82,83,84,85,86,87,88,89,90,91,92,93,94,95,96,97,98,99,100,101,102,103,104,105,106,107,108,109,110,111,112,113,114,115,116,117,118,119,120,121,122,123,124,125,126,127,128,129,130,131,132,133,134,135,136,137,138,139,140,141,142,143,144,145,146,147,148,149,150,151,152,153,154,155,156,157,158,159,160,161,162,163,164,165,166,167,168,169,170,171,172,173,174,175,176,177,178,179,180,181,182,183,184,185,186,187,188] (.seq (sq_ [mv_ 175 17,
 pr_ 176 (bk_ .lss 175 .i64 8)]
 (.cond (.tmp 176)
 .skip
 (.exit 4)))
 (.seq (.block 5 (.draw [⟨mv_ 179 17,[],false,0,0⟩,
 ⟨mv_ 180 17,[],false,0,0⟩,
 ⟨pr_ 181 (.iadra 1 8 (.tmp 11) (.tmp 180)),[1],false,0,0⟩,
 ⟨pr_ 182 (lf_ 1 181),[1,2],false,0,0⟩,
 ⟨mv_ 183 17,[],false,0,0⟩,
 ⟨pr_ 184 (.iadra 1 8 (.tmp 2) (.tmp 183)),[4],false,0,0⟩,
 ⟨pr_ 185 (lf_ 1 184),[4,5],false,0,0⟩,
 ⟨pr_ 186 (bt_ .add 182 185),[1,2,3,4,5,6],false,0,0⟩,
 ⟨pr_ 187 (.iadra 1 8 (.tmp 11) (.tmp 179)),(List.range 8),false,0,0⟩,
 ⟨st_ (so_ 1 187 186),(List.range 9),true,0,0⟩]))
 (.ops [mv_ 177 17,
 pr_ 178 (bk_ .add 177 .i64 1),
 mv_ 17 178]))))))
 (sq_ [pr_ 188 (lt_ 8 11),
 st_ (so_ 8 4 188)]
 .ret)))))))
def o74:List Tmp:=[4,5,11]
def r74:List RV:=[.cell 4 8 true]
theorem t74:Text Tryz.prog 74 o74 c74 r74 189:=.mk_ Tryz.f74 rfl
def c75:ACode :=
 (sq_ [pr_ 2 (.allocm z19_),
 pr_ 3 mf_]
 (sq_ [mv_ 5 0,
 c1_ 6 59 5,
 mv_ 4 6]
 (sq_ [mv_ 7 4,
 c1_ 8 102 7,
 mv_ 9 4,
 mv_ 10 0,
 cl_ 11 101 [(.tmp 8),(.tmp 9),(.tmp 10)],
 pr_ 12 (ex_ 0 11),
 pr_ 13 (ex_ 1 11),
 st_ (so_ 19 2 12),
 mv_ 3 13]
 .ret)))
def o75:List Tmp:=[2]
def r75:List RV:=[.cell 2 19 true,.tmp 3]
theorem t75:Text Tryz.prog 75 o75 c75 r75 14:=.mk_ Tryz.f75 rfl
def c82:ACode :=
 (sq_ [pr_ 2 (.mov (.const (.slice none 0 0)))]
 (sq_ [pr_ 5 (.mks 1 false [.pl (.int .u8 0)] (.const (.int .i64 8)) (.const (.int .i64 8))),
 mv_ 3 5]
 (.seq (sq_ [pr_ 4 (mi_ .i64 0)]
 (.block 0 (.loop [1,2,5,6,7,8,9,10,11,12,13,14,15,16,17,18,19,20] (.seq (sq_ [mv_ 6 4,
 pr_ 7 (bk_ .lss 6 .i64 8)]
 (.cond (.tmp 7)
 .skip
 (.exit 0)))
 (.seq (.block 1 (.ops [mv_ 10 3,
 mv_ 11 4,
 mv_ 12 0,
 mv_ 13 4,
 pr_ 14 (.bin false .mul (.const (.int .i64 8)) (.tmp 13)),
 pr_ 15 (.bin false .sub (.const (.int .i64 56)) (.tmp 14)),
 pr_ 16 (.convi .u64 (.tmp 15)),
 pr_ 17 (bt_ .shr 12 16),
 pr_ 18 (.convi .u8 (.tmp 17)),
 pr_ 19 (.iadrs 1 (.tmp 10) (.tmp 11)),
 st_ (so_ 1 19 18)]))
 (.ops [mv_ 8 4,
 pr_ 9 (bk_ .add 8 .i64 1),
 mv_ 4 9]))))))
 (sq_ [mv_ 20 3,
 mv_ 2 20]
 (.ghost (.shut 2) .ret)))))
def o82:List Tmp:=[]
def r82:List RV:=[.tmp 2]
theorem t82:Text Tryz.prog 82 o82 c82 r82 21:=.mk_ Tryz.f82 rfl
def c92:ACode :=
 (sq_ [pr_ 1 (.boxr (.tmp 0)),
 pr_ 2 (.allocm [.pl (.int .u32 0),.pl (.int .u32 0),.pl (.int .u32 0),.pl (.int .u32 0),.pl (.int .u32 0),.pl (.int .u32 0),.pl (.int .u32 0),.pl (.int .u32 0),.pl (.int .u32 0),.pl (.int .u32 0),.pl (.int .u32 0),.pl (.int .u32 0),.pl (.int .u32 0),.pl (.int .u32 0),.pl (.int .u32 0),.pl (.int .u32 0),.pl (.int .u32 0),.pl (.int .u32 0),.pl (.int .u32 0),.pl (.int .u32 0),.pl (.int .u32 0),.pl (.int .u32 0),.pl (.int .u32 0),.pl (.int .u32 0),.pl (.int .u32 0),.pl (.int .u32 0),.pl (.int .u32 0),.pl (.int .u32 0),.pl (.int .u32 0),.pl (.int .u32 0),.pl (.int .u32 0),.pl (.int .u32 0),.pl (.int .u32 0),.pl (.int .u32 0),.pl (.int .u32 0),.pl (.int .u32 0),.pl (.int .u32 0),.pl (.int .u32 0),.pl (.int .u32 0),.pl (.int .u32 0),.pl (.int .u32 0),.pl (.int .u32 0),.pl (.int .u32 0),.pl (.int .u32 0),.pl (.int .u32 0),.pl (.int .u32 0),.pl (.int .u32 0),.pl (.int .u32 0),.pl (.int .u32 0),.pl (.int .u32 0),.pl (.int .u32 0),.pl (.int .u32 0),.pl (.int .u32 0),.pl (.int .u32 0),.pl (.int .u32 0),.pl (.int .u32 0),.pl (.int .u32 0),.pl (.int .u32 0),.pl (.int .u32 0),.pl (.int .u32 0),.pl (.int .u32 0),.pl (.int .u32 0),.pl (.int .u32 0),.pl (.int .u32 0)])]
 (sq_ [pr_ 3 (.allocm [.pl (.int .u32 0),.pl (.int .u32 0),.pl (.int .u32 0),.pl (.int .u32 0),.pl (.int .u32 0),.pl (.int .u32 0),.pl (.int .u32 0),.pl (.int .u32 0),.pl (.int .u32 0),.pl (.int .u32 0),.pl (.int .u32 0),.pl (.int .u32 0),.pl (.int .u32 0),.pl (.int .u32 0),.pl (.int .u32 0),.pl (.int .u32 0),.pl (.int .u32 0),.pl (.int .u32 0),.pl (.int .u32 0),.pl (.int .u32 0),.pl (.int .u32 0),.pl (.int .u32 0),.pl (.int .u32 0),.pl (.int .u32 0),.pl (.int .u32 0),.pl (.int .u32 0),.pl (.int .u32 0),.pl (.int .u32 0),.pl (.int .u32 0),.pl (.int .u32 0),.pl (.int .u32 0),.pl (.int .u32 0),.pl (.int .u32 0),.pl (.int .u32 0),.pl (.int .u32 0),.pl (.int .u32 0),.pl (.int .u32 0),.pl (.int .u32 0),.pl (.int .u32 0),.pl (.int .u32 0),.pl (.int .u32 0),.pl (.int .u32 0),.pl (.int .u32 0),.pl (.int .u32 0),.pl (.int .u32 0),.pl (.int .u32 0),.pl (.int .u32 0),.pl (.int .u32 0),.pl (.int .u32 0),.pl (.int .u32 0),.pl (.int .u32 0),.pl (.int .u32 0),.pl (.int .u32 0),.pl (.int .u32 0),.pl (.int .u32 0),.pl (.int .u32 0),.pl (.int .u32 0),.pl (.int .u32 0),.pl (.int .u32 0),.pl (.int .u32 0),.pl (.int .u32 0),.pl (.int .u32 0),.pl (.int .u32 0),.pl (.int .u32 0)])]
 (.seq (sq_ [pr_ 10 (mi_ .i64 0)]
 (.block 0 (.loop [0,4,5,6,7,8,9,11,12,13,14,15,16,17,18,19,20,21,22,23,24,25,26,27,28,29,30,31,32,33,34,35,36,37,38,39,40,41,42,43,44,45,46,47,48,49,50,51,52,53,54,55,56,57,58,59,60,61,62,63,64,65,66,67,68,69,70,71,72,73,74,75,76,77,78,79,80,81,82,83,84,85,86,87,88] (sq_ [pr_ 11 (bk_ .lss 10 .i64 16)]
 (.seq (.cond (.tmp 11)
 .skip
 (.exit 0))
 (.seq (.block 1 (sq_ [mv_ 12 10,
 mv_ 4 12]
 (.draw [⟨mv_ 13 4,[],false,0,0⟩,
 ⟨mv_ 14 4,[],false,0,0⟩,
 ⟨pr_ 15 (.bin false .mul (.const (.int .i64 4)) (.tmp 14)),[1],false,0,0⟩,
 ⟨pr_ 16 (.iadra 1 64 (.tmp 1) (.tmp 15)),[1,2],false,0,0⟩,
 ⟨pr_ 17 (lf_ 1 16),[1,2,3],false,0,0⟩,
 ⟨pr_ 18 (.convi .u32 (.tmp 17)),[1,2,3,4],false,0,0⟩,
 ⟨pr_ 19 (bk_ .shl 18 .u64 24),[1,2,3,4,5],false,0,0⟩,
 ⟨mv_ 20 4,[],false,0,0⟩,
 ⟨pr_ 21 (.bin false .mul (.const (.int .i64 4)) (.tmp 20)),[7],false,0,0⟩,
 ⟨pr_ 22 (bk_ .add 21 .i64 1),[7,8],false,0,0⟩,
 ⟨pr_ 23 (.iadra 1 64 (.tmp 1) (.tmp 22)),[7,8,9],false,0,0⟩,
 ⟨pr_ 24 (lf_ 1 23),[7,8,9,10],false,0,0⟩,
 ⟨pr_ 25 (.convi .u32 (.tmp 24)),[7,8,9,10,11],false,0,0⟩,
 ⟨pr_ 26 (bk_ .shl 25 .u64 16),[7,8,9,10,11,12],false,0,0⟩,
 ⟨pr_ 27 (bt_ .or 19 26),[1,2,3,4,5,6,7,8,9,10,11,12,13],false,0,0⟩,
 ⟨mv_ 28 4,[],false,0,0⟩,
 ⟨pr_ 29 (.bin false .mul (.const (.int .i64 4)) (.tmp 28)),[15],false,0,0⟩,
 ⟨pr_ 30 (bk_ .add 29 .i64 2),[15,16],false,0,0⟩,
 ⟨pr_ 31 (.iadra 1 64 (.tmp 1) (.tmp 30)),[15,16,17],false,0,0⟩,
 ⟨pr_ 32 (lf_ 1 31),[15,16,17,18],false,0,0⟩,
 ⟨pr_ 33 (.convi .u32 (.tmp 32)),[15,16,17,18,19],false,0,0⟩,
 ⟨pr_ 34 (bk_ .shl 33 .u64 8),[15,16,17,18,19,20],false,0,0⟩,
 ⟨pr_ 35 (bt_ .or 27 34),[1,2,3,4,5,6,7,8,9,10,11,12,13,14,15,16,17,18,19,20,21],false,0,0⟩,
 ⟨mv_ 36 4,[],false,0,0⟩,
 ⟨pr_ 37 (.bin false .mul (.const (.int .i64 4)) (.tmp 36)),[23],false,0,0⟩,
 ⟨pr_ 38 (bk_ .add 37 .i64 3),[23,24],false,0,0⟩,
 ⟨pr_ 39 (.iadra 1 64 (.tmp 1) (.tmp 38)),[23,24,25],false,0,0⟩,
 ⟨pr_ 40 (lf_ 1 39),[23,24,25,26],false,0,0⟩,
 ⟨pr_ 41 (.convi .u32 (.tmp 40)),[23,24,25,26,27],false,0,0⟩,
 ⟨pr_ 42 (bt_ .or 35 41),[1,2,3,4,5,6,7,8,9,10,11,12,13,14,15,16,17,18,19,20,21,22,23,24,25,26,27,28],false,0,0⟩,
 ⟨pr_ 43 (.iadra 1 64 (.tmp 3) (.tmp 13)),(List.range 30),false,0,0⟩,
 ⟨st_ (so_ 1 43 42),(List.range 31),true,0,0⟩])))
 (.ops [pr_ 44 (bk_ .add 10 .i64 1),
 mv_ 10 44])))))))
 (.seq (sq_ [pr_ 5 (mi_ .i64 16)]
 (.block 2 (.loop [0,1,4,6,7,8,9,10,11,12,13,14,15,16,17,18,19,20,21,22,23,24,25,26,27,28,29,30,31,32,33,34,35,36,37,38,39,40,41,42,43,44,45,46,47,48,49,50,51,52,53,54,55,56,57,58,59,60,61,62,63,64,65,66,67,68,69,70,71,72,73,74,75,76,77,78,79,80,81,82,83,84,85,86,87,88] (.seq (sq_ [mv_ 45 5,
 pr_ 46 (bk_ .lss 45 .i64 64)]
 (.cond (.tmp 46)
 .skip
 (.exit 2)))
 (.seq (.block 3 (.seq (.draw [⟨mv_ 49 5,[],false,0,0⟩,
 ⟨pr_ 50 (bk_ .sub 49 .i64 15),[0],false,0,0⟩,
 ⟨pr_ 51 (.iadra 1 64 (.tmp 3) (.tmp 50)),[0,1],false,0,0⟩,
 ⟨pr_ 52 (lf_ 1 51),[0,1,2],false,0,0⟩,
 ⟨mv_ 53 5,[],false,0,0⟩,
 ⟨pr_ 54 (bk_ .sub 53 .i64 2),[4],false,0,0⟩,
 ⟨pr_ 55 (.iadra 1 64 (.tmp 3) (.tmp 54)),[4,5],false,0,0⟩,
 ⟨pr_ 56 (lf_ 1 55),[4,5,6],false,0,0⟩,
 ⟨mv_ 6 52,[0,1,2,3],false,0,0⟩,
 ⟨mv_ 7 56,(List.range 9),false,0,0⟩])
 (sq_ [mv_ 57 6,
 cl_ 58 93 [(.tmp 57),(.const (.int .i64 (-7)))],
 mv_ 59 6,
 cl_ 60 93 [(.tmp 59),(.const (.int .i64 (-18)))],
 pr_ 61 (bt_ .xor 58 60),
 mv_ 62 6,
 pr_ 63 (bk_ .shr 62 .u64 3),
 pr_ 64 (bt_ .xor 61 63),
 mv_ 8 64]
 (sq_ [mv_ 65 7,
 cl_ 66 93 [(.tmp 65),(.const (.int .i64 (-17)))],
 mv_ 67 7,
 cl_ 68 93 [(.tmp 67),(.const (.int .i64 (-19)))],
 pr_ 69 (bt_ .xor 66 68),
 mv_ 70 7,
 pr_ 71 (bk_ .shr 70 .u64 10),
 pr_ 72 (bt_ .xor 69 71),
 mv_ 9 72]
 (.draw [⟨mv_ 73 5,[],false,0,0⟩,
 ⟨mv_ 74 5,[],false,0,0⟩,
 ⟨pr_ 75 (bk_ .sub 74 .i64 16),[1],false,0,0⟩,
 ⟨pr_ 76 (.iadra 1 64 (.tmp 3) (.tmp 75)),[1,2],false,0,0⟩,
 ⟨pr_ 77 (lf_ 1 76),[1,2,3],false,0,0⟩,
 ⟨mv_ 78 8,[],false,0,0⟩,
 ⟨pr_ 79 (bt_ .add 77 78),[1,2,3,4,5],false,0,0⟩,
 ⟨mv_ 80 5,[],false,0,0⟩,
 ⟨pr_ 81 (bk_ .sub 80 .i64 7),[7],false,0,0⟩,
 ⟨pr_ 82 (.iadra 1 64 (.tmp 3) (.tmp 81)),[7,8],false,0,0⟩,
 ⟨pr_ 83 (lf_ 1 82),[7,8,9],false,0,0⟩,
 ⟨pr_ 84 (bt_ .add 79 83),[1,2,3,4,5,6,7,8,9,10],false,0,0⟩,
 ⟨mv_ 85 9,[],false,0,0⟩,
 ⟨pr_ 86 (bt_ .add 84 85),[1,2,3,4,5,6,7,8,9,10,11,12],false,0,0⟩,
 ⟨pr_ 87 (.iadra 1 64 (.tmp 3) (.tmp 73)),(List.range 14),false,0,0⟩,
 ⟨st_ (so_ 1 87 86),(List.range 15),true,0,0⟩])))))
 (.ops [mv_ 47 5,
 pr_ 48 (bk_ .add 47 .i64 1),
 mv_ 5 48]))))))
 (sq_ [pr_ 88 (lt_ 64 3),
 st_ (so_ 64 2 88)]
 .ret)))))
def o92:List Tmp:=[2,3]
def r92:List RV:=[.cell 2 64 true]
theorem t92:Text Tryz.prog 92 o92 c92 r92 89:=.mk_ Tryz.f92 rfl
def c93:ACode :=
 (sq_ [pr_ 4 (mi_ .u32 0)]
 (sq_ [mv_ 6 1,
 pr_ 7 (.convi .u64 (.tmp 6)),
 pr_ 8 (bk_ .and 7 .u64 31),
 mv_ 5 8]
 (sq_ [mv_ 9 0,
 mv_ 10 5,
 pr_ 11 (bt_ .shl 9 10),
 mv_ 12 0,
 mv_ 13 5,
 pr_ 14 (.bin false .sub (.const (.int .u64 32)) (.tmp 13)),
 pr_ 15 (bt_ .shr 12 14),
 pr_ 16 (bt_ .or 11 15),
 mv_ 4 16]
 .ret)))
def o93:List Tmp:=[]
def r93:List RV:=[.tmp 4]
theorem t93:Text Tryz.prog 93 o93 c93 r93 17:=.mk_ Tryz.f93 rfl
def c94:ACode :=
 (sq_ [pr_ 4 (.mov (.const (.slice none 0 0)))]
 (.seq (sq_ [mv_ 5 1,
 pr_ 6 (bk_ .lss 5 .i64 0)]
 (.cond (.tmp 6)
 (.ops [pr_ 7 (.bad),
 st_ (.bad)])
 .skip))
 (.seq (sq_ [mv_ 8 1,
 mv_ 9 0,
 pr_ 10 (.capn (.tmp 9)),
 mv_ 11 0,
 pr_ 12 (.lenv (.tmp 11)),
 pr_ 13 (bt_ .sub 10 12),
 pr_ 14 (bt_ .sub 8 13),
 mv_ 1 14]
 (sq_ [mv_ 15 1,
 pr_ 16 (bk_ .gtr 15 .i64 0)]
 (.cond (.tmp 16)
 (.ops [mv_ 17 0,
 mv_ 18 0,
 pr_ 19 (.capn (.tmp 18)),
 pr_ 20 (.slco 1 (.tmp 17) none (some (.tmp 19))),
 mv_ 21 1,
 pr_ 22 (.appz 1 false [.pl (.int .u8 0)] (.tmp 20) (.tmp 21)),
 mv_ 23 0,
 pr_ 24 (.lenv (.tmp 23)),
 pr_ 25 (.slco 1 (.tmp 22) none (some (.tmp 24))),
 mv_ 0 25])
 .skip)))
 (sq_ [mv_ 26 0,
 mv_ 4 26]
 .ret))))
def o94:List Tmp:=[20,25]
def r94:List RV:=[.tmp 4]
theorem t94:Text Tryz.prog 94 o94 c94 r94 27:=.mk_ Tryz.f94 rfl
def c95:ACode :=
 (sq_ [pr_ 2 (mi_ .u64 0),
 pr_ 3 (mi_ .i64 0),
 pr_ 4 mf_]
 (sq_ [pr_ 5 (mi_ .u64 0)]
 (.seq (sq_ [mv_ 8 0,
 pr_ 9 (.lenv (.tmp 8)),
 pr_ 10 (mi_ .i64 0)]
 (.block 0 (.loop [0,1,2,3,4,6,7,11,12,13,14,15,16,17,18,19,20,21,22,23,24,25,26,27,28,29,30,31,32,33,34,35,36,37,38,39,40,41,42] (sq_ [pr_ 11 (bt_ .lss 10 9)]
 (.seq (.cond (.tmp 11)
 .skip
 (.exit 0))
 (.seq (.block 1 (sq_ [mv_ 12 10,
 pr_ 13 (.iadrs 1 (.tmp 8) (.tmp 10)),
 pr_ 14 (lf_ 1 13),
 mv_ 6 12,
 mv_ 7 14]
 (.seq (sq_ [mv_ 15 6,
 pr_ 16 (bk_ .eql 15 .i64 9),
 mv_ 17 16,
 gp_ 18 17 true (mo_ 7),
 gp_ 19 17 true (bk_ .gtr 18 .u8 1),
 pr_ 20 (pa_ 17 19),
 mv_ 21 20,
 gp_ 22 21 false (mo_ 6),
 gp_ 23 21 false (bk_ .gtr 22 .i64 0),
 gp_ 24 21 false (mo_ 23),
 gp_ 25 24 true (mo_ 7),
 gp_ 26 24 true (bk_ .eql 25 .u8 0),
 gp_ 27 21 false (pa_ 24 26),
 pr_ 28 (po_ 21 27)]
 (.cond (.tmp 28)
 (.exit 0)
 .skip))
 (sq_ [mv_ 29 5,
 mv_ 30 7,
 pr_ 31 (bk_ .and 30 .u8 127),
 pr_ 32 (.convi .u64 (.tmp 31)),
 mv_ 33 6,
 pr_ 34 (.bin false .mul (.const (.int .i64 7)) (.tmp 33)),
 pr_ 35 (bt_ .shl 32 34),
 pr_ 36 (bt_ .or 29 35),
 mv_ 5 36]
 (sq_ [mv_ 37 7,
 pr_ 38 (bk_ .lss 37 .u8 128)]
 (.cond (.tmp 38)
 (sq_ [mv_ 39 5,
 mv_ 40 6,
 pr_ 41 (bk_ .add 40 .i64 1),
 mv_ 2 39,
 mv_ 3 41,
 pr_ 4 mt_]
 .ret)
 .skip))))))
 (.ops [pr_ 42 (bk_ .add 10 .i64 1),
 mv_ 10 42])))))))
 (sq_ [pr_ 2 (mi_ .u64 0),
 pr_ 3 (mi_ .i64 0),
 pr_ 4 mf_]
 .ret))))
def o95:List Tmp:=[]
def r95:List RV:=[.tmp 2,.tmp 3,.tmp 4]
theorem t95:Text Tryz.prog 95 o95 c95 r95 43:=.mk_ Tryz.f95 rfl
def c96:ACode :=
 (sq_ [pr_ 2 (.mov (.const (.slice none 0 0)))]
 (.seq (.draw [⟨mv_ 3 0,[],false,0,0⟩,
 ⟨pr_ 4 (nc_ 3),[0],false,0,0⟩,
 ⟨pr_ 5 (fa_ 0 4),[0,1],false,0,0⟩,
 ⟨pr_ 6 (lf_ 1 5),[0,1,2],false,0,0⟩,
 ⟨mv_ 7 0,[],false,0,0⟩,
 ⟨pr_ 8 (nc_ 7),[4],false,0,0⟩,
 ⟨pr_ 9 (fa_ 1 8),[4,5],false,0,0⟩,
 ⟨pr_ 10 (lf_ 1 9),[4,5,6],false,0,0⟩,
 ⟨pr_ 11 (.slcv 1 (.tmp 6) (some (.tmp 10)) none),(List.range 8),false,0,0⟩,
 ⟨mv_ 2 11,(List.range 9),false,0,0⟩])
 (.ghost (.shut 2) .ret)))
def o96:List Tmp:=[]
def r96:List RV:=[.tmp 2]
theorem t96:Text Tryz.prog 96 o96 c96 r96 12:=.mk_ Tryz.f96 rfl
def c97:ACode :=
 (sq_ [pr_ 6 mf_]
 (sq_ [mv_ 7 0,
 mv_ 8 0,
 pr_ 9 (nc_ 8),
 pr_ 10 (fa_ 2 9),
 pr_ 11 (lf_ 1 10),
 mv_ 12 11,
 gp_ 13 12 false (mo_ 2),
 gp_ 14 12 false (no_ 13),
 pr_ 15 (po_ 12 14),
 pr_ 16 (nc_ 7),
 pr_ 17 (fa_ 2 16),
 st_ (so_ 1 17 15)]
 (.seq (sq_ [mv_ 18 0,
 pr_ 19 (nc_ 18),
 pr_ 20 (fa_ 2 19),
 pr_ 21 (lf_ 1 20),
 pr_ 22 (no_ 21)]
 (.cond (.tmp 22)
 (.ops [mv_ 23 0,
 pr_ 24 (nc_ 23),
 pr_ 25 (fa_ 1 24),
 pr_ 26 (lf_ 1 25),
 mv_ 27 1,
 pr_ 28 (bt_ .add 26 27),
 pr_ 29 (nc_ 23),
 pr_ 30 (fa_ 1 29),
 st_ (so_ 1 30 28)])
 .skip))
 (sq_ [mv_ 31 0,
 pr_ 32 (nc_ 31),
 pr_ 33 (fa_ 2 32),
 pr_ 34 (lf_ 1 33),
 pr_ 35 (no_ 34),
 mv_ 6 35]
 .ret))))
def o97:List Tmp:=[]
def r97:List RV:=[.tmp 6]
theorem t97:Text Tryz.prog 97 o97 c97 r97 36:=.mk_ Tryz.f97 rfl
def c98:ACode :=
 (sq_ [pr_ 2 (mi_ .u8 0)]
 (sq_ [mv_ 4 0,
 c1_ 5 96 4,
 mv_ 3 5]
 (.seq (sq_ [mv_ 6 0,
 mv_ 7 3,
 pr_ 8 (.lenv (.tmp 7)),
 pr_ 9 (bk_ .gtr 8 .i64 0),
 cl_ 10 97 [(.tmp 6),(.const (.int .i64 1)),(.tmp 9)],
 pr_ 11 (no_ 10)]
 (.cond (.tmp 11)
 (sq_ [pr_ 2 (mi_ .u8 0)]
 .ret)
 .skip))
 (sq_ [mv_ 12 3,
 pr_ 13 (.iadrs 1 (.tmp 12) (.const (.int .i64 0))),
 pr_ 14 (lf_ 1 13),
 mv_ 2 14]
 .ret))))
def o98:List Tmp:=[]
def r98:List RV:=[.tmp 2]
theorem t98:Text Tryz.prog 98 o98 c98 r98 15:=.mk_ Tryz.f98 rfl
def c99:ACode :=
 (sq_ [pr_ 4 (.mov (.const (.string (ByteArray.mk #[])))),
 pr_ 5 (mi_ .i64 0),
 pr_ 6 mf_]
 (sq_ [mv_ 12 0,
 c1_ 13 95 12,
 mv_ 11 13,
 pr_ 14 (ex_ 0 11),
 pr_ 15 (ex_ 1 11),
 pr_ 16 (ex_ 2 11),
 mv_ 7 14,
 mv_ 8 15,
 mv_ 9 16]
 (.seq (sq_ [mv_ 17 9,
 pr_ 18 (no_ 17),
 mv_ 19 18,
 gp_ 20 19 false (mo_ 1),
 gp_ 21 19 false (bk_ .lss 20 .i64 0),
 pr_ 22 (po_ 19 21),
 mv_ 23 22,
 gp_ 24 23 false (mo_ 7),
 gp_ 25 23 false (mo_ 1),
 gp_ 26 23 false (.convi .u64 (.tmp 25)),
 gp_ 27 23 false (bt_ .gtr 24 26),
 pr_ 28 (po_ 23 27),
 mv_ 29 28,
 gp_ 30 29 false (mo_ 7),
 gp_ 31 29 false (mo_ 0),
 gp_ 32 29 false (.lenv (.tmp 31)),
 gp_ 33 29 false (mo_ 8),
 gp_ 34 29 false (bt_ .sub 32 33),
 gp_ 35 29 false (.convi .u64 (.tmp 34)),
 gp_ 36 29 false (bt_ .gtr 30 35),
 pr_ 37 (po_ 29 36)]
 (.cond (.tmp 37)
 (sq_ [pr_ 4 (.mov (.const (.string (ByteArray.mk #[])))),
 pr_ 5 (mi_ .i64 0),
 pr_ 6 mf_]
 .ret)
 .skip))
 (sq_ [mv_ 38 8,
 mv_ 39 7,
 pr_ 40 (.convi .i64 (.tmp 39)),
 pr_ 41 (bt_ .add 38 40),
 mv_ 10 41]
 (sq_ [mv_ 42 0,
 mv_ 43 8,
 mv_ 44 10,
 pr_ 45 (.slcv 1 (.tmp 42) (some (.tmp 43)) (some (.tmp 44))),
 pr_ 46 (.b2s (.tmp 45)),
 mv_ 47 10,
 mv_ 4 46,
 mv_ 5 47,
 pr_ 6 mt_]
 .ret)))))
def o99:List Tmp:=[]
def r99:List RV:=[.tmp 4,.tmp 5,.tmp 6]
theorem t99:Text Tryz.prog 99 o99 c99 r99 48:=.mk_ Tryz.f99 rfl
def c100:ACode :=
 (sq_ [pr_ 4 (mi_ .u32 0)]
 (sq_ [mv_ 5 0,
 mv_ 6 1,
 pr_ 7 (bt_ .shr 5 6),
 mv_ 8 0,
 mv_ 9 1,
 pr_ 10 (.bin false .sub (.const (.int .u64 32)) (.tmp 9)),
 pr_ 11 (bt_ .shl 8 10),
 pr_ 12 (bt_ .or 7 11),
 mv_ 4 12]
 .ret))
def o100:List Tmp:=[]
def r100:List RV:=[.tmp 4]
theorem t100:Text Tryz.prog 100 o100 c100 r100 13:=.mk_ Tryz.f100 rfl
def c101:ACode :=
 (sq_ [pr_ 3 (.boxr (.tmp 0)),
 pr_ 6 (.allocm z19_),
 pr_ 7 mf_]
 (.seq (sq_ [mv_ 11 1,
 c1_ 12 63 11,
 mv_ 10 12,
 pr_ 13 (ex_ 0 10),
 pr_ 14 (ex_ 1 10),
 mv_ 8 13,
 mv_ 9 14]
 (sq_ [mv_ 15 9,
 pr_ 16 (no_ 15),
 mv_ 17 16,
 gp_ 18 17 false (mo_ 8),
 gp_ 19 17 false (mo_ 2),
 gp_ 20 17 false (.lenv (.tmp 19)),
 gp_ 21 17 false (bt_ .neq 18 20),
 pr_ 22 (po_ 17 21)]
 (.cond (.tmp 22)
 (sq_ [pr_ 23 (.build z19_ []),
 st_ (so_ 19 6 23),
 pr_ 7 mf_]
 .ret)
 .skip)))
 (sq_ [pr_ 24 (lt_ 19 3),
 st_ (so_ 19 6 24),
 pr_ 7 mt_]
 .ret)))
def o101:List Tmp:=[6]
def r101:List RV:=[.cell 6 19 true,.tmp 7]
theorem t101:Text Tryz.prog 101 o101 c101 r101 25:=.mk_ Tryz.f101 rfl
def c102:ACode :=
 (sq_ [pr_ 2 (.allocm z19_)]
 (sq_ [mv_ 8 0,
 c1_ 9 98 8,
 pr_ 10 (.convi .i64 (.tmp 9)),
 pr_ 11 (.build z19_ [(1,1,(.tmp 10))]),
 pr_ 3 (.allocm z19_),
 st_ (so_ 19 3 11)]
 (sq_ [pr_ 13 (fa_ 1 3),
 pr_ 14 (lf_ 1 13),
 c1_ 15 119 14,
 mv_ 12 15,
 pr_ 16 (ex_ 0 12),
 pr_ 17 (ex_ 1 12),
 mv_ 4 16,
 mv_ 5 17]
 (sq_ [mv_ 18 0,
 mv_ 19 5,
 cl_ 20 120 [(.tmp 18),(.tmp 19)]]
 (.seq (sq_ [mv_ 21 4,
 pr_ 22 (bk_ .and 21 .i64 1),
 pr_ 23 (bk_ .gtr 22 .i64 0)]
 (.cond (.tmp 23)
 (.ops [mv_ 24 0,
 cl_ 25 60 [(.tmp 24),(.const (.int .u64 2147483647))],
 pr_ 26 (.convi .i64 (.tmp 25)),
 pr_ 27 (fa_ 2 3),
 st_ (so_ 1 27 26)])
 .skip))
 (.seq (sq_ [mv_ 28 4,
 pr_ 29 (bk_ .and 28 .i64 2),
 pr_ 30 (bk_ .gtr 29 .i64 0)]
 (.cond (.tmp 30)
 (.ops [mv_ 31 0,
 cl_ 32 62 [(.tmp 31),(.const (.int .i64 16))],
 pr_ 33 (fa_ 3 3),
 st_ (so_ 1 33 32)])
 .skip))
 (.seq (sq_ [mv_ 34 4,
 pr_ 35 (bk_ .and 34 .i64 4),
 pr_ 36 (bk_ .gtr 35 .i64 0)]
 (.cond (.tmp 36)
 (.ops [mv_ 37 0,
 cl_ 38 60 [(.tmp 37),(.const (.int .u64 1099511627776))],
 mv_ 39 0,
 cl_ 40 60 [(.tmp 39),(.const (.int .u64 1099511627776))],
 pr_ 41 (fa_ 4 3),
 st_ (so_ 1 41 38),
 pr_ 42 (fa_ 5 3),
 st_ (so_ 1 42 40)])
 .skip))
 (.seq (sq_ [mv_ 43 4,
 pr_ 44 (bk_ .and 43 .i64 8),
 pr_ 45 (bk_ .gtr 44 .i64 0)]
 (.cond (.tmp 45)
 (.ops [mv_ 46 0,
 c1_ 47 98 46,
 pr_ 48 (.convi .i64 (.tmp 47)),
 pr_ 49 (fa_ 6 3),
 st_ (so_ 1 49 48)])
 .skip))
 (.seq (sq_ [mv_ 50 4,
 pr_ 51 (bk_ .and 50 .i64 16),
 pr_ 52 (bk_ .gtr 51 .i64 0)]
 (.cond (.tmp 52)
 (.ops [mv_ 53 0,
 cl_ 54 121 [(.tmp 53),(.func 122)],
 pr_ 55 (fa_ 7 3),
 st_ (so_ 1 55 54)])
 .skip))
 (.seq (sq_ [mv_ 56 4,
 pr_ 57 (bk_ .and 56 .i64 64),
 pr_ 58 (bk_ .gtr 57 .i64 0)]
 (.cond (.tmp 58)
 (.ops [mv_ 59 0,
 cl_ 60 123 [(.tmp 59),(.func 124)],
 pr_ 61 (fa_ 8 3),
 st_ (so_ 3 61 60)])
 .skip))
 (.seq (sq_ [mv_ 62 4,
 pr_ 63 (bk_ .and 62 .i64 128),
 pr_ 64 (bk_ .gtr 63 .i64 0)]
 (.cond (.tmp 64)
 (.ops [mv_ 65 0,
 cl_ 66 125 [(.tmp 65),(.func 126)],
 pr_ 67 (fa_ 11 3),
 st_ (so_ 6 67 66)])
 .skip))
 (.seq (sq_ [mv_ 68 4,
 pr_ 69 (bk_ .and 68 .i64 256),
 pr_ 70 (bk_ .gtr 69 .i64 0)]
 (.cond (.tmp 70)
 (.ops [mv_ 71 0,
 cl_ 72 127 [(.tmp 71),(.func 128)],
 pr_ 73 (fa_ 17 3),
 st_ (so_ 1 73 72)])
 .skip))
 (.seq (sq_ [mv_ 74 4,
 pr_ 75 (bk_ .and 74 .i64 512),
 pr_ 76 (bk_ .gtr 75 .i64 0)]
 (.cond (.tmp 76)
 (sq_ [mv_ 78 0,
 c1_ 79 130 78,
 c1_ 80 129 79,
 mv_ 77 80,
 pr_ 81 (ex_ 0 77),
 pr_ 82 (ex_ 1 77),
 mv_ 6 81,
 mv_ 7 82]
 (sq_ [mv_ 83 0,
 mv_ 84 7,
 cl_ 85 120 [(.tmp 83),(.tmp 84)]]
 (.ops [mv_ 86 6,
 pr_ 87 (fa_ 18 3),
 st_ (so_ 1 87 86)])))
 .skip))
 (sq_ [mv_ 88 0,
 pr_ 89 (lt_ 19 3),
 c1_ 90 131 89,
 cl_ 91 120 [(.tmp 88),(.tmp 90)]]
 (sq_ [pr_ 92 (lt_ 19 3),
 st_ (so_ 19 2 92)]
 .ret)))))))))))))))
def o102:List Tmp:=[2,3]
def r102:List RV:=[.cell 2 19 true]
theorem t102:Text Tryz.prog 102 o102 c102 r102 93:=.mk_ Tryz.f102 rfl
def c119:ACode :=
 (sq_ [pr_ 2 (mi_ .i64 0),
 pr_ 3 mf_]
 (.seq (sq_ [mv_ 4 0]
 (.block 0 (.seq (sq_ [pr_ 6 (bk_ .eql 4 .i64 1),
 mv_ 5 6]
 (.cond (.tmp 5)
 .skip
 (sq_ [pr_ 7 (bk_ .eql 4 .i64 14),
 mv_ 5 7]
 (.cond (.tmp 5)
 .skip
 (sq_ [pr_ 8 (bk_ .eql 4 .i64 16),
 mv_ 5 8]
 (.cond (.tmp 5)
 .skip
 (.ops [pr_ 9 (bk_ .eql 4 .i64 17),
 mv_ 5 9])))))))
 (.cond (.tmp 5)
 (sq_ [pr_ 2 (mi_ .i64 0),
 pr_ 3 mt_]
 .ret)
 (.seq (sq_ [pr_ 11 (bk_ .eql 4 .i64 2),
 mv_ 10 11]
 (.cond (.tmp 10)
 .skip
 (sq_ [pr_ 12 (bk_ .eql 4 .i64 7),
 mv_ 10 12]
 (.cond (.tmp 10)
 .skip
 (sq_ [pr_ 13 (bk_ .eql 4 .i64 10),
 mv_ 10 13]
 (.cond (.tmp 10)
 .skip
 (sq_ [pr_ 14 (bk_ .eql 4 .i64 12),
 mv_ 10 14]
 (.cond (.tmp 10)
 .skip
 (.ops [pr_ 15 (bk_ .eql 4 .i64 15),
 mv_ 10 15])))))))))
 (.cond (.tmp 10)
 (sq_ [pr_ 2 (mi_ .i64 1),
 pr_ 3 mt_]
 .ret)
 (.seq (sq_ [pr_ 17 (bk_ .eql 4 .i64 3),
 mv_ 16 17]
 (.cond (.tmp 16)
 .skip
 (.ops [pr_ 18 (bk_ .eql 4 .i64 4),
 mv_ 16 18])))
 (.cond (.tmp 16)
 (sq_ [pr_ 2 (mi_ .i64 3),
 pr_ 3 mt_]
 .ret)
 (sq_ [pr_ 20 (bk_ .eql 4 .i64 5),
 mv_ 19 20]
 (.cond (.tmp 19)
 (sq_ [pr_ 2 (mi_ .i64 116),
 pr_ 3 mt_]
 .ret)
 (sq_ [pr_ 22 (bk_ .eql 4 .i64 6),
 mv_ 21 22]
 (.cond (.tmp 21)
 (sq_ [pr_ 2 (mi_ .i64 117),
 pr_ 3 mt_]
 .ret)
 (sq_ [pr_ 24 (bk_ .eql 4 .i64 8),
 mv_ 23 24]
 (.cond (.tmp 23)
 (sq_ [pr_ 2 (mi_ .i64 8),
 pr_ 3 mt_]
 .ret)
 (sq_ [pr_ 26 (bk_ .eql 4 .i64 9),
 mv_ 25 26]
 (.cond (.tmp 25)
 (sq_ [pr_ 2 (mi_ .i64 128),
 pr_ 3 mt_]
 .ret)
 (sq_ [pr_ 28 (bk_ .eql 4 .i64 11),
 mv_ 27 28]
 (.cond (.tmp 27)
 (sq_ [pr_ 2 (mi_ .i64 768),
 pr_ 3 mt_]
 .ret)
 (sq_ [pr_ 30 (bk_ .eql 4 .i64 13),
 mv_ 29 30]
 (.cond (.tmp 29)
 (sq_ [pr_ 2 (mi_ .i64 16),
 pr_ 3 mt_]
 .ret)
 .skip))))))))))))))))))))
 (sq_ [pr_ 2 (mi_ .i64 0),
 pr_ 3 mf_]
 .ret)))
def o119:List Tmp:=[]
def r119:List RV:=[.tmp 2,.tmp 3]
theorem t119:Text Tryz.prog 119 o119 c119 r119 31:=.mk_ Tryz.f119 rfl
def c120:ACode :=
 (.ops [mv_ 4 0,
 mv_ 5 1,
 cl_ 6 97 [(.tmp 4),(.const (.int .i64 0)),(.tmp 5)]])
def o120:List Tmp:=[]
def r120:List RV:=[]
theorem t120:Text Tryz.prog 120 o120 c120 r120 7:=.mk_ Tryz.f120 rfl
def c121:ACode :=
 (sq_ [pr_ 4 (.mov (.const (.slice none 0 0)))]
 (sq_ [mv_ 10 1,
 mv_ 11 0,
 c1_ 12 96 11,
 ⟨some 13,none,.call (.tmp 10) [(.tmp 12)]⟩,
 mv_ 9 13,
 pr_ 14 (ex_ 0 9),
 pr_ 15 (ex_ 1 9),
 pr_ 16 (ex_ 2 9),
 mv_ 5 14,
 mv_ 6 15,
 mv_ 7 16]
 (.seq (sq_ [mv_ 17 0,
 mv_ 18 6,
 mv_ 19 7,
 cl_ 20 97 [(.tmp 17),(.tmp 18),(.tmp 19)],
 pr_ 21 (no_ 20)]
 (.cond (.tmp 21)
 (sq_ [pr_ 8 (.mov (.const (.slice none 0 0)))]
 (sq_ [mv_ 22 8,
 mv_ 4 22]
 .ret))
 .skip))
 (sq_ [mv_ 23 5,
 mv_ 4 23]
 .ret))))
def o121:List Tmp:=[]
def r121:List RV:=[.tmp 4]
theorem t121:Text Tryz.prog 121 o121 c121 r121 24:=.mk_ Tryz.f121 rfl
def c122:ACode :=
 (sq_ [pr_ 2 (.mov (.const (.slice none 0 0))),
 pr_ 3 (mi_ .i64 0),
 pr_ 4 mf_]
 (sq_ [mv_ 9 0,
 c1_ 10 59 9,
 mv_ 5 10]
 (.seq (.after (.ops [pr_ 6 (.mov (.const (.slice none 0 0)))]) (.own 6 3))
 (.seq (sq_ [mv_ 11 5,
 cl_ 12 60 [(.tmp 11),(.const (.int .u64 5))],
 pr_ 13 (mi_ .u64 0)]
 (.block 0 (.loop [0,1,2,3,4,7,8,9,10,11,14,15,16,17,18,19,20,21,22,23,24,25,26,27,28,29,30,31,32,33,34,35,36,37,38,39] (sq_ [pr_ 14 (bt_ .lss 13 12)]
 (.seq (.cond (.tmp 14)
 .skip
 (.exit 0))
 (.seq (.block 1 (.ops [mv_ 15 6,
 mv_ 16 5,
 c1_ 17 98 16,
 pr_ 18 (.convi .i64 (.tmp 17)),
 mv_ 19 5,
 cl_ 20 62 [(.tmp 19),(.const (.int .i64 12))],
 mv_ 21 5,
 cl_ 22 62 [(.tmp 21),(.const (.int .i64 40))],
 pr_ 23 (.build [.pl (.int .i64 0),.pl (.string .empty),.pl (.string .empty)] [(0,1,(.tmp 18)),(1,1,(.tmp 20)),(2,1,(.tmp 22))]),
 pr_ 24 (.bsl false 3 true 1 [.pl (.int .i64 0),.pl (.string .empty),.pl (.string .empty)] [(0,3,(.tmp 23))]),
 pr_ 25 (.app 3 (.tmp 15) (.tmp 24)),
 mv_ 6 25]))
 (.ops [pr_ 26 (bk_ .add 13 .u64 1),
 mv_ 13 26])))))))
 (.seq (.ghost (.shut 6) (.ops [mv_ 27 5,
 mv_ 28 6,
 c1_ 29 143 28,
 cl_ 30 120 [(.tmp 27),(.tmp 29)]]))
 (sq_ [mv_ 32 5,
 c1_ 33 63 32,
 mv_ 31 33,
 pr_ 34 (ex_ 0 31),
 pr_ 35 (ex_ 1 31),
 mv_ 7 34,
 mv_ 8 35]
 (.seq (sq_ [mv_ 36 8,
 pr_ 37 (no_ 36)]
 (.cond (.tmp 37)
 (sq_ [pr_ 2 (.mov (.const (.slice none 0 0))),
 pr_ 3 (mi_ .i64 0),
 pr_ 4 mf_]
 (.ghost (.shut 2) .ret))
 .skip))
 (sq_ [mv_ 38 6,
 mv_ 39 7,
 mv_ 2 38,
 mv_ 3 39,
 pr_ 4 mt_]
 (.ghost (.shut 2) .ret)))))))))
def o122:List Tmp:=[]
def r122:List RV:=[.tmp 2,.tmp 3,.tmp 4]
theorem t122:Text Tryz.prog 122 o122 c122 r122 40:=.mk_ Tryz.f122 rfl
def c123:ACode :=
 (sq_ [pr_ 4 (.allocm [.pl (.bool false),.pl (.float .f64 0),.pl (.float .f64 0)])]
 (sq_ [mv_ 10 1,
 mv_ 11 0,
 c1_ 12 96 11,
 ⟨some 13,none,.call (.tmp 10) [(.tmp 12)]⟩,
 mv_ 9 13,
 pr_ 14 (ex_ 0 9),
 pr_ 15 (ex_ 1 9),
 pr_ 16 (ex_ 2 9),
 ⟨some 5,none,.fresh 3 5 (.tmp 14)⟩,
 mv_ 6 15,
 mv_ 7 16]
 (.seq (sq_ [mv_ 17 0,
 mv_ 18 6,
 mv_ 19 7,
 cl_ 20 97 [(.tmp 17),(.tmp 18),(.tmp 19)],
 pr_ 21 (no_ 20)]
 (.cond (.tmp 21)
 (sq_ [pr_ 8 (.allocm [.pl (.bool false),.pl (.float .f64 0),.pl (.float .f64 0)])]
 (sq_ [pr_ 22 (lt_ 3 8),
 st_ (so_ 3 4 22)]
 .ret))
 .skip))
 (sq_ [pr_ 23 (lt_ 3 5),
 st_ (so_ 3 4 23)]
 .ret))))
def o123:List Tmp:=[4]
def r123:List RV:=[.cell 4 3 true]
theorem t123:Text Tryz.prog 123 o123 c123 r123 24:=.mk_ Tryz.f123 rfl
def c124:ACode :=
 (sq_ [pr_ 2 (.allocm [.pl (.bool false),.pl (.float .f64 0),.pl (.float .f64 0)]),
 pr_ 3 (mi_ .i64 0),
 pr_ 4 mf_]
 (sq_ [mv_ 9 0,
 c1_ 10 59 9,
 mv_ 5 10]
 (sq_ [pr_ 6 (.allocm [.pl (.bool false),.pl (.float .f64 0),.pl (.float .f64 0)])]
 (.seq (sq_ [mv_ 11 5,
 c1_ 12 98 11]
 (.block 0 (sq_ [pr_ 16 (bk_ .eql 12 .u8 0),
 mv_ 15 16]
 (.cond (.tmp 15)
 (.ops [mv_ 17 5,
 c1_ 18 144 17,
 mv_ 19 5,
 c1_ 20 144 19,
 pr_ 21 (fa_ 1 6),
 st_ (so_ 1 21 18),
 pr_ 22 (fa_ 2 6),
 st_ (so_ 1 22 20)])
 (sq_ [pr_ 24 (bk_ .eql 12 .u8 1),
 mv_ 23 24]
 (.cond (.tmp 23)
 (.ops [pr_ 25 (fa_ 0 6),
 st_ (.store 1 (.tmp 25) (.const (.bool true)))])
 (.ops [mv_ 13 5,
 cl_ 14 120 [(.tmp 13),(.const (.bool false))]])))))))
 (sq_ [mv_ 26 5,
 pr_ 27 (lt_ 3 6),
 c1_ 28 145 27,
 cl_ 29 120 [(.tmp 26),(.tmp 28)]]
 (sq_ [mv_ 31 5,
 c1_ 32 63 31,
 mv_ 30 32,
 pr_ 33 (ex_ 0 30),
 pr_ 34 (ex_ 1 30),
 mv_ 7 33,
 mv_ 8 34]
 (.seq (sq_ [mv_ 35 8,
 pr_ 36 (no_ 35)]
 (.cond (.tmp 36)
 (sq_ [pr_ 37 (.build [.pl (.bool false),.pl (.float .f64 0),.pl (.float .f64 0)] []),
 st_ (so_ 3 2 37),
 pr_ 3 (mi_ .i64 0),
 pr_ 4 mf_]
 .ret)
 .skip))
 (sq_ [pr_ 38 (lt_ 3 6),
 mv_ 39 7,
 st_ (so_ 3 2 38),
 mv_ 3 39,
 pr_ 4 mt_]
 .ret))))))))
def o124:List Tmp:=[2,6]
def r124:List RV:=[.cell 2 3 true,.tmp 3,.tmp 4]
theorem t124:Text Tryz.prog 124 o124 c124 r124 40:=.mk_ Tryz.f124 rfl
def c125:ACode :=
 (sq_ [pr_ 4 (.allocm [.nils,.nils,.pl (.bool false),.pl (.float .f64 0),.pl (.float .f64 0),.nils])]
 (sq_ [mv_ 10 1,
 mv_ 11 0,
 c1_ 12 96 11,
 ⟨some 13,none,.call (.tmp 10) [(.tmp 12)]⟩,
 mv_ 9 13,
 pr_ 14 (ex_ 0 9),
 pr_ 15 (ex_ 1 9),
 pr_ 16 (ex_ 2 9),
 ⟨some 5,none,.fresh 6 5 (.tmp 14)⟩,
 mv_ 6 15,
 mv_ 7 16]
 (.seq (sq_ [mv_ 17 0,
 mv_ 18 6,
 mv_ 19 7,
 cl_ 20 97 [(.tmp 17),(.tmp 18),(.tmp 19)],
 pr_ 21 (no_ 20)]
 (.cond (.tmp 21)
 (sq_ [pr_ 8 (.allocm [.nils,.nils,.pl (.bool false),.pl (.float .f64 0),.pl (.float .f64 0),.nils])]
 (sq_ [pr_ 22 (lt_ 6 8),
 st_ (so_ 6 4 22)]
 .ret))
 .skip))
 (sq_ [pr_ 23 (lt_ 6 5),
 st_ (so_ 6 4 23)]
 .ret))))
def o125:List Tmp:=[4]
def r125:List RV:=[.cell 4 6 true]
theorem t125:Text Tryz.prog 125 o125 c125 r125 24:=.mk_ Tryz.f125 rfl
def c126:ACode :=
 (sq_ [pr_ 2 (.allocm [.nils,.nils,.pl (.bool false),.pl (.float .f64 0),.pl (.float .f64 0),.nils]),
 pr_ 3 (mi_ .i64 0),
 pr_ 4 mf_]
 (sq_ [mv_ 9 0,
 c1_ 10 59 9,
 mv_ 5 10]
 (sq_ [mv_ 11 5,
 cl_ 12 121 [(.tmp 11),(.func 122)],
 mv_ 13 5,
 cl_ 14 121 [(.tmp 13),(.func 122)],
 mv_ 15 5,
 cl_ 16 123 [(.tmp 15),(.func 124)],
 pr_ 17 (.build [.nils,.nils,.pl (.bool false),.pl (.float .f64 0),.pl (.float .f64 0),.nils] [(0,1,(.tmp 12)),(1,1,(.tmp 14)),(2,3,(.tmp 16))]),
 pr_ 6 (.allocm [.nils,.nils,.pl (.bool false),.pl (.float .f64 0),.pl (.float .f64 0),.nils]),
 st_ (so_ 6 6 17)]
 (.seq (sq_ [mv_ 18 5,
 cl_ 19 60 [(.tmp 18),(.const (.int .u64 4))],
 pr_ 20 (mi_ .u64 0)]
 (.block 0 (.loop [0,1,3,4,7,8,9,10,11,12,13,14,15,16,17,18,21,22,23,24,25,26,27,28,29,30,31,32,33,34,35,36,37,38,39,40,41,42,43] (sq_ [pr_ 21 (bt_ .lss 20 19)]
 (.seq (.cond (.tmp 21)
 .skip
 (.exit 0))
 (.seq (.block 1 (.draw [⟨pr_ 22 (fa_ 5 6),[],false,0,1⟩,
 ⟨pr_ 23 (lf_ 1 22),[0],false,0,1⟩,
 ⟨mv_ 24 5,[],false,0,0⟩,
 ⟨cl_ 25 62 [(.tmp 24),(.const (.int .i64 12))],[2],true,0,0⟩,
 ⟨pr_ 26 (.bsl false 1 false 1 [.pl (.string .empty)] [(0,1,(.tmp 25))]),[2,3],false,1,1⟩,
 ⟨pr_ 27 (.app 1 (.tmp 23) (.tmp 26)),[0,1,2,3,4],true,0,0⟩,
 ⟨pr_ 28 (fa_ 5 6),(List.range 6),false,2,2⟩,
 ⟨st_ (so_ 1 28 27),(List.range 7),true,0,0⟩]))
 (.ops [pr_ 29 (bk_ .add 20 .u64 1),
 mv_ 20 29])))))))
 (.seq (.ghost (.shutc 6 5 1) (.ops [mv_ 30 5,
 pr_ 31 (lt_ 6 6),
 c1_ 32 146 31,
 cl_ 33 120 [(.tmp 30),(.tmp 32)]]))
 (sq_ [mv_ 35 5,
 c1_ 36 63 35,
 mv_ 34 36,
 pr_ 37 (ex_ 0 34),
 pr_ 38 (ex_ 1 34),
 mv_ 7 37,
 mv_ 8 38]
 (.seq (sq_ [mv_ 39 8,
 pr_ 40 (no_ 39)]
 (.cond (.tmp 40)
 (sq_ [pr_ 41 (.build [.nils,.nils,.pl (.bool false),.pl (.float .f64 0),.pl (.float .f64 0),.nils] []),
 st_ (so_ 6 2 41),
 pr_ 3 (mi_ .i64 0),
 pr_ 4 mf_]
 .ret)
 .skip))
 (sq_ [pr_ 42 (lt_ 6 6),
 mv_ 43 7,
 st_ (so_ 6 2 42),
 mv_ 3 43,
 pr_ 4 mt_]
 .ret))))))))
def o126:List Tmp:=[2,6]
def r126:List RV:=[.cell 2 6 true,.tmp 3,.tmp 4]
theorem t126:Text Tryz.prog 126 o126 c126 r126 44:=.mk_ Tryz.f126 rfl
def c127:ACode :=
 (sq_ [pr_ 4 (.mov (.const (.slice none 0 0)))]
 (sq_ [mv_ 10 1,
 mv_ 11 0,
 c1_ 12 96 11,
 ⟨some 13,none,.call (.tmp 10) [(.tmp 12)]⟩,
 mv_ 9 13,
 pr_ 14 (ex_ 0 9),
 pr_ 15 (ex_ 1 9),
 pr_ 16 (ex_ 2 9),
 mv_ 5 14,
 mv_ 6 15,
 mv_ 7 16]
 (.seq (sq_ [mv_ 17 0,
 mv_ 18 6,
 mv_ 19 7,
 cl_ 20 97 [(.tmp 17),(.tmp 18),(.tmp 19)],
 pr_ 21 (no_ 20)]
 (.cond (.tmp 21)
 (sq_ [pr_ 8 (.mov (.const (.slice none 0 0)))]
 (sq_ [mv_ 22 8,
 mv_ 4 22]
 .ret))
 .skip))
 (sq_ [mv_ 23 5,
 mv_ 4 23]
 .ret))))
def o127:List Tmp:=[]
def r127:List RV:=[.tmp 4]
theorem t127:Text Tryz.prog 127 o127 c127 r127 24:=.mk_ Tryz.f127 rfl
def c128:ACode :=
 (sq_ [pr_ 2 (.mov (.const (.slice none 0 0))),
 pr_ 3 (mi_ .i64 0),
 pr_ 4 mf_]
 (sq_ [mv_ 9 0,
 c1_ 10 59 9,
 mv_ 5 10]
 (.seq (.after (.ops [pr_ 6 (.mov (.const (.slice none 0 0)))]) (.own 6 2))
 (.seq (sq_ [mv_ 11 5,
 cl_ 12 60 [(.tmp 11),(.const (.int .u64 6))],
 pr_ 13 (mi_ .u64 0)]
 (.block 0 (.loop [0,1,2,3,4,7,8,9,10,11,14,15,16,17,18,19,20,21,22,23,24,25,26,27,28,29,30,31,32,33,34,35,36] (sq_ [pr_ 14 (bt_ .lss 13 12)]
 (.seq (.cond (.tmp 14)
 .skip
 (.exit 0))
 (.seq (.block 1 (.ops [mv_ 15 6,
 mv_ 16 5,
 cl_ 17 62 [(.tmp 16),(.const (.int .i64 12))],
 mv_ 18 5,
 cl_ 19 62 [(.tmp 18),(.const (.int .i64 24))],
 pr_ 20 (.build [.pl (.string .empty),.pl (.string .empty)] [(0,1,(.tmp 17)),(1,1,(.tmp 19))]),
 pr_ 21 (.bsl false 2 true 1 [.pl (.string .empty),.pl (.string .empty)] [(0,2,(.tmp 20))]),
 pr_ 22 (.app 2 (.tmp 15) (.tmp 21)),
 mv_ 6 22]))
 (.ops [pr_ 23 (bk_ .add 13 .u64 1),
 mv_ 13 23])))))))
 (.seq (.ghost (.shut 6) (.ops [mv_ 24 5,
 mv_ 25 6,
 c1_ 26 147 25,
 cl_ 27 120 [(.tmp 24),(.tmp 26)]]))
 (sq_ [mv_ 29 5,
 c1_ 30 63 29,
 mv_ 28 30,
 pr_ 31 (ex_ 0 28),
 pr_ 32 (ex_ 1 28),
 mv_ 7 31,
 mv_ 8 32]
 (.seq (sq_ [mv_ 33 8,
 pr_ 34 (no_ 33)]
 (.cond (.tmp 34)
 (sq_ [pr_ 2 (.mov (.const (.slice none 0 0))),
 pr_ 3 (mi_ .i64 0),
 pr_ 4 mf_]
 (.ghost (.shut 2) .ret))
 .skip))
 (sq_ [mv_ 35 6,
 mv_ 36 7,
 mv_ 2 35,
 mv_ 3 36,
 pr_ 4 mt_]
 (.ghost (.shut 2) .ret)))))))))
def o128:List Tmp:=[]
def r128:List RV:=[.tmp 2,.tmp 3,.tmp 4]
theorem t128:Text Tryz.prog 128 o128 c128 r128 37:=.mk_ Tryz.f128 rfl
def c129:ACode :=
 (sq_ [pr_ 2 (.mov (.const (.float Go.FloatKind.f64 0))),
 pr_ 3 mf_]
 (sq_ [mv_ 5 0,
 c1_ 6 148 5,
 mv_ 4 6]
 (.seq (sq_ [mv_ 7 4,
 c1_ 8 149 7,
 mv_ 9 0,
 pr_ 10 (bt_ .neq 8 9)]
 (.cond (.tmp 10)
 (sq_ [pr_ 2 (.mov (.const (.float Go.FloatKind.f64 0))),
 pr_ 3 mf_]
 .ret)
 .skip))
 (sq_ [mv_ 11 4,
 mv_ 2 11,
 pr_ 3 mt_]
 .ret))))
def o129:List Tmp:=[]
def r129:List RV:=[.tmp 2,.tmp 3]
theorem t129:Text Tryz.prog 129 o129 c129 r129 12:=.mk_ Tryz.f129 rfl
def c130:ACode :=
 (sq_ [pr_ 2 (mi_ .u64 0)]
 (sq_ [mv_ 6 0,
 c1_ 7 96 6,
 c1_ 8 150 7,
 mv_ 5 8,
 pr_ 9 (ex_ 0 5),
 pr_ 10 (ex_ 1 5),
 mv_ 3 9,
 mv_ 4 10]
 (.seq (sq_ [mv_ 11 0,
 mv_ 12 4,
 cl_ 13 97 [(.tmp 11),(.const (.int .i64 8)),(.tmp 12)],
 pr_ 14 (no_ 13)]
 (.cond (.tmp 14)
 (sq_ [pr_ 2 (mi_ .u64 0)]
 .ret)
 .skip))
 (sq_ [mv_ 15 3,
 mv_ 2 15]
 .ret))))
def o130:List Tmp:=[]
def r130:List RV:=[.tmp 2]
theorem t130:Text Tryz.prog 130 o130 c130 r130 16:=.mk_ Tryz.f130 rfl
def c131:ACode :=
 (sq_ [pr_ 1 (.boxr (.tmp 0)),
 pr_ 2 mf_]
 (sq_ [pr_ 6 (fa_ 1 1),
 pr_ 7 (lf_ 1 6),
 c1_ 8 119 7,
 mv_ 5 8,
 pr_ 9 (ex_ 0 5),
 pr_ 10 (ex_ 1 5),
 mv_ 3 9,
 mv_ 4 10]
 (sq_ [mv_ 11 4,
 mv_ 12 11,
 gp_ 13 12 true (lt_ 19 1),
 gp_ 14 12 true (mo_ 3),
 gc_ 15 12 true 151 [(.tmp 13),(.tmp 14)],
 pr_ 16 (pa_ 12 15),
 mv_ 17 16,
 gp_ 18 17 true (lt_ 19 1),
 gp_ 19 17 true (mo_ 3),
 gc_ 20 17 true 152 [(.tmp 18),(.tmp 19)],
 pr_ 21 (pa_ 17 20),
 mv_ 2 21]
 .ret)))
def o131:List Tmp:=[]
def r131:List RV:=[.tmp 2]
theorem t131:Text Tryz.prog 131 o131 c131 r131 22:=.mk_ Tryz.f131 rfl
end Go.Proofs.YteakobbdgehlgaaGreatDoor
