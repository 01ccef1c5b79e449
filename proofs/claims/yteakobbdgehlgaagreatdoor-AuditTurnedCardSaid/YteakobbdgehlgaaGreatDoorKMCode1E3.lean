/- What the functions do, over abstract values: printed by a program, checked by the kernel. No condition. -/
import Derived.Test.YteakobbdgehlgaaGreatDoorProg
import Derived.Test.YteakobbdgehlgaaGreatDoorAbStepE3
set_option linter.unusedSimpArgs false
set_option linter.unusedVariables false
set_option linter.unusedSectionVars false
set_option maxRecDepth 100000
namespace Go.Proofs.YteakobbdgehlgaaGreatDoor
open Go Go.Ab
def c9:ACode :=
 (sq_ [pr_ 10 mf_]
 (sq_ [mv_ 16 0,
 mv_ 17 2,
 cl_ 18 38 [(.tmp 16),(.tmp 17)],
 mv_ 15 18,
 pr_ 19 (ex_ 0 15),
 pr_ 20 (ex_ 1 15),
 mv_ 11 19,
 mv_ 12 20]
 (.seq (sq_ [mv_ 21 12,
 pr_ 22 (no_ 21)]
 (.cond (.tmp 22)
 (sq_ [pr_ 10 mf_]
 .ret)
 .skip))
 (sq_ [mv_ 23 11,
 c1_ 24 25 23,
 mv_ 13 24]
 (.seq (sq_ [mv_ 25 13,
 pr_ 26 (.lenv (.tmp 25)),
 pr_ 27 (bk_ .eql 26 .i64 0)]
 (.cond (.tmp 27)
 (sq_ [pr_ 10 mf_]
 .ret)
 .skip))
 (.seq (sq_ [mv_ 28 3,
 pr_ 29 (bk_ .lss 28 .i64 0)]
 (.cond (.tmp 29)
 (.ops [pr_ 3 (mi_ .i64 0)])
 .skip))
 (sq_ [mv_ 30 13,
 pr_ 31 (.app 1 (.const (.slice none 0 0)) (.tmp 30)),
 mv_ 14 31]
 (.seq (.after (.ops [mv_ 32 14,
 mv_ 33 3,
 mv_ 34 14,
 pr_ 35 (.lenv (.tmp 34)),
 pr_ 36 (bt_ .rem 33 35),
 mv_ 37 4,
 pr_ 38 (.iadrs 1 (.tmp 32) (.tmp 36)),
 st_ (so_ 1 38 37)]) (.shut 14))
 (sq_ [mv_ 39 0,
 mv_ 40 13,
 mv_ 41 0,
 mv_ 42 14,
 cl_ 43 39 [(.tmp 39),(.tmp 40),(.tmp 41),(.tmp 42)],
 mv_ 44 43,
 gp_ 45 44 true (mo_ 0),
 gp_ 46 44 true (mo_ 13),
 gp_ 47 44 true (mo_ 1),
 gp_ 48 44 true (mo_ 13),
 gc_ 49 44 true 39 [(.tmp 45),(.tmp 46),(.tmp 47),(.tmp 48)],
 pr_ 50 (pa_ 44 49),
 mv_ 51 50,
 gp_ 52 51 true (mo_ 0),
 gp_ 53 51 true (mo_ 13),
 gp_ 54 51 true (mo_ 1),
 gp_ 55 51 true (mo_ 14),
 gc_ 56 51 true 39 [(.tmp 52),(.tmp 53),(.tmp 54),(.tmp 55)],
 pr_ 57 (pa_ 51 56),
 mv_ 58 57,
 gp_ 59 58 true (mo_ 0),
 gp_ 60 58 true (mo_ 13),
 gp_ 61 58 true (mo_ 0),
 gp_ 62 58 true (mo_ 13),
 gp_ 63 58 true (mo_ 3),
 gp_ 64 58 true (mo_ 13),
 gp_ 65 58 true (.lenv (.tmp 64)),
 gp_ 66 58 true (bt_ .rem 63 65),
 gp_ 67 58 true (.slcv 1 (.tmp 62) none (some (.tmp 66))),
 gc_ 68 58 true 39 [(.tmp 59),(.tmp 60),(.tmp 61),(.tmp 67)],
 pr_ 69 (pa_ 58 68),
 mv_ 70 69,
 gc_ 71 70 true 31 [],
 pr_ 72 (pa_ 70 71),
 mv_ 10 72]
 .ret)))))))))
def o9:List Tmp:=[]
def r9:List RV:=[.tmp 10]
theorem t9:Text Tryz.prog 9 o9 c9 r9 73:=.mk_ Tryz.f9 rfl
def c11:ACode :=
 (sq_ [pr_ 4 (.mov (.const (.pointer none)))]
 (sq_ [mv_ 5 1,
 pr_ 6 (.mm true (.tmp 5) (.const (.int .i64 0))),
 pr_ 7 (.mm false (.tmp 6) (.const (.int .i64 200))),
 mv_ 8 0,
 c1_ 9 28 8,
 c1_ 10 27 9,
 pr_ 11 (.build [.pl (.int .i64 0),.nils,.pl (.int .u8 0),.pl (.int .u8 0),.pl (.int .u8 0),.pl (.int .u8 0),.pl (.int .u8 0),.pl (.int .u8 0),.pl (.int .u8 0),.pl (.int .u8 0),.pl (.int .u8 0),.pl (.int .u8 0),.pl (.int .u8 0),.pl (.int .u8 0),.pl (.int .u8 0),.pl (.int .u8 0),.pl (.int .u8 0),.pl (.int .u8 0),.pl (.int .u8 0),.pl (.int .u8 0),.pl (.int .u8 0),.pl (.int .u8 0),.pl (.int .u8 0),.pl (.int .u8 0),.pl (.int .u8 0),.pl (.int .u8 0),.pl (.int .u8 0),.pl (.int .u8 0),.pl (.int .u8 0),.pl (.int .u8 0),.pl (.int .u8 0),.pl (.int .u8 0),.pl (.int .u8 0),.pl (.int .u8 0)] [(0,1,(.tmp 7)),(2,32,(.tmp 10))]),
 pr_ 12 (.boxm (.tmp 11)),
 mv_ 4 12]
 .ret))
def o11:List Tmp:=[12]
def r11:List RV:=[.tmp 4]
theorem t11:Text Tryz.prog 11 o11 c11 r11 13:=.mk_ Tryz.f11 rfl
def c13:ACode :=
 (sq_ [pr_ 2 mf_]
 (.seq (.draw [⟨mv_ 3 0,[],false,0,0⟩,
 ⟨pr_ 4 (nc_ 3),[0],false,0,0⟩,
 ⟨pr_ 5 (fa_ 1 4),[0,1],false,0,0⟩,
 ⟨pr_ 6 (lf_ 1 5),[0,1,2],false,0,0⟩,
 ⟨pr_ 7 (.lenv (.tmp 6)),[0,1,2,3],false,0,0⟩,
 ⟨mv_ 8 0,[],false,0,0⟩,
 ⟨pr_ 9 (nc_ 8),[5],false,0,0⟩,
 ⟨pr_ 10 (fa_ 0 9),[5,6],false,0,0⟩,
 ⟨pr_ 11 (lf_ 1 10),[5,6,7],false,0,0⟩,
 ⟨pr_ 12 (bt_ .geq 7 11),(List.range 9),false,0,0⟩,
 ⟨mv_ 2 12,(List.range 10),false,0,0⟩])
 .ret))
def o13:List Tmp:=[]
def r13:List RV:=[.tmp 2]
theorem t13:Text Tryz.prog 13 o13 c13 r13 13:=.mk_ Tryz.f13 rfl
def c16:ACode :=
 (sq_ [pr_ 8 mf_]
 (.seq (.draw [⟨mv_ 10 0,[],false,0,1⟩,
 ⟨pr_ 11 (nc_ 10),[0],false,0,1⟩,
 ⟨pr_ 12 (fa_ 1 11),[0,1],false,0,1⟩,
 ⟨pr_ 13 (lf_ 1 12),[0,1,2],false,0,1⟩,
 ⟨pr_ 14 (.lenv (.tmp 13)),[0,1,2,3],false,0,1⟩,
 ⟨mv_ 15 1,[],false,0,1⟩,
 ⟨mv_ 16 2,[],false,0,1⟩,
 ⟨c1_ 17 44 16,[6],false,0,1⟩,
 ⟨mv_ 18 3,[],false,0,1⟩,
 ⟨pr_ 19 (.build [.pl (.int .i64 0),.pl (.int .u64 0),.nils,.pl (.int .i64 0)] [(0,1,(.tmp 14)),(1,1,(.tmp 15)),(2,1,(.tmp 17)),(3,1,(.tmp 18))]),(List.range 9),false,0,1⟩,
 ⟨pr_ 9 (.allocm [.pl (.int .i64 0),.pl (.int .u64 0),.nils,.pl (.int .i64 0)]),[],true,0,0⟩,
 ⟨st_ (so_ 4 9 19),(List.range 11),true,0,0⟩])
 (.seq (.seq (.draw [⟨mv_ 20 0,[],false,0,0⟩,
 ⟨c1_ 21 13 20,[0],true,0,0⟩,
 ⟨mv_ 22 21,[0,1],false,1,1⟩,
 ⟨gp_ 23 22 false (lt_ 4 9),[0,1,2],false,1,1⟩,
 ⟨gc_ 24 22 false 45 [(.tmp 23)],[0,1,2,3],true,0,0⟩,
 ⟨gp_ 25 22 false (no_ 24),[0,1,2,3,4],false,2,2⟩,
 ⟨pr_ 26 (po_ 22 25),(List.range 6),false,2,2⟩,
 ⟨mv_ 27 26,(List.range 7),false,2,2⟩,
 ⟨gp_ 28 27 false (mo_ 0),(List.range 8),false,2,2⟩,
 ⟨gp_ 29 27 false (nc_ 28),(List.range 9),false,2,2⟩,
 ⟨gp_ 30 27 false (fa_ 1 29),(List.range 10),false,2,2⟩,
 ⟨gp_ 31 27 false (lf_ 1 30),(List.range 11),false,2,2⟩,
 ⟨gp_ 32 27 false (.lenv (.tmp 31)),(List.range 12),false,2,2⟩,
 ⟨gp_ 33 27 false (bk_ .gtr 32 .i64 0),(List.range 13),false,2,2⟩,
 ⟨gp_ 34 27 false (mo_ 33),(List.range 14),false,2,2⟩,
 ⟨gp_ 35 34 true (mo_ 1),(List.range 15),false,2,2⟩,
 ⟨gp_ 36 34 true (mo_ 0),(List.range 15),false,2,2⟩,
 ⟨gp_ 37 34 true (nc_ 36),[0,1,2,3,4,5,6,7,8,9,10,11,12,13,14,16],false,2,2⟩,
 ⟨gp_ 38 34 true (fa_ 1 37),[0,1,2,3,4,5,6,7,8,9,10,11,12,13,14,16,17],false,2,2⟩,
 ⟨gp_ 39 34 true (lf_ 1 38),[0,1,2,3,4,5,6,7,8,9,10,11,12,13,14,16,17,18],false,2,2⟩,
 ⟨gp_ 40 34 true (mo_ 0),(List.range 15),false,2,2⟩,
 ⟨gp_ 41 34 true (nc_ 40),[0,1,2,3,4,5,6,7,8,9,10,11,12,13,14,20],false,2,2⟩,
 ⟨gp_ 42 34 true (fa_ 1 41),[0,1,2,3,4,5,6,7,8,9,10,11,12,13,14,20,21],false,2,2⟩,
 ⟨gp_ 43 34 true (lf_ 1 42),[0,1,2,3,4,5,6,7,8,9,10,11,12,13,14,20,21,22],false,2,2⟩,
 ⟨gp_ 44 34 true (.lenv (.tmp 43)),[0,1,2,3,4,5,6,7,8,9,10,11,12,13,14,20,21,22,23],false,2,2⟩,
 ⟨gp_ 45 34 true (bk_ .sub 44 .i64 1),[0,1,2,3,4,5,6,7,8,9,10,11,12,13,14,20,21,22,23,24],false,2,2⟩,
 ⟨gp_ 46 34 true (.iadrs 4 (.tmp 39) (.tmp 45)),[0,1,2,3,4,5,6,7,8,9,10,11,12,13,14,16,17,18,19,20,21,22,23,24,25],false,2,2⟩,
 ⟨gp_ 47 34 true (fa_ 1 46),[0,1,2,3,4,5,6,7,8,9,10,11,12,13,14,16,17,18,19,20,21,22,23,24,25,26],false,2,2⟩,
 ⟨gp_ 48 34 true (lf_ 1 47),[0,1,2,3,4,5,6,7,8,9,10,11,12,13,14,16,17,18,19,20,21,22,23,24,25,26,27],false,2,2⟩,
 ⟨gp_ 49 34 true (bt_ .lss 35 48),(List.range 29),false,2,2⟩,
 ⟨gp_ 50 27 false (pa_ 34 49),(List.range 30),false,2,2⟩,
 ⟨pr_ 51 (po_ 27 50),(List.range 31),false,2,2⟩])
 (.cond (.tmp 51)
 (sq_ [pr_ 8 mf_]
 .ret)
 .skip))
 (.seq (.draw [⟨mv_ 52 0,[],false,0,1⟩,
 ⟨mv_ 53 0,[],false,0,0⟩,
 ⟨pr_ 54 (nc_ 53),[1],false,0,0⟩,
 ⟨pr_ 55 (fa_ 1 54),[1,2],false,0,0⟩,
 ⟨pr_ 56 (lf_ 1 55),[1,2,3],false,0,0⟩,
 ⟨pr_ 57 (lt_ 4 9),[],false,0,0⟩,
 ⟨pr_ 58 (.bsl false 4 true 1 [.pl (.int .i64 0),.pl (.int .u64 0),.nils,.pl (.int .i64 0)] [(0,4,(.tmp 57))]),[5],false,0,0⟩,
 ⟨pr_ 59 (.app 4 (.tmp 56) (.tmp 58)),[1,2,3,4,5,6],true,0,0⟩,
 ⟨pr_ 60 (nc_ 52),(List.range 8),false,1,1⟩,
 ⟨pr_ 61 (fa_ 1 60),(List.range 9),false,1,1⟩,
 ⟨st_ (so_ 1 61 59),(List.range 10),true,0,0⟩])
 (.seq (.draw [⟨mv_ 62 0,[],false,0,3⟩,
 ⟨mv_ 63 0,[],false,0,1⟩,
 ⟨pr_ 64 (nc_ 63),[1],false,0,1⟩,
 ⟨pr_ 65 (fa_ 2 64),[1,2],false,0,1⟩,
 ⟨pr_ 66 (lt_ 32 65),[1,2,3],false,0,1⟩,
 ⟨pr_ 67 (lt_ 4 9),[],false,0,0⟩,
 ⟨c1_ 68 30 67,[5],true,0,0⟩,
 ⟨cl_ 69 29 [(.tmp 66),(.tmp 68)],[1,2,3,4,5,6],true,0,0⟩,
 ⟨c1_ 70 27 69,[1,2,3,4,5,6,7],true,0,0⟩,
 ⟨pr_ 71 (nc_ 62),(List.range 9),false,3,3⟩,
 ⟨pr_ 72 (fa_ 2 71),(List.range 10),false,3,3⟩,
 ⟨st_ (so_ 32 72 70),(List.range 11),true,0,0⟩])
 (sq_ [pr_ 8 mt_]
 .ret))))))
def o16:List Tmp:=[9]
def r16:List RV:=[.tmp 8]
theorem t16:Text Tryz.prog 16 o16 c16 r16 73:=.mk_ Tryz.f16 rfl
def c25:ACode :=
 (sq_ [pr_ 2 (.mov (.const (.slice none 0 0)))]
 (sq_ [mv_ 6 0,
 pr_ 7 (nc_ 6),
 pr_ 8 (fa_ 1 7),
 pr_ 9 (lf_ 1 8),
 pr_ 10 (.lenv (.tmp 9)),
 pr_ 11 (.convi .u64 (.tmp 10)),
 c1_ 12 50 11,
 mv_ 3 12]
 (.seq (sq_ [mv_ 13 0,
 pr_ 14 (nc_ 13),
 pr_ 15 (fa_ 1 14),
 pr_ 16 (lf_ 1 15),
 pr_ 17 (.lenv (.tmp 16)),
 pr_ 18 (mi_ .i64 0)]
 (.block 0 (.loop [0,1,2,4,5,6,7,8,9,10,11,12,13,14,15,19,20,21,22,23,24,25,26,27,28,29] (sq_ [pr_ 19 (bt_ .lss 18 17)]
 (.seq (.cond (.tmp 19)
 .skip
 (.exit 0))
 (.seq (.block 1 (sq_ [pr_ 20 (.iadrs 4 (.tmp 16) (.tmp 18)),
 pr_ 21 (lt_ 4 20),
 ⟨some 5,none,.fresh 4 5 (.tmp 21)⟩]
 (.ops [mv_ 22 3,
 pr_ 23 (lt_ 4 5),
 c1_ 24 30 23,
 pr_ 25 (.b2s (.tmp 24)),
 c1_ 26 51 25,
 pr_ 27 (.app 1 (.tmp 22) (.tmp 26)),
 mv_ 3 27])))
 (.ops [pr_ 28 (bk_ .add 18 .i64 1),
 mv_ 18 28])))))))
 (sq_ [mv_ 29 3,
 mv_ 2 29]
 (.ghost (.shut 2) .ret)))))
def o25:List Tmp:=[]
def r25:List RV:=[.tmp 2]
theorem t25:Text Tryz.prog 25 o25 c25 r25 30:=.mk_ Tryz.f25 rfl
def c27:ACode :=
 (sq_ [pr_ 2 (.allocm [.pl (.int .u8 0),.pl (.int .u8 0),.pl (.int .u8 0),.pl (.int .u8 0),.pl (.int .u8 0),.pl (.int .u8 0),.pl (.int .u8 0),.pl (.int .u8 0),.pl (.int .u8 0),.pl (.int .u8 0),.pl (.int .u8 0),.pl (.int .u8 0),.pl (.int .u8 0),.pl (.int .u8 0),.pl (.int .u8 0),.pl (.int .u8 0),.pl (.int .u8 0),.pl (.int .u8 0),.pl (.int .u8 0),.pl (.int .u8 0),.pl (.int .u8 0),.pl (.int .u8 0),.pl (.int .u8 0),.pl (.int .u8 0),.pl (.int .u8 0),.pl (.int .u8 0),.pl (.int .u8 0),.pl (.int .u8 0),.pl (.int .u8 0),.pl (.int .u8 0),.pl (.int .u8 0),.pl (.int .u8 0)])]
 (sq_ [pr_ 7 (.build [.pl (.int .u32 0),.pl (.int .u32 0),.pl (.int .u32 0),.pl (.int .u32 0),.pl (.int .u32 0),.pl (.int .u32 0),.pl (.int .u32 0),.pl (.int .u32 0)] [(0,1,(.const (.int .u32 1779033703))),(1,1,(.const (.int .u32 3144134277))),(2,1,(.const (.int .u32 1013904242))),(3,1,(.const (.int .u32 2773480762))),(4,1,(.const (.int .u32 1359893119))),(5,1,(.const (.int .u32 2600822924))),(6,1,(.const (.int .u32 528734635))),(7,1,(.const (.int .u32 1541459225)))]),
 pr_ 3 (.allocm [.pl (.int .u32 0),.pl (.int .u32 0),.pl (.int .u32 0),.pl (.int .u32 0),.pl (.int .u32 0),.pl (.int .u32 0),.pl (.int .u32 0),.pl (.int .u32 0)]),
 st_ (so_ 8 3 7)]
 (.seq (sq_ [mv_ 8 0,
 c1_ 9 55 8,
 mv_ 4 9]
 (.block 0 (.loop [0,1,5,6,7,8,9,10,11,12,13,14,15,16,17,18,19,20,21,22,23,24,25,26,27,28,29,30,31,32,33,34,35,36,37] (.seq (sq_ [mv_ 10 4,
 pr_ 11 (.lenv (.tmp 10)),
 pr_ 12 (bk_ .gtr 11 .i64 0)]
 (.cond (.tmp 12)
 .skip
 (.exit 0)))
 (.seq (.block 1 (.draw [⟨pr_ 15 (lt_ 8 3),[],false,0,0⟩,
 ⟨mv_ 16 4,[],false,0,0⟩,
 ⟨pr_ 17 (.slcv 1 (.tmp 16) none (some (.const (.int .i64 64)))),[1],false,0,0⟩,
 ⟨pr_ 18 (.arrp 64 (.tmp 17)),[1,2],false,0,0⟩,
 ⟨pr_ 19 (lt_ 64 18),[1,2,3],false,0,0⟩,
 ⟨cl_ 20 56 [(.tmp 15),(.tmp 19)],[0,1,2,3,4],true,0,0⟩,
 ⟨st_ (so_ 8 3 20),(List.range 6),true,0,0⟩]))
 (.ops [mv_ 13 4,
 pr_ 14 (.slcv 1 (.tmp 13) (some (.const (.int .i64 64))) none),
 mv_ 4 14]))))))
 (sq_ [pr_ 5 (.allocm [.pl (.int .u8 0),.pl (.int .u8 0),.pl (.int .u8 0),.pl (.int .u8 0),.pl (.int .u8 0),.pl (.int .u8 0),.pl (.int .u8 0),.pl (.int .u8 0),.pl (.int .u8 0),.pl (.int .u8 0),.pl (.int .u8 0),.pl (.int .u8 0),.pl (.int .u8 0),.pl (.int .u8 0),.pl (.int .u8 0),.pl (.int .u8 0),.pl (.int .u8 0),.pl (.int .u8 0),.pl (.int .u8 0),.pl (.int .u8 0),.pl (.int .u8 0),.pl (.int .u8 0),.pl (.int .u8 0),.pl (.int .u8 0),.pl (.int .u8 0),.pl (.int .u8 0),.pl (.int .u8 0),.pl (.int .u8 0),.pl (.int .u8 0),.pl (.int .u8 0),.pl (.int .u8 0),.pl (.int .u8 0)])]
 (.seq (sq_ [pr_ 21 (mi_ .i64 0)]
 (.block 2 (.loop [0,1,4,6,7,8,9,10,11,12,13,14,15,16,17,18,19,20,22,23,24,25,26,27,28,29,30,31,32,33,34,35,36,37] (sq_ [pr_ 22 (bk_ .lss 21 .i64 32)]
 (.seq (.cond (.tmp 22)
 .skip
 (.exit 2))
 (.seq (.block 3 (sq_ [mv_ 23 21,
 mv_ 6 23]
 (.ops [mv_ 24 6,
 mv_ 25 6,
 pr_ 26 (bk_ .quo 25 .i64 4),
 pr_ 27 (.iadra 1 8 (.tmp 3) (.tmp 26)),
 pr_ 28 (lf_ 1 27),
 mv_ 29 6,
 pr_ 30 (bk_ .rem 29 .i64 4),
 pr_ 31 (.bin false .mul (.const (.int .i64 8)) (.tmp 30)),
 pr_ 32 (.bin false .sub (.const (.int .i64 24)) (.tmp 31)),
 pr_ 33 (bt_ .shr 28 32),
 pr_ 34 (.convi .u8 (.tmp 33)),
 pr_ 35 (.iadra 1 32 (.tmp 5) (.tmp 24)),
 st_ (so_ 1 35 34)])))
 (.ops [pr_ 36 (bk_ .add 21 .i64 1),
 mv_ 21 36])))))))
 (sq_ [pr_ 37 (lt_ 32 5),
 st_ (so_ 32 2 37)]
 .ret))))))
def o27:List Tmp:=[2,3,5]
def r27:List RV:=[.cell 2 32 true]
theorem t27:Text Tryz.prog 27 o27 c27 r27 38:=.mk_ Tryz.f27 rfl
def c28:ACode :=
 (sq_ [pr_ 2 (.mov (.const (.slice none 0 0)))]
 (sq_ [pr_ 3 (.bsl true 1 false 1 [.pl (.int .u8 0)] [(0,1,(.const (.int .u8 0)))]),
 mv_ 4 0,
 pr_ 5 (.convi .u64 (.tmp 4)),
 c1_ 6 57 5,
 pr_ 7 (.app 1 (.tmp 3) (.tmp 6)),
 mv_ 2 7]
 (.ghost (.shut 2) .ret)))
def o28:List Tmp:=[3]
def r28:List RV:=[.tmp 2]
theorem t28:Text Tryz.prog 28 o28 c28 r28 8:=.mk_ Tryz.f28 rfl
def c29:ACode :=
 (sq_ [pr_ 2 (.boxr (.tmp 0)),
 pr_ 4 (.mov (.const (.slice none 0 0)))]
 (sq_ [pr_ 5 (.bsl false 1 false 1 [.pl (.int .u8 0)] [(0,1,(.const (.int .u8 1)))]),
 pr_ 6 (.slca 32 (.tmp 2)),
 mv_ 7 1,
 pr_ 8 (.bsl false 1 false 3 [.nils] [(0,1,(.tmp 5)),(1,1,(.tmp 6)),(2,1,(.tmp 7))]),
 c1_ 9 58 8,
 mv_ 4 9]
 (.ghost (.shut 4) .ret)))
def o29:List Tmp:=[]
def r29:List RV:=[.tmp 4]
theorem t29:Text Tryz.prog 29 o29 c29 r29 10:=.mk_ Tryz.f29 rfl
def c30:ACode :=
 (sq_ [pr_ 1 (.boxr (.tmp 0)),
 pr_ 2 (.mov (.const (.slice none 0 0)))]
 (.seq (sq_ [pr_ 3 (lt_ 4 1),
 c1_ 4 45 3,
 pr_ 5 (no_ 4)]
 (.cond (.tmp 5)
 (sq_ [pr_ 2 (.mov (.const (.slice none 0 0)))]
 (.ghost (.shut 2) .ret))
 .skip))
 (.seq (.draw [⟨pr_ 6 (fa_ 0 1),[],false,0,0⟩,
 ⟨pr_ 7 (lf_ 1 6),[0],false,0,0⟩,
 ⟨pr_ 8 (.convi .u64 (.tmp 7)),[0,1],false,0,0⟩,
 ⟨c1_ 9 50 8,[0,1,2],true,0,0⟩,
 ⟨pr_ 10 (fa_ 1 1),[],false,0,1⟩,
 ⟨pr_ 11 (lf_ 1 10),[4],false,0,1⟩,
 ⟨c1_ 12 50 11,(List.range 6),true,0,0⟩,
 ⟨pr_ 13 (fa_ 2 1),[],false,0,2⟩,
 ⟨pr_ 14 (lf_ 1 13),[7],false,0,2⟩,
 ⟨pr_ 15 (.b2s (.tmp 14)),[7,8],false,0,2⟩,
 ⟨c1_ 16 51 15,(List.range 10),true,0,0⟩,
 ⟨pr_ 17 (fa_ 3 1),[],false,0,3⟩,
 ⟨pr_ 18 (lf_ 1 17),[11],false,0,3⟩,
 ⟨pr_ 19 (.convi .u8 (.tmp 18)),[11,12],false,0,3⟩,
 ⟨pr_ 20 (.bsl false 1 false 1 [.pl (.int .u8 0)] [(0,1,(.tmp 19))]),[11,12,13],false,0,3⟩,
 ⟨pr_ 21 (.bsl false 1 false 4 [.nils] [(0,1,(.tmp 9)),(1,1,(.tmp 12)),(2,1,(.tmp 16)),(3,1,(.tmp 20))]),(List.range 15),false,3,3⟩,
 ⟨c1_ 22 58 21,(List.range 16),true,0,0⟩,
 ⟨mv_ 2 22,(List.range 17),false,4,4⟩])
 (.ghost (.shut 2) .ret))))
def o30:List Tmp:=[]
def r30:List RV:=[.tmp 2]
theorem t30:Text Tryz.prog 30 o30 c30 r30 23:=.mk_ Tryz.f30 rfl
def c31:ACode :=
 (sq_ [pr_ 0 mf_]
 (sq_ [pr_ 8 (.bsl false 1 false 1 [.pl (.int .u8 0)] [(0,1,(.const (.int .u8 0)))]),
 cl_ 9 34 [(.const (.int .i64 7)),(.tmp 8)],
 mv_ 7 9,
 pr_ 10 (ex_ 0 7),
 pr_ 11 (ex_ 1 7),
 ⟨some 1,none,.fresh 32 1 (.tmp 10)⟩,
 mv_ 2 11]
 (sq_ [pr_ 13 (.bsl false 1 false 2 [.pl (.int .u8 0)] [(0,1,(.const (.int .u8 0))),(1,1,(.const (.int .u8 0)))]),
 cl_ 14 34 [(.const (.int .i64 7)),(.tmp 13)],
 mv_ 12 14,
 pr_ 15 (ex_ 0 12),
 pr_ 16 (ex_ 1 12),
 ⟨some 3,none,.fresh 32 3 (.tmp 15)⟩,
 mv_ 4 16]
 (sq_ [pr_ 18 (.bsl false 1 false 1 [.pl (.int .u8 0)] [(0,1,(.const (.int .u8 0)))]),
 c1_ 19 32 18,
 mv_ 17 19,
 pr_ 20 (ex_ 0 17),
 pr_ 21 (ex_ 1 17),
 mv_ 5 20,
 mv_ 6 21]
 (.seq (.draw [⟨mv_ 22 2,[],false,0,0⟩,
 ⟨mv_ 23 22,[0],false,0,0⟩,
 ⟨gp_ 24 23 true (lt_ 32 1),[0,1],false,0,2⟩,
 ⟨gc_ 25 23 true 28 [(.const (.int .i64 7))],[0,1],true,0,0⟩,
 ⟨gc_ 26 23 true 27 [(.tmp 25)],[0,1,3],true,0,0⟩,
 ⟨gp_ 27 23 true (.eqa false [.int,.int,.int,.int,.int,.int,.int,.int,.int,.int,.int,.int,.int,.int,.int,.int,.int,.int,.int,.int,.int,.int,.int,.int,.int,.int,.int,.int,.int,.int,.int,.int] (.tmp 24) (.tmp 26)),[0,1,2,3,4],false,2,2⟩,
 ⟨pr_ 28 (pa_ 23 27),(List.range 6),false,2,2⟩,
 ⟨mv_ 29 28,(List.range 7),false,2,2⟩,
 ⟨gp_ 30 29 true (mo_ 4),(List.range 8),false,2,2⟩,
 ⟨gp_ 31 29 true (no_ 30),(List.range 9),false,2,2⟩,
 ⟨pr_ 32 (pa_ 29 31),(List.range 10),false,2,2⟩,
 ⟨mv_ 33 32,(List.range 11),false,2,2⟩,
 ⟨gp_ 34 33 true (mo_ 5),(List.range 12),false,2,2⟩,
 ⟨gp_ 35 33 true (.lenv (.tmp 34)),(List.range 13),false,2,2⟩,
 ⟨gp_ 36 33 true (bk_ .eql 35 .i64 0),(List.range 14),false,2,2⟩,
 ⟨pr_ 37 (pa_ 33 36),(List.range 15),false,2,2⟩,
 ⟨mv_ 38 37,(List.range 16),false,2,2⟩,
 ⟨gp_ 39 38 true (mo_ 6),(List.range 17),false,2,2⟩,
 ⟨pr_ 40 (pa_ 38 39),(List.range 18),false,2,2⟩,
 ⟨mv_ 0 40,(List.range 19),false,2,2⟩])
 .ret)))))
def o31:List Tmp:=[]
def r31:List RV:=[.tmp 0]
theorem t31:Text Tryz.prog 31 o31 c31 r31 41:=.mk_ Tryz.f31 rfl
def c32:ACode :=
 (sq_ [pr_ 2 (.mov (.const (.slice none 0 0))),
 pr_ 3 mf_]
 (sq_ [mv_ 11 0,
 c1_ 12 59 11,
 mv_ 4 12]
 (.seq (.after (.ops [pr_ 5 (.mov (.const (.slice none 0 0)))]) (.own 5 4))
 (.seq (sq_ [mv_ 13 4,
 cl_ 14 60 [(.tmp 13),(.const (.int .u64 200))],
 pr_ 15 (.convi .i64 (.tmp 14)),
 pr_ 16 (mi_ .i64 0)]
 (.block 0 (.loop [1,2,3,6,7,8,9,10,11,12,13,14,17,18,19,20,21,22,23,24,25,26,27,28,29,30,31,32,33,34,35,36,37,38,39,40,41,42,43,44,45,46,47,48,49,50,51,52,53,54,55,56,57,58,59,60,61,62,63,64,65,66,67,68,69] (sq_ [pr_ 17 (bt_ .lss 16 15)]
 (.seq (.cond (.tmp 17)
 .skip
 (.exit 0))
 (.seq (.block 1 (sq_ [mv_ 18 16,
 mv_ 6 18]
 (sq_ [mv_ 20 4,
 mv_ 21 0,
 pr_ 22 (.lenv (.tmp 21)),
 cl_ 23 62 [(.tmp 20),(.tmp 22)],
 pr_ 24 (.s2b (.tmp 23)),
 c1_ 25 61 24,
 mv_ 19 25,
 pr_ 26 (ex_ 0 19),
 pr_ 27 (ex_ 1 19),
 ⟨some 7,none,.fresh 4 7 (.tmp 26)⟩,
 mv_ 8 27]
 (.seq (.seq (.draw [⟨mv_ 28 8,[],false,0,0⟩,
 ⟨pr_ 29 (no_ 28),[0],false,0,0⟩,
 ⟨mv_ 30 29,[0,1],false,0,0⟩,
 ⟨gp_ 31 30 false (fa_ 0 7),[0,1,2],false,0,0⟩,
 ⟨gp_ 32 30 false (lf_ 1 31),[0,1,2,3],false,0,0⟩,
 ⟨gp_ 33 30 false (mo_ 6),[0,1,2],false,0,0⟩,
 ⟨gp_ 34 30 false (bt_ .neq 32 33),(List.range 6),false,0,0⟩,
 ⟨pr_ 35 (po_ 30 34),(List.range 7),false,0,0⟩,
 ⟨mv_ 36 35,(List.range 8),false,0,0⟩,
 ⟨gp_ 37 36 false (mo_ 6),(List.range 9),false,0,0⟩,
 ⟨gp_ 38 36 false (bk_ .gtr 37 .i64 0),(List.range 10),false,0,0⟩,
 ⟨gp_ 39 36 false (mo_ 38),(List.range 11),false,0,0⟩,
 ⟨gp_ 40 39 true (fa_ 1 7),(List.range 12),false,0,0⟩,
 ⟨gp_ 41 39 true (lf_ 1 40),(List.range 13),false,0,0⟩,
 ⟨gp_ 42 39 true (mo_ 5),(List.range 12),false,0,0⟩,
 ⟨gp_ 43 39 true (mo_ 6),(List.range 12),false,0,0⟩,
 ⟨gp_ 44 39 true (bk_ .sub 43 .i64 1),[0,1,2,3,4,5,6,7,8,9,10,11,15],false,0,0⟩,
 ⟨gp_ 45 39 true (.iadrs 4 (.tmp 42) (.tmp 44)),[0,1,2,3,4,5,6,7,8,9,10,11,14,15,16],false,0,0⟩,
 ⟨gp_ 46 39 true (fa_ 1 45),[0,1,2,3,4,5,6,7,8,9,10,11,14,15,16,17],false,0,0⟩,
 ⟨gp_ 47 39 true (lf_ 1 46),[0,1,2,3,4,5,6,7,8,9,10,11,14,15,16,17,18],false,0,0⟩,
 ⟨gp_ 48 39 true (bt_ .lss 41 47),(List.range 20),false,0,0⟩,
 ⟨gp_ 49 36 false (pa_ 39 48),(List.range 21),false,0,0⟩,
 ⟨pr_ 50 (po_ 36 49),(List.range 22),false,0,0⟩])
 (.cond (.tmp 50)
 (sq_ [pr_ 2 (.mov (.const (.slice none 0 0))),
 pr_ 3 mf_]
 (.ghost (.shut 2) .ret))
 .skip))
 (.ops [mv_ 51 5,
 pr_ 52 (lt_ 4 7),
 pr_ 53 (.bsl false 4 true 1 [.pl (.int .i64 0),.pl (.int .u64 0),.nils,.pl (.int .i64 0)] [(0,4,(.tmp 52))]),
 pr_ 54 (.app 4 (.tmp 51) (.tmp 53)),
 mv_ 5 54])))))
 (.ops [pr_ 55 (bk_ .add 16 .i64 1),
 mv_ 16 55])))))))
 (.seq (sq_ [mv_ 57 4,
 c1_ 58 63 57,
 mv_ 56 58,
 pr_ 59 (ex_ 0 56),
 pr_ 60 (ex_ 1 56),
 mv_ 9 59,
 mv_ 10 60]
 (sq_ [mv_ 61 10,
 pr_ 62 (no_ 61),
 mv_ 63 62,
 gp_ 64 63 false (mo_ 9),
 gp_ 65 63 false (mo_ 0),
 gp_ 66 63 false (.lenv (.tmp 65)),
 gp_ 67 63 false (bt_ .neq 64 66),
 pr_ 68 (po_ 63 67)]
 (.cond (.tmp 68)
 (sq_ [pr_ 2 (.mov (.const (.slice none 0 0))),
 pr_ 3 mf_]
 (.ghost (.shut 2) .ret))
 .skip)))
 (sq_ [mv_ 69 5,
 mv_ 2 69,
 pr_ 3 mt_]
 (.ghost (.shut 2) .ret)))))))
def o32:List Tmp:=[]
def r32:List RV:=[.tmp 2,.tmp 3]
theorem t32:Text Tryz.prog 32 o32 c32 r32 70:=.mk_ Tryz.f32 rfl
def c34:ACode :=
 (sq_ [pr_ 4 (.allocm [.pl (.int .u8 0),.pl (.int .u8 0),.pl (.int .u8 0),.pl (.int .u8 0),.pl (.int .u8 0),.pl (.int .u8 0),.pl (.int .u8 0),.pl (.int .u8 0),.pl (.int .u8 0),.pl (.int .u8 0),.pl (.int .u8 0),.pl (.int .u8 0),.pl (.int .u8 0),.pl (.int .u8 0),.pl (.int .u8 0),.pl (.int .u8 0),.pl (.int .u8 0),.pl (.int .u8 0),.pl (.int .u8 0),.pl (.int .u8 0),.pl (.int .u8 0),.pl (.int .u8 0),.pl (.int .u8 0),.pl (.int .u8 0),.pl (.int .u8 0),.pl (.int .u8 0),.pl (.int .u8 0),.pl (.int .u8 0),.pl (.int .u8 0),.pl (.int .u8 0),.pl (.int .u8 0),.pl (.int .u8 0)]),
 pr_ 5 mf_]
 (sq_ [mv_ 9 0,
 mv_ 10 1,
 cl_ 11 35 [(.tmp 9),(.tmp 10)],
 mv_ 8 11,
 pr_ 12 (ex_ 0 8),
 pr_ 13 (ex_ 1 8),
 mv_ 6 12,
 mv_ 7 13]
 (.seq (sq_ [mv_ 14 7,
 pr_ 15 (no_ 14)]
 (.cond (.tmp 15)
 (sq_ [pr_ 16 (.build [.pl (.int .u8 0),.pl (.int .u8 0),.pl (.int .u8 0),.pl (.int .u8 0),.pl (.int .u8 0),.pl (.int .u8 0),.pl (.int .u8 0),.pl (.int .u8 0),.pl (.int .u8 0),.pl (.int .u8 0),.pl (.int .u8 0),.pl (.int .u8 0),.pl (.int .u8 0),.pl (.int .u8 0),.pl (.int .u8 0),.pl (.int .u8 0),.pl (.int .u8 0),.pl (.int .u8 0),.pl (.int .u8 0),.pl (.int .u8 0),.pl (.int .u8 0),.pl (.int .u8 0),.pl (.int .u8 0),.pl (.int .u8 0),.pl (.int .u8 0),.pl (.int .u8 0),.pl (.int .u8 0),.pl (.int .u8 0),.pl (.int .u8 0),.pl (.int .u8 0),.pl (.int .u8 0),.pl (.int .u8 0)] []),
 st_ (so_ 32 4 16),
 pr_ 5 mf_]
 .ret)
 .skip))
 (sq_ [mv_ 17 6,
 mv_ 18 6,
 pr_ 19 (.lenv (.tmp 18)),
 pr_ 20 (bk_ .sub 19 .i64 1),
 pr_ 21 (.iadrs 1 (.tmp 17) (.tmp 20)),
 pr_ 22 (lf_ 1 21),
 c1_ 23 27 22,
 st_ (so_ 32 4 23),
 pr_ 5 mt_]
 .ret))))
def o34:List Tmp:=[4]
def r34:List RV:=[.cell 4 32 true,.tmp 5]
theorem t34:Text Tryz.prog 34 o34 c34 r34 24:=.mk_ Tryz.f34 rfl
def c35:ACode :=
 (sq_ [pr_ 4 (.mov (.const (.slice none 0 0))),
 pr_ 5 mf_]
 (sq_ [mv_ 12 1,
 c1_ 13 32 12,
 mv_ 11 13,
 pr_ 14 (ex_ 0 11),
 pr_ 15 (ex_ 1 11),
 mv_ 6 14,
 mv_ 7 15]
 (.seq (sq_ [mv_ 16 7,
 pr_ 17 (no_ 16)]
 (.cond (.tmp 17)
 (sq_ [pr_ 4 (.mov (.const (.slice none 0 0))),
 pr_ 5 mf_]
 .ret)
 .skip))
 (sq_ [mv_ 18 0,
 c1_ 19 28 18,
 pr_ 20 (.bsl true 1 false 1 [.nils] [(0,1,(.tmp 19))]),
 mv_ 8 20]
 (.seq (sq_ [mv_ 21 6,
 pr_ 22 (.lenv (.tmp 21)),
 pr_ 23 (mi_ .i64 0)]
 (.block 0 (.loop [0,1,2,3,4,5,6,7,9,10,11,12,13,14,15,16,17,18,19,20,24,25,26,27,28,29,30,31,32,33,34,35,36,37,38,39,40] (sq_ [pr_ 24 (bt_ .lss 23 22)]
 (.seq (.cond (.tmp 24)
 .skip
 (.exit 0))
 (.seq (.block 1 (sq_ [mv_ 25 23,
 pr_ 26 (.iadrs 4 (.tmp 21) (.tmp 23)),
 pr_ 27 (lt_ 4 26),
 pr_ 10 (.allocm [.pl (.int .i64 0),.pl (.int .u64 0),.nils,.pl (.int .i64 0)]),
 mv_ 9 25,
 st_ (so_ 4 10 27)]
 (.draw [⟨mv_ 28 8,[],false,0,3⟩,
 ⟨mv_ 29 8,[],false,0,0⟩,
 ⟨mv_ 30 9,[],false,0,0⟩,
 ⟨pr_ 31 (.iadrs 1 (.tmp 29) (.tmp 30)),[1,2],false,0,0⟩,
 ⟨pr_ 32 (lf_ 1 31),[1,2,3],false,0,0⟩,
 ⟨c1_ 33 27 32,[1,2,3,4],true,0,0⟩,
 ⟨pr_ 34 (lt_ 4 10),[],false,0,1⟩,
 ⟨c1_ 35 30 34,[1,2,3,4,5,6],true,0,0⟩,
 ⟨cl_ 36 29 [(.tmp 33),(.tmp 35)],[1,2,3,4,5,6,7],true,0,0⟩,
 ⟨pr_ 37 (.bsl false 1 false 1 [.nils] [(0,1,(.tmp 36))]),[1,2,3,4,5,6,7,8],false,3,3⟩,
 ⟨pr_ 38 (.app 1 (.tmp 28) (.tmp 37)),(List.range 10),true,0,0⟩,
 ⟨mv_ 8 38,(List.range 11),false,4,4⟩])))
 (.ops [pr_ 39 (bk_ .add 23 .i64 1),
 mv_ 23 39])))))))
 (sq_ [mv_ 40 8,
 mv_ 4 40,
 pr_ 5 mt_]
 .ret))))))
def o35:List Tmp:=[20]
def r35:List RV:=[.tmp 4,.tmp 5]
theorem t35:Text Tryz.prog 35 o35 c35 r35 41:=.mk_ Tryz.f35 rfl
def c38:ACode :=
 (sq_ [pr_ 4 (.mov (.const (.pointer none))),
 pr_ 5 mf_]
 (sq_ [mv_ 10 0,
 cl_ 11 11 [(.tmp 10),(.const (.int .i64 200))],
 mv_ 6 11]
 (.seq (sq_ [mv_ 12 6,
 pr_ 13 (.isnil false true (.tmp 12))]
 (.cond (.tmp 13)
 (sq_ [pr_ 4 (.mov (.const (.pointer none))),
 pr_ 5 mf_]
 .ret)
 .skip))
 (sq_ [pr_ 7 (mi_ .u64 0)]
 (.seq (sq_ [pr_ 8 (mi_ .i64 0)]
 (.block 0 (.loop [0,2,3,4,5,9,10,11,12,13,14,15,16,17,18,19,20,21,22,23,24,25,26,27,28,29,30,31,32,33,34,35,36,37,38,39,40,41,42,43,44,45,46,47,48,49,50,51,52] (.seq (sq_ [mv_ 14 8,
 mv_ 15 1,
 pr_ 16 (.lenv (.tmp 15)),
 pr_ 17 (bt_ .lss 14 16),
 mv_ 18 17,
 gp_ 19 18 true (mo_ 8),
 gp_ 20 18 true (bk_ .lss 19 .i64 8),
 pr_ 21 (pa_ 18 20)]
 (.cond (.tmp 21)
 .skip
 (.exit 0)))
 (.seq (.block 1 (sq_ [mv_ 24 7,
 mv_ 25 1,
 mv_ 26 8,
 pr_ 27 (.iadrs 21 (.tmp 25) (.tmp 26)),
 pr_ 28 (fa_ 0 27),
 pr_ 29 (lf_ 1 28),
 pr_ 30 (.convi .u64 (.tmp 29)),
 pr_ 31 (bt_ .add 24 30),
 mv_ 7 31]
 (sq_ [pr_ 32 (.build [.pl (.int .i64 0),.pl (.int .i64 0),.pl (.int .i64 0),.pl (.int .i64 0),.pl (.int .i64 0),.pl (.int .i64 0),.pl (.int .i64 0),.pl (.int .i64 0)] [(0,1,(.const (.int .i64 0))),(1,1,(.const (.int .i64 4))),(2,1,(.const (.int .i64 5))),(3,1,(.const (.int .i64 6))),(4,1,(.const (.int .i64 7))),(5,1,(.const (.int .i64 8))),(6,1,(.const (.int .i64 9))),(7,1,(.const (.int .i64 10)))]),
 mv_ 33 1,
 mv_ 34 8,
 pr_ 35 (.iadrs 21 (.tmp 33) (.tmp 34)),
 pr_ 36 (fa_ 20 35),
 pr_ 37 (lf_ 1 36),
 pr_ 38 (bk_ .rem 37 .u8 8),
 pr_ 39 (.idxa 1 8 false (.tmp 32) (.tmp 38)),
 mv_ 9 39]
 (sq_ [mv_ 40 6,
 mv_ 41 7,
 mv_ 42 1,
 mv_ 43 8,
 pr_ 44 (.iadrs 21 (.tmp 42) (.tmp 43)),
 pr_ 45 (fa_ 1 44),
 pr_ 46 (lt_ 19 45),
 c1_ 47 47 46,
 c1_ 48 46 47,
 mv_ 49 9,
 cl_ 50 16 [(.tmp 40),(.tmp 41),(.tmp 48),(.tmp 49)],
 pr_ 51 (no_ 50)]
 (.cond (.tmp 51)
 (sq_ [pr_ 4 (.mov (.const (.pointer none))),
 pr_ 5 mf_]
 .ret)
 .skip)))))
 (.ops [mv_ 22 8,
 pr_ 23 (bk_ .add 22 .i64 1),
 mv_ 8 23]))))))
 (sq_ [mv_ 52 6,
 mv_ 4 52,
 pr_ 5 mt_]
 .ret))))))
def o38:List Tmp:=[]
def r38:List RV:=[.tmp 4,.tmp 5]
theorem t38:Text Tryz.prog 38 o38 c38 r38 53:=.mk_ Tryz.f38 rfl
def c39:ACode :=
 (sq_ [pr_ 8 mf_]
 (sq_ [mv_ 17 0,
 mv_ 18 1,
 cl_ 19 34 [(.tmp 17),(.tmp 18)],
 mv_ 16 19,
 pr_ 20 (ex_ 0 16),
 pr_ 21 (ex_ 1 16),
 ⟨some 9,none,.fresh 32 9 (.tmp 20)⟩,
 mv_ 10 21]
 (sq_ [mv_ 23 2,
 mv_ 24 3,
 cl_ 25 34 [(.tmp 23),(.tmp 24)],
 mv_ 22 25,
 pr_ 26 (ex_ 0 22),
 pr_ 27 (ex_ 1 22),
 ⟨some 11,none,.fresh 32 11 (.tmp 26)⟩,
 mv_ 12 27]
 (sq_ [mv_ 29 0,
 mv_ 30 1,
 mv_ 31 2,
 mv_ 32 3,
 cl_ 33 40 [(.tmp 29),(.tmp 30),(.tmp 31),(.tmp 32)],
 mv_ 28 33,
 pr_ 34 (ex_ 0 28),
 pr_ 35 (ex_ 1 28),
 pr_ 36 (ex_ 2 28),
 mv_ 13 34,
 mv_ 14 35,
 mv_ 15 36]
 (.seq (sq_ [mv_ 37 10,
 pr_ 38 (no_ 37),
 mv_ 39 38,
 gp_ 40 39 false (mo_ 12),
 gp_ 41 39 false (no_ 40),
 pr_ 42 (po_ 39 41),
 mv_ 43 42,
 gp_ 44 43 false (lt_ 32 9),
 gp_ 45 43 false (lt_ 32 11),
 gp_ 46 43 false (.eqa true [.int,.int,.int,.int,.int,.int,.int,.int,.int,.int,.int,.int,.int,.int,.int,.int,.int,.int,.int,.int,.int,.int,.int,.int,.int,.int,.int,.int,.int,.int,.int,.int] (.tmp 44) (.tmp 45)),
 pr_ 47 (po_ 43 46),
 mv_ 48 47,
 gp_ 49 48 false (mo_ 0),
 gp_ 50 48 false (mo_ 2),
 gp_ 51 48 false (bt_ .eql 49 50),
 gp_ 52 48 false (mo_ 51),
 gp_ 53 52 true (mo_ 1),
 gp_ 54 52 true (.b2s (.tmp 53)),
 gp_ 55 52 true (mo_ 3),
 gp_ 56 52 true (.b2s (.tmp 55)),
 gp_ 57 52 true (bt_ .eql 54 56),
 gp_ 58 48 false (pa_ 52 57),
 pr_ 59 (po_ 48 58)]
 (.cond (.tmp 59)
 (sq_ [mv_ 60 15,
 pr_ 61 (no_ 60),
 mv_ 62 61,
 gp_ 63 62 true (mo_ 13),
 gp_ 64 62 true (.lenv (.tmp 63)),
 gp_ 65 62 true (bk_ .eql 64 .i64 0),
 pr_ 66 (pa_ 62 65),
 mv_ 67 66,
 gp_ 68 67 true (mo_ 14),
 gp_ 69 67 true (.lenv (.tmp 68)),
 gp_ 70 67 true (bk_ .eql 69 .i64 0),
 pr_ 71 (pa_ 67 70),
 mv_ 8 71]
 .ret)
 .skip))
 (sq_ [mv_ 72 15,
 mv_ 73 72,
 gp_ 74 73 true (mo_ 13),
 gp_ 75 73 true (.b2s (.tmp 74)),
 gp_ 76 73 true (mo_ 14),
 gp_ 77 73 true (.b2s (.tmp 76)),
 gp_ 78 73 true (bt_ .neq 75 77),
 pr_ 79 (pa_ 73 78),
 mv_ 80 79,
 gp_ 81 80 true (mo_ 13),
 gc_ 82 80 true 27 [(.tmp 81)],
 gp_ 83 80 true (mo_ 14),
 gc_ 84 80 true 27 [(.tmp 83)],
 gp_ 85 80 true (.eqa false [.int,.int,.int,.int,.int,.int,.int,.int,.int,.int,.int,.int,.int,.int,.int,.int,.int,.int,.int,.int,.int,.int,.int,.int,.int,.int,.int,.int,.int,.int,.int,.int] (.tmp 82) (.tmp 84)),
 pr_ 86 (pa_ 80 85),
 mv_ 87 86,
 gp_ 88 87 true (mo_ 0),
 gp_ 89 87 true (mo_ 1),
 gp_ 90 87 true (mo_ 13),
 gc_ 91 87 true 69 [(.tmp 88),(.tmp 89),(.tmp 90)],
 pr_ 92 (pa_ 87 91),
 mv_ 93 92,
 gp_ 94 93 true (mo_ 2),
 gp_ 95 93 true (mo_ 3),
 gp_ 96 93 true (mo_ 14),
 gc_ 97 93 true 69 [(.tmp 94),(.tmp 95),(.tmp 96)],
 pr_ 98 (pa_ 93 97),
 mv_ 8 98]
 .ret))))))
def o39:List Tmp:=[]
def r39:List RV:=[.tmp 8]
theorem t39:Text Tryz.prog 39 o39 c39 r39 99:=.mk_ Tryz.f39 rfl
def c40:ACode :=
 (sq_ [pr_ 8 (.mov (.const (.slice none 0 0))),
 pr_ 9 (.mov (.const (.slice none 0 0))),
 pr_ 10 mf_]
 (sq_ [mv_ 21 0,
 mv_ 22 1,
 cl_ 23 34 [(.tmp 21),(.tmp 22)],
 mv_ 20 23,
 pr_ 24 (ex_ 0 20),
 pr_ 25 (ex_ 1 20),
 ⟨some 11,none,.fresh 32 11 (.tmp 24)⟩,
 mv_ 12 25]
 (sq_ [mv_ 27 2,
 mv_ 28 3,
 cl_ 29 34 [(.tmp 27),(.tmp 28)],
 mv_ 26 29,
 pr_ 30 (ex_ 0 26),
 pr_ 31 (ex_ 1 26),
 ⟨some 13,none,.fresh 32 13 (.tmp 30)⟩,
 mv_ 14 31]
 (.seq (sq_ [mv_ 32 12,
 pr_ 33 (no_ 32),
 mv_ 34 33,
 gp_ 35 34 false (mo_ 14),
 gp_ 36 34 false (no_ 35),
 pr_ 37 (po_ 34 36),
 mv_ 38 37,
 gp_ 39 38 false (lt_ 32 11),
 gp_ 40 38 false (lt_ 32 13),
 gp_ 41 38 false (.eqa true [.int,.int,.int,.int,.int,.int,.int,.int,.int,.int,.int,.int,.int,.int,.int,.int,.int,.int,.int,.int,.int,.int,.int,.int,.int,.int,.int,.int,.int,.int,.int,.int] (.tmp 39) (.tmp 40)),
 pr_ 42 (po_ 38 41),
 mv_ 43 42,
 gp_ 44 43 false (mo_ 0),
 gp_ 45 43 false (mo_ 2),
 gp_ 46 43 false (bt_ .eql 44 45),
 gp_ 47 43 false (mo_ 46),
 gp_ 48 47 true (mo_ 1),
 gp_ 49 47 true (mo_ 3),
 gc_ 50 47 true 70 [(.tmp 48),(.tmp 49)],
 gp_ 51 43 false (pa_ 47 50),
 pr_ 52 (po_ 43 51)]
 (.cond (.tmp 52)
 (sq_ [pr_ 8 (.mov (.const (.slice none 0 0))),
 pr_ 9 (.mov (.const (.slice none 0 0))),
 pr_ 10 mf_]
 (.ghost (.shut 9) (.ghost (.shut 8) .ret)))
 .skip))
 (sq_ [mv_ 54 0,
 mv_ 55 1,
 cl_ 56 35 [(.tmp 54),(.tmp 55)],
 mv_ 53 56,
 pr_ 57 (ex_ 0 53),
 pr_ 58 (ex_ 1 53),
 mv_ 15 57,
 mv_ 16 58]
 (sq_ [mv_ 60 2,
 mv_ 61 3,
 cl_ 62 35 [(.tmp 60),(.tmp 61)],
 mv_ 59 62,
 pr_ 63 (ex_ 0 59),
 pr_ 64 (ex_ 1 59),
 mv_ 17 63,
 mv_ 18 64]
 (sq_ [mv_ 65 15,
 c1_ 66 71 65]
 (sq_ [mv_ 67 17,
 c1_ 68 71 67]
 (.seq (sq_ [mv_ 69 15,
 pr_ 70 (.lenv (.tmp 69)),
 mv_ 71 17,
 pr_ 72 (.lenv (.tmp 71)),
 pr_ 73 (.mm false (.tmp 70) (.tmp 72)),
 pr_ 74 (mi_ .i64 0)]
 (.block 0 (.loop [0,1,2,3,4,5,6,7,8,9,10,11,12,13,14,16,18,19,20,21,22,23,24,25,26,27,28,29,30,31,32,33,34,35,36,37,38,39,40,41,42,43,44,45,46,47,48,49,50,51,52,53,54,55,56,57,58,59,60,61,62,63,64,65,66,67,68,69,70,71,72,75,76,77,78,79,80,81,82,83,84,85,86,87,88,89,90,91,92,93,94,95] (sq_ [pr_ 75 (bt_ .lss 74 73)]
 (.seq (.cond (.tmp 75)
 .skip
 (.exit 0))
 (.seq (.block 1 (sq_ [mv_ 76 74,
 mv_ 19 76]
 (.seq (.draw [⟨mv_ 77 15,[],false,0,0⟩,
 ⟨mv_ 78 19,[],false,0,0⟩,
 ⟨pr_ 79 (.iadrs 1 (.tmp 77) (.tmp 78)),[0,1],false,0,0⟩,
 ⟨pr_ 80 (lf_ 1 79),[0,1,2],false,0,0⟩,
 ⟨mv_ 81 17,[],false,0,0⟩,
 ⟨mv_ 82 19,[],false,0,0⟩,
 ⟨pr_ 83 (.iadrs 1 (.tmp 81) (.tmp 82)),[4,5],false,0,0⟩,
 ⟨pr_ 84 (lf_ 1 83),[4,5,6],false,0,0⟩,
 ⟨cl_ 85 70 [(.tmp 80),(.tmp 84)],(List.range 8),true,0,0⟩,
 ⟨pr_ 86 (no_ 85),(List.range 9),false,1,1⟩])
 (.cond (.tmp 86)
 (.seq (.draw [⟨mv_ 87 15,[],false,0,0⟩,
 ⟨mv_ 88 19,[],false,0,0⟩,
 ⟨pr_ 89 (.iadrs 1 (.tmp 87) (.tmp 88)),[0,1],false,0,0⟩,
 ⟨pr_ 90 (lf_ 1 89),[0,1,2],false,0,0⟩,
 ⟨mv_ 91 17,[],false,0,0⟩,
 ⟨mv_ 92 19,[],false,0,0⟩,
 ⟨pr_ 93 (.iadrs 1 (.tmp 91) (.tmp 92)),[4,5],false,0,0⟩,
 ⟨pr_ 94 (lf_ 1 93),[4,5,6],false,0,0⟩,
 ⟨mv_ 8 90,[0,1,2,3],false,0,0⟩,
 ⟨mv_ 9 94,(List.range 9),false,0,0⟩,
 ⟨pr_ 10 mt_,(List.range 10),false,0,0⟩])
 (.ghost (.shut 9) (.ghost (.shut 8) .ret)))
 .skip))))
 (.ops [pr_ 95 (bk_ .add 74 .i64 1),
 mv_ 74 95])))))))
 (sq_ [pr_ 8 (.mov (.const (.slice none 0 0))),
 pr_ 9 (.mov (.const (.slice none 0 0))),
 pr_ 10 mf_]
 (.ghost (.shut 9) (.ghost (.shut 8) .ret))))))))))))
def o40:List Tmp:=[]
def r40:List RV:=[.tmp 8,.tmp 9,.tmp 10]
theorem t40:Text Tryz.prog 40 o40 c40 r40 96:=.mk_ Tryz.f40 rfl
def c44:ACode :=
 (sq_ [pr_ 2 (.mov (.const (.slice none 0 0)))]
 (.seq (sq_ [mv_ 3 0,
 pr_ 4 (.isnil false false (.tmp 3))]
 (.cond (.tmp 4)
 (sq_ [pr_ 2 (.mov (.const (.slice none 0 0)))]
 (.ghost (.shut 2) .ret))
 .skip))
 (sq_ [pr_ 5 (.bsl true 1 false 0 [.pl (.int .u8 0)] []),
 mv_ 6 0,
 pr_ 7 (.app 1 (.tmp 5) (.tmp 6)),
 mv_ 2 7]
 (.ghost (.shut 2) .ret))))
def o44:List Tmp:=[5]
def r44:List RV:=[.tmp 2]
theorem t44:Text Tryz.prog 44 o44 c44 r44 8:=.mk_ Tryz.f44 rfl
def c45:ACode :=
 (sq_ [pr_ 1 (.boxr (.tmp 0)),
 pr_ 2 mf_]
 (.seq (sq_ [pr_ 5 (fa_ 0 1),
 pr_ 6 (lf_ 1 5),
 pr_ 7 (bk_ .lss 6 .i64 0),
 mv_ 8 7,
 gp_ 9 8 false (fa_ 0 1),
 gp_ 10 8 false (lf_ 1 9),
 gp_ 11 8 false (bk_ .gtr 10 .i64 2147483647),
 pr_ 12 (po_ 8 11),
 mv_ 13 12,
 gp_ 14 13 false (fa_ 1 1),
 gp_ 15 13 false (lf_ 1 14),
 gp_ 16 13 false (bk_ .gtr 15 .u64 1099511627776),
 pr_ 17 (po_ 13 16)]
 (.cond (.tmp 17)
 (sq_ [pr_ 2 mf_]
 .ret)
 .skip))
 (sq_ [pr_ 19 (fa_ 2 1),
 pr_ 20 (lf_ 1 19),
 c1_ 21 75 20,
 mv_ 18 21,
 pr_ 22 (ex_ 0 18),
 pr_ 23 (ex_ 1 18),
 ⟨some 3,none,.fresh 19 3 (.tmp 22)⟩,
 mv_ 4 23]
 (sq_ [mv_ 24 4,
 mv_ 25 24,
 gp_ 26 25 true (fa_ 3 1),
 gp_ 27 25 true (lf_ 1 26),
 gp_ 28 25 true (bk_ .eql 27 .i64 0),
 gp_ 29 25 true (mo_ 28),
 gp_ 30 29 false (fa_ 3 1),
 gp_ 31 29 false (lf_ 1 30),
 gp_ 32 29 false (bk_ .geq 31 .i64 4),
 gp_ 33 29 false (mo_ 32),
 gp_ 34 33 true (fa_ 3 1),
 gp_ 35 33 true (lf_ 1 34),
 gp_ 36 33 true (bk_ .leq 35 .i64 10),
 gp_ 37 29 false (pa_ 33 36),
 gp_ 38 25 true (po_ 29 37),
 pr_ 39 (pa_ 25 38),
 mv_ 2 39]
 .ret))))
def o45:List Tmp:=[]
def r45:List RV:=[.tmp 2]
theorem t45:Text Tryz.prog 45 o45 c45 r45 40:=.mk_ Tryz.f45 rfl
def c46:ACode :=
 (sq_ [pr_ 1 (.boxr (.tmp 0)),
 pr_ 2 (.mov (.const (.slice none 0 0)))]
 (.seq (sq_ [pr_ 6 (lt_ 19 1),
 c1_ 7 76 6,
 pr_ 8 (no_ 7)]
 (.cond (.tmp 8)
 (sq_ [pr_ 2 (.mov (.const (.slice none 0 0)))]
 (.ghost (.shut 2) .ret))
 .skip))
 (sq_ [pr_ 9 (fa_ 1 1),
 pr_ 10 (lf_ 1 9),
 c1_ 11 77 10,
 mv_ 3 11]
 (sq_ [pr_ 12 (fa_ 1 1),
 pr_ 13 (lf_ 1 12),
 pr_ 14 (.convi .u8 (.tmp 13)),
 pr_ 15 (.bsl true 1 false 1 [.pl (.int .u8 0)] [(0,1,(.tmp 14))]),
 mv_ 4 15]
 (.seq (sq_ [pr_ 5 (mi_ .i64 0)]
 (.block 0 (.loop [0,2,6,7,8,9,10,11,12,13,14,15,16,17,18,19,20,21,22,23,24,25,26,27,28,29,30,31,32,33,34,35,36,37,38,39,40,41,42,43,44,45,46,47,48,49,50,51,52,53,54,55,56,57,58,59,60,61,62,63,64,65,66,67,68,69,70,71,72,73,74,75,76,77,78,79,80,81,82,83,84,85,86,87,88,89,90,91,92,93,94,95,96,97,98] (.seq (sq_ [mv_ 16 5,
 mv_ 17 3,
 pr_ 18 (.lens (.tmp 17)),
 pr_ 19 (bt_ .lss 16 18)]
 (.cond (.tmp 19)
 .skip
 (.exit 0)))
 (.seq (.block 1 (sq_ [mv_ 22 3,
 mv_ 23 5,
 pr_ 24 (.idxs (.tmp 22) (.tmp 23))]
 (.block 2 (sq_ [pr_ 26 (bk_ .eql 24 .u8 73),
 mv_ 25 26]
 (.cond (.tmp 25)
 (.ops [mv_ 27 4,
 pr_ 28 (fa_ 2 1),
 pr_ 29 (lf_ 1 28),
 pr_ 30 (.convi .u64 (.tmp 29)),
 c1_ 31 52 30,
 pr_ 32 (.app 1 (.tmp 27) (.tmp 31)),
 mv_ 4 32])
 (sq_ [pr_ 34 (bk_ .eql 24 .u8 84),
 mv_ 33 34]
 (.cond (.tmp 33)
 (.ops [mv_ 35 4,
 pr_ 36 (fa_ 3 1),
 pr_ 37 (lf_ 1 36),
 c1_ 38 53 37,
 pr_ 39 (.app 1 (.tmp 35) (.tmp 38)),
 mv_ 4 39])
 (sq_ [pr_ 41 (bk_ .eql 24 .u8 83),
 mv_ 40 41]
 (.cond (.tmp 40)
 (.ops [mv_ 42 4,
 pr_ 43 (fa_ 4 1),
 pr_ 44 (lf_ 1 43),
 c1_ 45 52 44,
 pr_ 46 (.app 1 (.tmp 42) (.tmp 45)),
 mv_ 4 46])
 (sq_ [pr_ 48 (bk_ .eql 24 .u8 69),
 mv_ 47 48]
 (.cond (.tmp 47)
 (.ops [mv_ 49 4,
 pr_ 50 (fa_ 5 1),
 pr_ 51 (lf_ 1 50),
 c1_ 52 52 51,
 pr_ 53 (.app 1 (.tmp 49) (.tmp 52)),
 mv_ 4 53])
 (sq_ [pr_ 55 (bk_ .eql 24 .u8 90),
 mv_ 54 55]
 (.cond (.tmp 54)
 (.ops [mv_ 56 4,
 pr_ 57 (fa_ 6 1),
 pr_ 58 (lf_ 1 57),
 pr_ 59 (.convi .u8 (.tmp 58)),
 pr_ 60 (.bsl false 1 false 1 [.pl (.int .u8 0)] [(0,1,(.tmp 59))]),
 pr_ 61 (.app 1 (.tmp 56) (.tmp 60)),
 mv_ 4 61])
 (sq_ [pr_ 63 (bk_ .eql 24 .u8 77),
 mv_ 62 63]
 (.cond (.tmp 62)
 (.ops [mv_ 64 4,
 pr_ 65 (fa_ 7 1),
 pr_ 66 (lf_ 1 65),
 c1_ 67 78 66,
 pr_ 68 (.app 1 (.tmp 64) (.tmp 67)),
 mv_ 4 68])
 (sq_ [pr_ 70 (bk_ .eql 24 .u8 66),
 mv_ 69 70]
 (.cond (.tmp 69)
 (.ops [mv_ 71 4,
 pr_ 72 (fa_ 8 1),
 pr_ 73 (lt_ 3 72),
 c1_ 74 79 73,
 pr_ 75 (.app 1 (.tmp 71) (.tmp 74)),
 mv_ 4 75])
 (sq_ [pr_ 77 (bk_ .eql 24 .u8 82),
 mv_ 76 77]
 (.cond (.tmp 76)
 (.ops [mv_ 78 4,
 pr_ 79 (fa_ 11 1),
 pr_ 80 (lt_ 6 79),
 c1_ 81 80 80,
 pr_ 82 (.app 1 (.tmp 78) (.tmp 81)),
 mv_ 4 82])
 (sq_ [pr_ 84 (bk_ .eql 24 .u8 76),
 mv_ 83 84]
 (.cond (.tmp 83)
 (.ops [mv_ 85 4,
 pr_ 86 (fa_ 17 1),
 pr_ 87 (lf_ 1 86),
 c1_ 88 81 87,
 pr_ 89 (.app 1 (.tmp 85) (.tmp 88)),
 mv_ 4 89])
 (sq_ [pr_ 91 (bk_ .eql 24 .u8 86),
 mv_ 90 91]
 (.cond (.tmp 90)
 (.ops [mv_ 92 4,
 pr_ 93 (fa_ 18 1),
 pr_ 94 (lf_ 1 93),
 c1_ 95 83 94,
 c1_ 96 82 95,
 pr_ 97 (.app 1 (.tmp 92) (.tmp 96)),
 mv_ 4 97])
 .skip)))))))))))))))))))))))
 (.ops [mv_ 20 5,
 pr_ 21 (bk_ .add 20 .i64 1),
 mv_ 5 21]))))))
 (sq_ [mv_ 98 4,
 mv_ 2 98]
 (.ghost (.shut 2) .ret)))))))
def o46:List Tmp:=[15]
def r46:List RV:=[.tmp 2]
theorem t46:Text Tryz.prog 46 o46 c46 r46 99:=.mk_ Tryz.f46 rfl
def c47:ACode :=
 (sq_ [pr_ 1 (.boxr (.tmp 0)),
 pr_ 2 (.allocm z19_)]
 (.seq (.draw [⟨pr_ 4 (fa_ 1 1),[],false,0,1⟩,
 ⟨pr_ 5 (lf_ 1 4),[0],false,0,1⟩,
 ⟨cl_ 6 85 [(.tmp 5),(.const (.int .i64 0)),(.const (.int .i64 6))],[0,1],false,0,1⟩,
 ⟨c1_ 7 84 6,[0,1,2],false,0,1⟩,
 ⟨pr_ 8 (fa_ 0 1),[],false,0,1⟩,
 ⟨pr_ 9 (lf_ 1 8),[4],false,0,1⟩,
 ⟨cl_ 10 85 [(.tmp 9),(.const (.int .i64 1)),(.const (.int .i64 17))],(List.range 6),false,0,1⟩,
 ⟨pr_ 11 (.build z19_ [(0,1,(.tmp 7)),(1,1,(.tmp 10))]),(List.range 7),false,0,1⟩,
 ⟨pr_ 3 (.allocm z19_),[],true,0,0⟩,
 ⟨st_ (so_ 19 3 11),(List.range 9),true,0,0⟩])
 (.seq (sq_ [pr_ 12 (fa_ 1 3),
 pr_ 13 (lf_ 1 12)]
 (.block 0 (.seq (sq_ [pr_ 15 (bk_ .eql 13 .i64 2),
 mv_ 14 15]
 (.cond (.tmp 14)
 .skip
 (sq_ [pr_ 16 (bk_ .eql 13 .i64 7),
 mv_ 14 16]
 (.cond (.tmp 14)
 .skip
 (sq_ [pr_ 17 (bk_ .eql 13 .i64 10),
 mv_ 14 17]
 (.cond (.tmp 14)
 .skip
 (sq_ [pr_ 18 (bk_ .eql 13 .i64 12),
 mv_ 14 18]
 (.cond (.tmp 14)
 .skip
 (.ops [pr_ 19 (bk_ .eql 13 .i64 15),
 mv_ 14 19])))))))))
 (.cond (.tmp 14)
 (.ops [pr_ 20 (fa_ 2 1),
 pr_ 21 (lf_ 1 20),
 cl_ 22 85 [(.tmp 21),(.const (.int .i64 0)),(.const (.int .i64 20))],
 pr_ 23 (fa_ 2 3),
 st_ (so_ 1 23 22)])
 (.seq (sq_ [pr_ 25 (bk_ .eql 13 .i64 3),
 mv_ 24 25]
 (.cond (.tmp 24)
 .skip
 (.ops [pr_ 26 (bk_ .eql 13 .i64 4),
 mv_ 24 26])))
 (.cond (.tmp 24)
 (.draw [⟨pr_ 27 (fa_ 2 1),[],false,0,0⟩,
 ⟨pr_ 28 (lf_ 1 27),[0],false,0,0⟩,
 ⟨cl_ 29 85 [(.tmp 28),(.const (.int .i64 0)),(.const (.int .i64 7))],[0,1],true,0,0⟩,
 ⟨pr_ 30 (fa_ 3 1),[],false,0,1⟩,
 ⟨pr_ 31 (lf_ 1 30),[3],false,0,1⟩,
 ⟨cl_ 32 86 [(.tmp 31),(.const (.int .i64 0)),(.const (.int .i64 6))],[0,1,2,3,4],true,0,0⟩,
 ⟨c1_ 33 84 32,(List.range 6),true,0,0⟩,
 ⟨pr_ 34 (fa_ 2 3),[0,1,2],false,1,3⟩,
 ⟨st_ (so_ 1 34 29),(List.range 8),true,0,0⟩,
 ⟨pr_ 35 (fa_ 3 3),(List.range 9),false,4,4⟩,
 ⟨st_ (so_ 1 35 33),(List.range 10),true,0,0⟩])
 (.seq (sq_ [pr_ 37 (bk_ .eql 13 .i64 5),
 mv_ 36 37]
 (.cond (.tmp 36)
 .skip
 (.ops [pr_ 38 (bk_ .eql 13 .i64 6),
 mv_ 36 38])))
 (.cond (.tmp 36)
 (.seq (sq_ [pr_ 39 (fa_ 1 3),
 pr_ 40 (lf_ 1 39),
 pr_ 41 (bk_ .eql 40 .i64 6)]
 (.cond (.tmp 41)
 (.ops [pr_ 42 (fa_ 2 1),
 pr_ 43 (lf_ 1 42),
 cl_ 44 85 [(.tmp 43),(.const (.int .i64 0)),(.const (.int .i64 13))],
 pr_ 45 (fa_ 2 3),
 st_ (so_ 1 45 44)])
 .skip))
 (.draw [⟨pr_ 46 (fa_ 4 1),[],false,0,2⟩,
 ⟨pr_ 47 (lf_ 1 46),[0],false,0,2⟩,
 ⟨pr_ 48 (bk_ .rem 47 .u64 60),[0,1],false,0,2⟩,
 ⟨pr_ 49 (fa_ 5 1),[],false,0,3⟩,
 ⟨pr_ 50 (lf_ 1 49),[3],false,0,3⟩,
 ⟨pr_ 51 (bk_ .rem 50 .u64 90),[3,4],false,0,3⟩,
 ⟨pr_ 52 (fa_ 6 1),[],false,0,0⟩,
 ⟨pr_ 53 (lf_ 1 52),[6],false,0,0⟩,
 ⟨cl_ 54 87 [(.tmp 53),(.const (.bool true))],[6,7],true,0,0⟩,
 ⟨pr_ 55 (fa_ 8 1),[],false,0,1⟩,
 ⟨pr_ 56 (lt_ 3 55),[9],false,0,1⟩,
 ⟨c1_ 57 88 56,[6,7,8,9,10],true,0,0⟩,
 ⟨pr_ 58 (fa_ 4 3),[0,1,2],false,0,2⟩,
 ⟨st_ (so_ 1 58 48),[0,1,2,6,7,8,9,10,11,12],true,0,0⟩,
 ⟨pr_ 59 (fa_ 5 3),(List.range 14),false,3,3⟩,
 ⟨st_ (so_ 1 59 51),(List.range 15),true,0,0⟩,
 ⟨pr_ 60 (fa_ 7 3),(List.range 16),false,4,4⟩,
 ⟨st_ (so_ 1 60 54),(List.range 17),true,0,0⟩,
 ⟨pr_ 61 (fa_ 8 3),(List.range 18),false,5,5⟩,
 ⟨st_ (so_ 3 61 57),(List.range 19),true,0,0⟩]))
 (sq_ [pr_ 63 (bk_ .eql 13 .i64 8),
 mv_ 62 63]
 (.cond (.tmp 62)
 (.ops [pr_ 64 (fa_ 3 1),
 pr_ 65 (lf_ 1 64),
 cl_ 66 85 [(.tmp 65),(.const (.int .i64 0)),(.const (.int .i64 3))],
 pr_ 67 (fa_ 6 3),
 st_ (so_ 1 67 66)])
 (sq_ [pr_ 69 (bk_ .eql 13 .i64 9),
 mv_ 68 69]
 (.cond (.tmp 68)
 (.ops [pr_ 70 (fa_ 11 1),
 pr_ 71 (lt_ 6 70),
 c1_ 72 89 71,
 pr_ 73 (fa_ 11 3),
 st_ (so_ 6 73 72)])
 (sq_ [pr_ 75 (bk_ .eql 13 .i64 11),
 mv_ 74 75]
 (.cond (.tmp 74)
 (.draw [⟨pr_ 76 (fa_ 7 1),[],false,0,0⟩,
 ⟨pr_ 77 (lf_ 1 76),[0],false,0,0⟩,
 ⟨c1_ 78 90 77,[0,1],true,0,0⟩,
 ⟨pr_ 79 (fa_ 17 1),[],false,0,2⟩,
 ⟨pr_ 80 (lf_ 1 79),[3],false,0,2⟩,
 ⟨pr_ 81 (fa_ 17 3),[0,1,2],false,1,1⟩,
 ⟨st_ (so_ 1 81 78),[0,1,2,5],true,0,0⟩,
 ⟨pr_ 82 (fa_ 18 3),(List.range 7),false,2,2⟩,
 ⟨st_ (so_ 1 82 80),(List.range 8),true,0,0⟩])
 (sq_ [pr_ 84 (bk_ .eql 13 .i64 13),
 mv_ 83 84]
 (.cond (.tmp 83)
 (.ops [pr_ 85 (fa_ 6 1),
 pr_ 86 (lf_ 1 85),
 cl_ 87 87 [(.tmp 86),(.const (.bool false))],
 pr_ 88 (fa_ 7 3),
 st_ (so_ 1 88 87)])
 .skip))))))))))))))))
 (sq_ [pr_ 89 (lt_ 19 3),
 st_ (so_ 19 2 89)]
 .ret))))
def o47:List Tmp:=[2,3]
def r47:List RV:=[.cell 2 19 true]
theorem t47:Text Tryz.prog 47 o47 c47 r47 90:=.mk_ Tryz.f47 rfl
def c50:ACode :=
 (sq_ [pr_ 2 (.mov (.const (.slice none 0 0)))]
 (.seq (.after (.ops [pr_ 3 (.mov (.const (.slice none 0 0)))]) (.own 3 1))
 (.seq (.block 0 (.loop [1,2,4,5,6,7,8,9,10,11,12,13,14,15,16,17,18] (.seq (sq_ [mv_ 4 0,
 pr_ 5 (bk_ .geq 4 .u64 128)]
 (.cond (.tmp 5)
 .skip
 (.exit 0)))
 (.block 1 (sq_ [mv_ 6 3,
 mv_ 7 0,
 pr_ 8 (.convi .u8 (.tmp 7)),
 pr_ 9 (bk_ .or 8 .u8 128),
 pr_ 10 (.bsl false 1 false 1 [.pl (.int .u8 0)] [(0,1,(.tmp 9))]),
 pr_ 11 (.app 1 (.tmp 6) (.tmp 10)),
 mv_ 3 11]
 (.ops [mv_ 12 0,
 pr_ 13 (bk_ .shr 12 .u64 7),
 mv_ 0 13]))))))
 (sq_ [mv_ 14 3,
 mv_ 15 0,
 pr_ 16 (.convi .u8 (.tmp 15)),
 pr_ 17 (.bsl false 1 false 1 [.pl (.int .u8 0)] [(0,1,(.tmp 16))]),
 pr_ 18 (.app 1 (.tmp 14) (.tmp 17)),
 mv_ 2 18]
 .ret))))
def o50:List Tmp:=[]
def r50:List RV:=[.tmp 2]
theorem t50:Text Tryz.prog 50 o50 c50 r50 19:=.mk_ Tryz.f50 rfl
def c51:ACode :=
 (sq_ [pr_ 2 (.mov (.const (.slice none 0 0)))]
 (sq_ [mv_ 3 0,
 pr_ 4 (.lens (.tmp 3)),
 pr_ 5 (.convi .u64 (.tmp 4)),
 c1_ 6 50 5,
 mv_ 7 0,
 pr_ 8 (.app 1 (.tmp 6) (.tmp 7)),
 mv_ 2 8]
 (.ghost (.shut 2) .ret)))
def o51:List Tmp:=[]
def r51:List RV:=[.tmp 2]
theorem t51:Text Tryz.prog 51 o51 c51 r51 9:=.mk_ Tryz.f51 rfl
def c52:ACode :=
 (sq_ [pr_ 2 (.mov (.const (.slice none 0 0)))]
 (.seq (.after (.ops [pr_ 3 (.mov (.const (.slice none 0 0)))]) (.own 3 1))
 (.seq (.block 0 (.loop [1,2,4,5,6,7,8,9,10,11,12,13,14,15,16,17,18,19] (.seq (sq_ [mv_ 4 0,
 pr_ 5 (bk_ .geq 4 .u64 128)]
 (.cond (.tmp 5)
 .skip
 (.exit 0)))
 (.block 1 (sq_ [mv_ 6 3,
 mv_ 7 0,
 pr_ 8 (bk_ .rem 7 .u64 128),
 pr_ 9 (.convi .u8 (.tmp 8)),
 pr_ 10 (bk_ .add 9 .u8 128),
 pr_ 11 (.bsl false 1 false 1 [.pl (.int .u8 0)] [(0,1,(.tmp 10))]),
 pr_ 12 (.app 1 (.tmp 6) (.tmp 11)),
 mv_ 3 12]
 (.ops [mv_ 13 0,
 pr_ 14 (bk_ .quo 13 .u64 128),
 mv_ 0 14]))))))
 (sq_ [mv_ 15 3,
 mv_ 16 0,
 pr_ 17 (.convi .u8 (.tmp 16)),
 pr_ 18 (.bsl false 1 false 1 [.pl (.int .u8 0)] [(0,1,(.tmp 17))]),
 pr_ 19 (.app 1 (.tmp 15) (.tmp 18)),
 mv_ 2 19]
 .ret))))
def o52:List Tmp:=[]
def r52:List RV:=[.tmp 2]
theorem t52:Text Tryz.prog 52 o52 c52 r52 20:=.mk_ Tryz.f52 rfl
def c53:ACode :=
 (sq_ [pr_ 2 (.mov (.const (.slice none 0 0)))]
 (sq_ [mv_ 3 0,
 pr_ 4 (.lens (.tmp 3)),
 pr_ 5 (.convi .u64 (.tmp 4)),
 c1_ 6 52 5,
 mv_ 7 0,
 pr_ 8 (.app 1 (.tmp 6) (.tmp 7)),
 mv_ 2 8]
 (.ghost (.shut 2) .ret)))
def o53:List Tmp:=[]
def r53:List RV:=[.tmp 2]
theorem t53:Text Tryz.prog 53 o53 c53 r53 9:=.mk_ Tryz.f53 rfl
def c55:ACode :=
 (sq_ [pr_ 2 (.mov (.const (.slice none 0 0)))]
 (sq_ [mv_ 7 0,
 pr_ 8 (.lenv (.tmp 7)),
 pr_ 9 (bk_ .add 8 .i64 1),
 mv_ 3 9]
 (.seq (.block 0 (.loop [1,2,4,5,6,7,8,9,10,11,12,13,14,15,16,17,18,19,20,21,22,23,24,25,26,27,28,29,30,31,32,33,34,35,36,37,38,39,40,41,42,43,44] (.seq (sq_ [mv_ 10 3,
 pr_ 11 (bk_ .rem 10 .i64 64),
 pr_ 12 (bk_ .neq 11 .i64 56)]
 (.cond (.tmp 12)
 .skip
 (.exit 0)))
 (.block 1 (.ops [mv_ 13 3,
 pr_ 14 (bk_ .add 13 .i64 1),
 mv_ 3 14])))))
 (sq_ [mv_ 15 3,
 pr_ 16 (bk_ .add 15 .i64 8),
 pr_ 17 (.mks 1 false [.pl (.int .u8 0)] (.tmp 16) (.tmp 16)),
 mv_ 4 17]
 (sq_ [mv_ 18 4,
 mv_ 19 0,
 pr_ 20 (.copy (.tmp 18) (.tmp 19))]
 (sq_ [mv_ 21 4,
 mv_ 22 0,
 pr_ 23 (.lenv (.tmp 22)),
 pr_ 24 (.iadrs 1 (.tmp 21) (.tmp 23)),
 st_ (.store 1 (.tmp 24) (.const (.int .u8 128)))]
 (sq_ [mv_ 25 0,
 pr_ 26 (.lenv (.tmp 25)),
 pr_ 27 (.convi .u64 (.tmp 26)),
 pr_ 28 (bk_ .mul 27 .u64 8),
 mv_ 5 28]
 (.seq (sq_ [pr_ 29 (mi_ .i64 0)]
 (.block 2 (.loop [0,1,2,6,7,8,9,10,11,12,13,14,15,16,17,18,19,20,21,22,23,24,25,26,27,28,30,31,32,33,34,35,36,37,38,39,40,41,42,43,44] (sq_ [pr_ 30 (bk_ .lss 29 .i64 8)]
 (.seq (.cond (.tmp 30)
 .skip
 (.exit 2))
 (.seq (.block 3 (sq_ [mv_ 31 29,
 mv_ 6 31]
 (.ops [mv_ 32 4,
 mv_ 33 3,
 mv_ 34 6,
 pr_ 35 (bt_ .add 33 34),
 mv_ 36 5,
 mv_ 37 6,
 pr_ 38 (.bin false .mul (.const (.int .i64 8)) (.tmp 37)),
 pr_ 39 (.bin false .sub (.const (.int .i64 56)) (.tmp 38)),
 pr_ 40 (bt_ .shr 36 39),
 pr_ 41 (.convi .u8 (.tmp 40)),
 pr_ 42 (.iadrs 1 (.tmp 32) (.tmp 35)),
 st_ (so_ 1 42 41)])))
 (.ops [pr_ 43 (bk_ .add 29 .i64 1),
 mv_ 29 43])))))))
 (sq_ [mv_ 44 4,
 mv_ 2 44]
 (.ghost (.shut 2) .ret))))))))))
def o55:List Tmp:=[]
def r55:List RV:=[.tmp 2]
theorem t55:Text Tryz.prog 55 o55 c55 r55 45:=.mk_ Tryz.f55 rfl
def c56:ACode :=
 (sq_ [pr_ 2 (.boxr (.tmp 0)),
 pr_ 3 (.boxr (.tmp 1)),
 pr_ 4 (.allocm [.pl (.int .u32 0),.pl (.int .u32 0),.pl (.int .u32 0),.pl (.int .u32 0),.pl (.int .u32 0),.pl (.int .u32 0),.pl (.int .u32 0),.pl (.int .u32 0)])]
 (sq_ [pr_ 18 (lt_ 64 3),
 c1_ 19 92 18,
 ⟨some 5,none,.fresh 64 5 (.tmp 19)⟩]
 (sq_ [pr_ 20 (lt_ 8 2),
 pr_ 6 (.allocm [.pl (.int .u32 0),.pl (.int .u32 0),.pl (.int .u32 0),.pl (.int .u32 0),.pl (.int .u32 0),.pl (.int .u32 0),.pl (.int .u32 0),.pl (.int .u32 0)]),
 st_ (so_ 8 6 20)]
 (.seq (sq_ [pr_ 21 (mi_ .i64 0)]
 (.block 0 (.loop [0,1,3,7,8,9,10,11,12,13,14,15,16,17,18,19,20,22,23,24,25,26,27,28,29,30,31,32,33,34,35,36,37,38,39,40,41,42,43,44,45,46,47,48,49,50,51,52,53,54,55,56,57,58,59,60,61,62,63,64,65,66,67,68,69,70,71,72,73,74,75,76,77,78,79,80,81,82,83,84,85,86,87,88,89,90,91,92,93,94,95,96,97,98,99,100,101,102,103,104,105,106,107,108,109,110,111,112,113] (sq_ [pr_ 22 (bk_ .lss 21 .i64 64)]
 (.seq (.cond (.tmp 22)
 .skip
 (.exit 0))
 (.seq (.block 1 (sq_ [mv_ 23 21,
 mv_ 7 23]
 (.seq (.draw [⟨pr_ 24 (.iadra 1 8 (.tmp 6) (.const (.int .i64 0))),[],false,0,0⟩,
 ⟨pr_ 25 (lf_ 1 24),[0],false,0,0⟩,
 ⟨pr_ 26 (.iadra 1 8 (.tmp 6) (.const (.int .i64 1))),[],false,0,0⟩,
 ⟨pr_ 27 (lf_ 1 26),[2],false,0,0⟩,
 ⟨pr_ 28 (.iadra 1 8 (.tmp 6) (.const (.int .i64 2))),[],false,0,0⟩,
 ⟨pr_ 29 (lf_ 1 28),[4],false,0,0⟩,
 ⟨pr_ 30 (.iadra 1 8 (.tmp 6) (.const (.int .i64 4))),[],false,0,0⟩,
 ⟨pr_ 31 (lf_ 1 30),[6],false,0,0⟩,
 ⟨pr_ 32 (.iadra 1 8 (.tmp 6) (.const (.int .i64 5))),[],false,0,0⟩,
 ⟨pr_ 33 (lf_ 1 32),[8],false,0,0⟩,
 ⟨pr_ 34 (.iadra 1 8 (.tmp 6) (.const (.int .i64 6))),[],false,0,0⟩,
 ⟨pr_ 35 (lf_ 1 34),[10],false,0,0⟩,
 ⟨mv_ 8 25,[0,1],false,0,0⟩,
 ⟨mv_ 9 27,[0,1,2,3,12],false,0,0⟩,
 ⟨mv_ 10 29,[0,1,2,3,4,5,12,13],false,0,0⟩,
 ⟨mv_ 11 31,[0,1,2,3,4,5,6,7,12,13,14],false,0,0⟩,
 ⟨mv_ 12 33,[0,1,2,3,4,5,6,7,8,9,12,13,14,15],false,0,0⟩,
 ⟨mv_ 13 35,(List.range 17),false,0,0⟩])
 (sq_ [mv_ 36 11,
 cl_ 37 93 [(.tmp 36),(.const (.int .i64 (-6)))],
 mv_ 38 11,
 cl_ 39 93 [(.tmp 38),(.const (.int .i64 (-11)))],
 pr_ 40 (bt_ .xor 37 39),
 mv_ 41 11,
 cl_ 42 93 [(.tmp 41),(.const (.int .i64 (-25)))],
 pr_ 43 (bt_ .xor 40 42),
 mv_ 14 43]
 (.seq (.draw [⟨pr_ 44 (.iadra 1 8 (.tmp 6) (.const (.int .i64 7))),[],false,0,0⟩,
 ⟨pr_ 45 (lf_ 1 44),[0],false,0,0⟩,
 ⟨mv_ 46 14,[],false,0,0⟩,
 ⟨pr_ 47 (bt_ .add 45 46),[0,1,2],false,0,0⟩,
 ⟨mv_ 48 11,[],false,0,0⟩,
 ⟨mv_ 49 12,[],false,0,0⟩,
 ⟨pr_ 50 (bt_ .and 48 49),[4,5],false,0,0⟩,
 ⟨mv_ 51 11,[],false,0,0⟩,
 ⟨pr_ 52 (.un .xor (.tmp 51)),[7],false,0,0⟩,
 ⟨mv_ 53 13,[],false,0,0⟩,
 ⟨pr_ 54 (bt_ .and 52 53),[7,8,9],false,0,0⟩,
 ⟨pr_ 55 (bt_ .xor 50 54),[4,5,6,7,8,9,10],false,0,0⟩,
 ⟨pr_ 56 (bt_ .add 47 55),(List.range 12),false,0,0⟩,
 ⟨mv_ 57 7,[],false,0,0⟩,
 ⟨pr_ 58 (.giadr 0 1 64 (.tmp 57)),[13],false,0,0⟩,
 ⟨pr_ 59 (lf_ 1 58),[13,14],false,0,0⟩,
 ⟨pr_ 60 (bt_ .add 56 59),(List.range 16),false,0,0⟩,
 ⟨mv_ 61 7,[],false,0,0⟩,
 ⟨pr_ 62 (.iadra 1 64 (.tmp 5) (.tmp 61)),[17],false,0,0⟩,
 ⟨pr_ 63 (lf_ 1 62),[17,18],false,0,0⟩,
 ⟨pr_ 64 (bt_ .add 60 63),(List.range 20),false,0,0⟩,
 ⟨mv_ 15 64,(List.range 21),false,0,0⟩])
 (sq_ [mv_ 65 8,
 cl_ 66 93 [(.tmp 65),(.const (.int .i64 (-2)))],
 mv_ 67 8,
 cl_ 68 93 [(.tmp 67),(.const (.int .i64 (-13)))],
 pr_ 69 (bt_ .xor 66 68),
 mv_ 70 8,
 cl_ 71 93 [(.tmp 70),(.const (.int .i64 (-22)))],
 pr_ 72 (bt_ .xor 69 71),
 mv_ 14 72]
 (sq_ [mv_ 73 14,
 mv_ 74 8,
 mv_ 75 9,
 pr_ 76 (bt_ .and 74 75),
 mv_ 77 8,
 mv_ 78 10,
 pr_ 79 (bt_ .and 77 78),
 pr_ 80 (bt_ .xor 76 79),
 mv_ 81 9,
 mv_ 82 10,
 pr_ 83 (bt_ .and 81 82),
 pr_ 84 (bt_ .xor 80 83),
 pr_ 85 (bt_ .add 73 84),
 mv_ 16 85]
 (.ops [mv_ 86 15,
 mv_ 87 16,
 pr_ 88 (bt_ .add 86 87),
 mv_ 89 8,
 mv_ 90 9,
 mv_ 91 10,
 pr_ 92 (.iadra 1 8 (.tmp 6) (.const (.int .i64 3))),
 pr_ 93 (lf_ 1 92),
 mv_ 94 15,
 pr_ 95 (bt_ .add 93 94),
 mv_ 96 11,
 mv_ 97 12,
 mv_ 98 13,
 pr_ 99 (.build [.pl (.int .u32 0),.pl (.int .u32 0),.pl (.int .u32 0),.pl (.int .u32 0),.pl (.int .u32 0),.pl (.int .u32 0),.pl (.int .u32 0),.pl (.int .u32 0)] [(0,1,(.tmp 88)),(1,1,(.tmp 89)),(2,1,(.tmp 90)),(3,1,(.tmp 91)),(4,1,(.tmp 95)),(5,1,(.tmp 96)),(6,1,(.tmp 97)),(7,1,(.tmp 98))]),
 st_ (so_ 8 6 99)]))))))))
 (.ops [pr_ 100 (bk_ .add 21 .i64 1),
 mv_ 21 100])))))))
 (.seq (sq_ [pr_ 101 (mi_ .i64 0)]
 (.block 2 (.loop [0,1,3,5,7,8,9,10,11,12,13,14,15,16,17,18,19,20,21,22,23,24,25,26,27,28,29,30,31,32,33,34,35,36,37,38,39,40,41,42,43,44,45,46,47,48,49,50,51,52,53,54,55,56,57,58,59,60,61,62,63,64,65,66,67,68,69,70,71,72,73,74,75,76,77,78,79,80,81,82,83,84,85,86,87,88,89,90,91,92,93,94,95,96,97,98,99,100,102,103,104,105,106,107,108,109,110,111,112,113] (sq_ [pr_ 102 (bk_ .lss 101 .i64 8)]
 (.seq (.cond (.tmp 102)
 .skip
 (.exit 2))
 (.seq (.block 3 (sq_ [mv_ 103 101,
 mv_ 17 103]
 (.draw [⟨mv_ 104 17,[],false,0,0⟩,
 ⟨pr_ 105 (.iadra 1 8 (.tmp 6) (.tmp 104)),[0],false,0,0⟩,
 ⟨pr_ 106 (lf_ 1 105),[0,1],false,0,0⟩,
 ⟨mv_ 107 17,[],false,0,0⟩,
 ⟨pr_ 108 (.iadra 1 8 (.tmp 2) (.tmp 107)),[3],false,0,0⟩,
 ⟨pr_ 109 (lf_ 1 108),[3,4],false,0,0⟩,
 ⟨pr_ 110 (bt_ .add 106 109),(List.range 6),false,0,0⟩,
 ⟨pr_ 111 (.iadra 1 8 (.tmp 6) (.tmp 104)),(List.range 7),false,0,0⟩,
 ⟨st_ (so_ 1 111 110),(List.range 8),true,0,0⟩])))
 (.ops [pr_ 112 (bk_ .add 101 .i64 1),
 mv_ 101 112])))))))
 (sq_ [pr_ 113 (lt_ 8 6),
 st_ (so_ 8 4 113)]
 .ret))))))
def o56:List Tmp:=[4,6]
def r56:List RV:=[.cell 4 8 true]
theorem t56:Text Tryz.prog 56 o56 c56 r56 114:=.mk_ Tryz.f56 rfl
def c57:ACode :=
 (sq_ [pr_ 2 (.mov (.const (.slice none 0 0)))]
 (sq_ [pr_ 5 (.mks 1 false [.pl (.int .u8 0)] (.const (.int .i64 8)) (.const (.int .i64 8))),
 mv_ 3 5]
 (.seq (sq_ [mv_ 6 3,
 pr_ 7 (.lenv (.tmp 6)),
 pr_ 8 (mi_ .i64 0)]
 (.block 0 (.loop [1,2,4,5,6,9,10,11,12,13,14,15,16,17,18,19,20,21] (sq_ [pr_ 9 (bt_ .lss 8 7)]
 (.seq (.cond (.tmp 9)
 .skip
 (.exit 0))
 (.seq (.block 1 (sq_ [mv_ 10 8,
 mv_ 4 10]
 (.ops [mv_ 11 3,
 mv_ 12 4,
 mv_ 13 0,
 mv_ 14 4,
 pr_ 15 (.bin false .mul (.const (.int .i64 8)) (.tmp 14)),
 pr_ 16 (.bin false .sub (.const (.int .i64 56)) (.tmp 15)),
 pr_ 17 (bt_ .shr 13 16),
 pr_ 18 (.convi .u8 (.tmp 17)),
 pr_ 19 (.iadrs 1 (.tmp 11) (.tmp 12)),
 st_ (so_ 1 19 18)])))
 (.ops [pr_ 20 (bk_ .add 8 .i64 1),
 mv_ 8 20])))))))
 (sq_ [mv_ 21 3,
 mv_ 2 21]
 (.ghost (.shut 2) .ret)))))
def o57:List Tmp:=[]
def r57:List RV:=[.tmp 2]
theorem t57:Text Tryz.prog 57 o57 c57 r57 22:=.mk_ Tryz.f57 rfl
def c58:ACode :=
 (sq_ [pr_ 2 (.mov (.const (.slice none 0 0)))]
 (sq_ [pr_ 3 (mi_ .i64 0)]
 (.seq (sq_ [mv_ 9 0,
 pr_ 10 (.lenv (.tmp 9)),
 pr_ 11 (mi_ .i64 0)]
 (.block 0 (.loop [1,2,4,5,6,7,8,12,13,14,15,16,17,18,19,20,21,22,23,24,25,26,27,28,29,30,31,32,33,34,35] (sq_ [pr_ 12 (bt_ .lss 11 10)]
 (.seq (.cond (.tmp 12)
 .skip
 (.exit 0))
 (.seq (.block 1 (sq_ [pr_ 13 (.iadrs 1 (.tmp 9) (.tmp 11)),
 pr_ 14 (lf_ 1 13),
 mv_ 5 14]
 (sq_ [mv_ 15 3,
 mv_ 16 5,
 pr_ 17 (.lenv (.tmp 16)),
 pr_ 18 (bt_ .add 15 17),
 mv_ 3 18]
 (sq_ [mv_ 19 3,
 pr_ 20 (bk_ .lss 19 .i64 0)]
 (.cond (.tmp 20)
 (.ops [pr_ 21 (.bad),
 st_ (.bad)])
 .skip)))))
 (.ops [pr_ 22 (bk_ .add 11 .i64 1),
 mv_ 11 22])))))))
 (sq_ [mv_ 23 3,
 cl_ 24 94 [(.const (.slice none 0 0)),(.tmp 23)],
 mv_ 6 24]
 (.seq (sq_ [mv_ 25 0,
 pr_ 26 (.lenv (.tmp 25)),
 pr_ 27 (mi_ .i64 0)]
 (.block 2 (.loop [0,1,2,3,4,5,7,8,9,10,11,12,13,14,15,16,17,18,19,20,21,22,23,24,28,29,30,31,32,33,34,35] (sq_ [pr_ 28 (bt_ .lss 27 26)]
 (.seq (.cond (.tmp 28)
 .skip
 (.exit 2))
 (.seq (.block 3 (sq_ [pr_ 29 (.iadrs 1 (.tmp 25) (.tmp 27)),
 pr_ 30 (lf_ 1 29),
 mv_ 8 30]
 (.ops [mv_ 31 6,
 mv_ 32 8,
 pr_ 33 (.app 1 (.tmp 31) (.tmp 32)),
 mv_ 6 33])))
 (.ops [pr_ 34 (bk_ .add 27 .i64 1),
 mv_ 27 34])))))))
 (sq_ [mv_ 35 6,
 mv_ 2 35]
 (.ghost (.shut 2) .ret)))))))
def o58:List Tmp:=[]
def r58:List RV:=[.tmp 2]
theorem t58:Text Tryz.prog 58 o58 c58 r58 36:=.mk_ Tryz.f58 rfl
def c59:ACode :=
 (sq_ [pr_ 2 (.mov (.const (.pointer none)))]
 (sq_ [mv_ 3 0,
 pr_ 4 (.build [.nils,.pl (.int .i64 0),.pl (.bool false)] [(0,1,(.tmp 3))]),
 pr_ 5 (.boxm (.tmp 4)),
 mv_ 2 5]
 .ret))
def o59:List Tmp:=[5]
def r59:List RV:=[.tmp 2]
theorem t59:Text Tryz.prog 59 o59 c59 r59 6:=.mk_ Tryz.f59 rfl
def c60:ACode :=
 (sq_ [pr_ 4 (mi_ .u64 0)]
 (sq_ [mv_ 9 0,
 c1_ 10 96 9,
 c1_ 11 95 10,
 mv_ 8 11,
 pr_ 12 (ex_ 0 8),
 pr_ 13 (ex_ 1 8),
 pr_ 14 (ex_ 2 8),
 mv_ 5 12,
 mv_ 6 13,
 mv_ 7 14]
 (.seq (sq_ [mv_ 15 0,
 mv_ 16 6,
 mv_ 17 7,
 mv_ 18 17,
 gp_ 19 18 true (mo_ 5),
 gp_ 20 18 true (mo_ 1),
 gp_ 21 18 true (bt_ .leq 19 20),
 pr_ 22 (pa_ 18 21),
 cl_ 23 97 [(.tmp 15),(.tmp 16),(.tmp 22)],
 pr_ 24 (no_ 23)]
 (.cond (.tmp 24)
 (sq_ [pr_ 4 (mi_ .u64 0)]
 .ret)
 .skip))
 (sq_ [mv_ 25 5,
 mv_ 4 25]
 .ret))))
def o60:List Tmp:=[]
def r60:List RV:=[.tmp 4]
theorem t60:Text Tryz.prog 60 o60 c60 r60 26:=.mk_ Tryz.f60 rfl
end Go.Proofs.YteakobbdgehlgaaGreatDoor
