/- What the functions do, over abstract values: printed by a program, checked by the kernel. No condition. -/
import Derived.Test.YteakobbdgehlgaaDoorProg
import Derived.Test.YteakobbdgehlgaaDoorAbStepV
set_option linter.unusedSimpArgs false
set_option linter.unusedVariables false
set_option linter.unusedSectionVars false
set_option maxRecDepth 100000
namespace Go.Proofs.YteakobbdgehlgaaDoor
open Go Go.Ab
def c3:ACode :=
 (sq_ [pr_ 8 mf_]
 (.seq (sq_ [mv_ 9 1,
 pr_ 10 (.lenv (.tmp 9)),
 pr_ 11 (bk_ .gtr 10 .i64 900),
 mv_ 12 11,
 gp_ 13 12 false (mo_ 3),
 gp_ 14 12 false (.lenv (.tmp 13)),
 gp_ 15 12 false (bk_ .gtr 14 .i64 900),
 pr_ 16 (po_ 12 15)]
 (.cond (.tmp 16)
 (sq_ [cl_ 17 4 [],
 mv_ 8 17]
 .ret)
 .skip))
 (sq_ [mv_ 18 0,
 mv_ 19 1,
 mv_ 20 2,
 mv_ 21 3,
 cl_ 22 5 [(.tmp 18),(.tmp 19),(.tmp 20),(.tmp 21)],
 mv_ 23 22,
 gc_ 24 23 true 4 [],
 pr_ 25 (pa_ 23 24),
 mv_ 8 25]
 .ret)))
def o3:List Tmp:=[]
def r3:List RV:=[.tmp 8]
theorem t3:Text Tryd.prog 3 o3 c3 r3 26:=.mk_ Tryd.f3 rfl
def c4:ACode :=
 (sq_ [pr_ 0 mf_]
 (sq_ [pr_ 8 (.bsl false 1 false 1 [.pl (.int .u8 0)] [(0,1,(.const (.int .u8 0)))]),
 cl_ 9 6 [(.const (.int .i64 7)),(.tmp 8)],
 mv_ 7 9,
 pr_ 10 (ex_ 0 7),
 pr_ 11 (ex_ 1 7),
 ⟨some 1,none,.fresh 32 1 (.tmp 10)⟩,
 mv_ 2 11]
 (sq_ [pr_ 13 (.bsl false 1 false 2 [.pl (.int .u8 0)] [(0,1,(.const (.int .u8 0))),(1,1,(.const (.int .u8 0)))]),
 cl_ 14 6 [(.const (.int .i64 7)),(.tmp 13)],
 mv_ 12 14,
 pr_ 15 (ex_ 0 12),
 pr_ 16 (ex_ 1 12),
 ⟨some 3,none,.fresh 32 3 (.tmp 15)⟩,
 mv_ 4 16]
 (sq_ [pr_ 18 (.bsl false 1 false 1 [.pl (.int .u8 0)] [(0,1,(.const (.int .u8 0)))]),
 c1_ 19 7 18,
 mv_ 17 19,
 pr_ 20 (ex_ 0 17),
 pr_ 21 (ex_ 1 17),
 mv_ 5 20,
 mv_ 6 21]
 (.seq (.draw [⟨mv_ 22 2,[],false,0,0⟩,
 ⟨mv_ 23 22,[0],false,0,0⟩,
 ⟨gp_ 24 23 true (lt_ 32 1),[0,1],false,0,2⟩,
 ⟨gc_ 25 23 true 9 [(.const (.int .i64 7))],[0,1],true,0,0⟩,
 ⟨gc_ 26 23 true 8 [(.tmp 25)],[0,1,3],true,0,0⟩,
 ⟨gp_ 27 23 true (.eqa false [.int,.int,.int,.int,.int,.int,.int,.int,.int,.int,.int,.int,.int,.int,.int,.int,.int,.int,.int,.int,.int,.int,.int,.int,.int,.int,.int,.int,.int,.int,.int,.int] (.tmp 24) (.tmp 26)),[0,1,2,3,4],false,2,2⟩,
 ⟨pr_ 28 (pa_ 23 27),(List.range 6),false,2,2⟩,
 ⟨mv_ 29 28,(List.range 7),false,2,2⟩,
 ⟨gp_ 30 29 true (mo_ 4),(List.range 8),false,2,2⟩,
 ⟨gp_ 31 29 true (no_ 30),(List.range 9),false,2,2⟩,
 ⟨pr_ 32 (pa_ 29 31),(List.range 10),false,2,2⟩,
 ⟨mv_ 33 32,(List.range 11),false,2,2⟩,
 ⟨gp_ 34 33 true (mo_ 5),(List.range 12),false,2,2⟩,
 ⟨gp_ 35 33 true (.lenv (.tmp 34)),(List.range 13),false,2,2⟩,
 ⟨gp_ 36 33 true (bk_ .eql 35 .i64 0),(List.range 14),false,2,2⟩,
 ⟨pr_ 37 (pa_ 33 36),(List.range 15),false,2,2⟩,
 ⟨mv_ 38 37,(List.range 16),false,2,2⟩,
 ⟨gp_ 39 38 true (mo_ 6),(List.range 17),false,2,2⟩,
 ⟨pr_ 40 (pa_ 38 39),(List.range 18),false,2,2⟩,
 ⟨mv_ 0 40,(List.range 19),false,2,2⟩])
 .ret)))))
def o4:List Tmp:=[]
def r4:List RV:=[.tmp 0]
theorem t4:Text Tryd.prog 4 o4 c4 r4 41:=.mk_ Tryd.f4 rfl
def c5:ACode :=
 (sq_ [pr_ 8 mf_]
 (sq_ [mv_ 17 0,
 mv_ 18 1,
 cl_ 19 6 [(.tmp 17),(.tmp 18)],
 mv_ 16 19,
 pr_ 20 (ex_ 0 16),
 pr_ 21 (ex_ 1 16),
 ⟨some 9,none,.fresh 32 9 (.tmp 20)⟩,
 mv_ 10 21]
 (sq_ [mv_ 23 2,
 mv_ 24 3,
 cl_ 25 6 [(.tmp 23),(.tmp 24)],
 mv_ 22 25,
 pr_ 26 (ex_ 0 22),
 pr_ 27 (ex_ 1 22),
 ⟨some 11,none,.fresh 32 11 (.tmp 26)⟩,
 mv_ 12 27]
 (sq_ [mv_ 29 0,
 mv_ 30 1,
 mv_ 31 2,
 mv_ 32 3,
 cl_ 33 10 [(.tmp 29),(.tmp 30),(.tmp 31),(.tmp 32)],
 mv_ 28 33,
 pr_ 34 (ex_ 0 28),
 pr_ 35 (ex_ 1 28),
 pr_ 36 (ex_ 2 28),
 mv_ 13 34,
 mv_ 14 35,
 mv_ 15 36]
 (.seq (sq_ [mv_ 37 10,
 pr_ 38 (no_ 37),
 mv_ 39 38,
 gp_ 40 39 false (mo_ 12),
 gp_ 41 39 false (no_ 40),
 pr_ 42 (po_ 39 41),
 mv_ 43 42,
 gp_ 44 43 false (lt_ 32 9),
 gp_ 45 43 false (lt_ 32 11),
 gp_ 46 43 false (.eqa true [.int,.int,.int,.int,.int,.int,.int,.int,.int,.int,.int,.int,.int,.int,.int,.int,.int,.int,.int,.int,.int,.int,.int,.int,.int,.int,.int,.int,.int,.int,.int,.int] (.tmp 44) (.tmp 45)),
 pr_ 47 (po_ 43 46),
 mv_ 48 47,
 gp_ 49 48 false (mo_ 0),
 gp_ 50 48 false (mo_ 2),
 gp_ 51 48 false (bt_ .eql 49 50),
 gp_ 52 48 false (mo_ 51),
 gp_ 53 52 true (mo_ 1),
 gp_ 54 52 true (.b2s (.tmp 53)),
 gp_ 55 52 true (mo_ 3),
 gp_ 56 52 true (.b2s (.tmp 55)),
 gp_ 57 52 true (bt_ .eql 54 56),
 gp_ 58 48 false (pa_ 52 57),
 pr_ 59 (po_ 48 58)]
 (.cond (.tmp 59)
 (sq_ [mv_ 60 15,
 pr_ 61 (no_ 60),
 mv_ 62 61,
 gp_ 63 62 true (mo_ 13),
 gp_ 64 62 true (.lenv (.tmp 63)),
 gp_ 65 62 true (bk_ .eql 64 .i64 0),
 pr_ 66 (pa_ 62 65),
 mv_ 67 66,
 gp_ 68 67 true (mo_ 14),
 gp_ 69 67 true (.lenv (.tmp 68)),
 gp_ 70 67 true (bk_ .eql 69 .i64 0),
 pr_ 71 (pa_ 67 70),
 mv_ 8 71]
 .ret)
 .skip))
 (sq_ [mv_ 72 15,
 mv_ 73 72,
 gp_ 74 73 true (mo_ 13),
 gp_ 75 73 true (.b2s (.tmp 74)),
 gp_ 76 73 true (mo_ 14),
 gp_ 77 73 true (.b2s (.tmp 76)),
 gp_ 78 73 true (bt_ .neq 75 77),
 pr_ 79 (pa_ 73 78),
 mv_ 80 79,
 gp_ 81 80 true (mo_ 13),
 gc_ 82 80 true 8 [(.tmp 81)],
 gp_ 83 80 true (mo_ 14),
 gc_ 84 80 true 8 [(.tmp 83)],
 gp_ 85 80 true (.eqa false [.int,.int,.int,.int,.int,.int,.int,.int,.int,.int,.int,.int,.int,.int,.int,.int,.int,.int,.int,.int,.int,.int,.int,.int,.int,.int,.int,.int,.int,.int,.int,.int] (.tmp 82) (.tmp 84)),
 pr_ 86 (pa_ 80 85),
 mv_ 87 86,
 gp_ 88 87 true (mo_ 0),
 gp_ 89 87 true (mo_ 1),
 gp_ 90 87 true (mo_ 13),
 gc_ 91 87 true 11 [(.tmp 88),(.tmp 89),(.tmp 90)],
 pr_ 92 (pa_ 87 91),
 mv_ 93 92,
 gp_ 94 93 true (mo_ 2),
 gp_ 95 93 true (mo_ 3),
 gp_ 96 93 true (mo_ 14),
 gc_ 97 93 true 11 [(.tmp 94),(.tmp 95),(.tmp 96)],
 pr_ 98 (pa_ 93 97),
 mv_ 8 98]
 .ret))))))
def o5:List Tmp:=[]
def r5:List RV:=[.tmp 8]
theorem t5:Text Tryd.prog 5 o5 c5 r5 99:=.mk_ Tryd.f5 rfl
def c6:ACode :=
 (sq_ [pr_ 4 (.allocm [.pl (.int .u8 0),.pl (.int .u8 0),.pl (.int .u8 0),.pl (.int .u8 0),.pl (.int .u8 0),.pl (.int .u8 0),.pl (.int .u8 0),.pl (.int .u8 0),.pl (.int .u8 0),.pl (.int .u8 0),.pl (.int .u8 0),.pl (.int .u8 0),.pl (.int .u8 0),.pl (.int .u8 0),.pl (.int .u8 0),.pl (.int .u8 0),.pl (.int .u8 0),.pl (.int .u8 0),.pl (.int .u8 0),.pl (.int .u8 0),.pl (.int .u8 0),.pl (.int .u8 0),.pl (.int .u8 0),.pl (.int .u8 0),.pl (.int .u8 0),.pl (.int .u8 0),.pl (.int .u8 0),.pl (.int .u8 0),.pl (.int .u8 0),.pl (.int .u8 0),.pl (.int .u8 0),.pl (.int .u8 0)]),
 pr_ 5 mf_]
 (sq_ [mv_ 9 0,
 mv_ 10 1,
 cl_ 11 12 [(.tmp 9),(.tmp 10)],
 mv_ 8 11,
 pr_ 12 (ex_ 0 8),
 pr_ 13 (ex_ 1 8),
 mv_ 6 12,
 mv_ 7 13]
 (.seq (sq_ [mv_ 14 7,
 pr_ 15 (no_ 14)]
 (.cond (.tmp 15)
 (sq_ [pr_ 16 (.build [.pl (.int .u8 0),.pl (.int .u8 0),.pl (.int .u8 0),.pl (.int .u8 0),.pl (.int .u8 0),.pl (.int .u8 0),.pl (.int .u8 0),.pl (.int .u8 0),.pl (.int .u8 0),.pl (.int .u8 0),.pl (.int .u8 0),.pl (.int .u8 0),.pl (.int .u8 0),.pl (.int .u8 0),.pl (.int .u8 0),.pl (.int .u8 0),.pl (.int .u8 0),.pl (.int .u8 0),.pl (.int .u8 0),.pl (.int .u8 0),.pl (.int .u8 0),.pl (.int .u8 0),.pl (.int .u8 0),.pl (.int .u8 0),.pl (.int .u8 0),.pl (.int .u8 0),.pl (.int .u8 0),.pl (.int .u8 0),.pl (.int .u8 0),.pl (.int .u8 0),.pl (.int .u8 0),.pl (.int .u8 0)] []),
 st_ (so_ 32 4 16),
 pr_ 5 mf_]
 .ret)
 .skip))
 (sq_ [mv_ 17 6,
 mv_ 18 6,
 pr_ 19 (.lenv (.tmp 18)),
 pr_ 20 (bk_ .sub 19 .i64 1),
 pr_ 21 (.iadrs 1 (.tmp 17) (.tmp 20)),
 pr_ 22 (lf_ 1 21),
 c1_ 23 8 22,
 st_ (so_ 32 4 23),
 pr_ 5 mt_]
 .ret))))
def o6:List Tmp:=[4]
def r6:List RV:=[.cell 4 32 true,.tmp 5]
theorem t6:Text Tryd.prog 6 o6 c6 r6 24:=.mk_ Tryd.f6 rfl
def c7:ACode :=
 (sq_ [pr_ 2 (.mov (.const (.slice none 0 0))),
 pr_ 3 mf_]
 (sq_ [mv_ 11 0,
 c1_ 12 13 11,
 mv_ 4 12]
 (.seq (.after (.ops [pr_ 5 (.mov (.const (.slice none 0 0)))]) (.own 5 4))
 (.seq (sq_ [mv_ 13 4,
 cl_ 14 14 [(.tmp 13),(.const (.int .u64 200))],
 pr_ 15 (.convi .i64 (.tmp 14)),
 pr_ 16 (mi_ .i64 0)]
 (.block 0 (.loop [1,2,3,6,7,8,9,10,11,12,13,14,17,18,19,20,21,22,23,24,25,26,27,28,29,30,31,32,33,34,35,36,37,38,39,40,41,42,43,44,45,46,47,48,49,50,51,52,53,54,55,56,57,58,59,60,61,62,63,64,65,66,67,68,69] (sq_ [pr_ 17 (bt_ .lss 16 15)]
 (.seq (.cond (.tmp 17)
 .skip
 (.exit 0))
 (.seq (.block 1 (sq_ [mv_ 18 16,
 mv_ 6 18]
 (sq_ [mv_ 20 4,
 mv_ 21 0,
 pr_ 22 (.lenv (.tmp 21)),
 cl_ 23 16 [(.tmp 20),(.tmp 22)],
 pr_ 24 (.s2b (.tmp 23)),
 c1_ 25 15 24,
 mv_ 19 25,
 pr_ 26 (ex_ 0 19),
 pr_ 27 (ex_ 1 19),
 ⟨some 7,none,.fresh 4 7 (.tmp 26)⟩,
 mv_ 8 27]
 (.seq (.seq (.draw [⟨mv_ 28 8,[],false,0,0⟩,
 ⟨pr_ 29 (no_ 28),[0],false,0,0⟩,
 ⟨mv_ 30 29,[0,1],false,0,0⟩,
 ⟨gp_ 31 30 false (fa_ 0 7),[0,1,2],false,0,0⟩,
 ⟨gp_ 32 30 false (lf_ 1 31),[0,1,2,3],false,0,0⟩,
 ⟨gp_ 33 30 false (mo_ 6),[0,1,2],false,0,0⟩,
 ⟨gp_ 34 30 false (bt_ .neq 32 33),(List.range 6),false,0,0⟩,
 ⟨pr_ 35 (po_ 30 34),(List.range 7),false,0,0⟩,
 ⟨mv_ 36 35,(List.range 8),false,0,0⟩,
 ⟨gp_ 37 36 false (mo_ 6),(List.range 9),false,0,0⟩,
 ⟨gp_ 38 36 false (bk_ .gtr 37 .i64 0),(List.range 10),false,0,0⟩,
 ⟨gp_ 39 36 false (mo_ 38),(List.range 11),false,0,0⟩,
 ⟨gp_ 40 39 true (fa_ 1 7),(List.range 12),false,0,0⟩,
 ⟨gp_ 41 39 true (lf_ 1 40),(List.range 13),false,0,0⟩,
 ⟨gp_ 42 39 true (mo_ 5),(List.range 12),false,0,0⟩,
 ⟨gp_ 43 39 true (mo_ 6),(List.range 12),false,0,0⟩,
 ⟨gp_ 44 39 true (bk_ .sub 43 .i64 1),[0,1,2,3,4,5,6,7,8,9,10,11,15],false,0,0⟩,
 ⟨gp_ 45 39 true (.iadrs 4 (.tmp 42) (.tmp 44)),[0,1,2,3,4,5,6,7,8,9,10,11,14,15,16],false,0,0⟩,
 ⟨gp_ 46 39 true (fa_ 1 45),[0,1,2,3,4,5,6,7,8,9,10,11,14,15,16,17],false,0,0⟩,
 ⟨gp_ 47 39 true (lf_ 1 46),[0,1,2,3,4,5,6,7,8,9,10,11,14,15,16,17,18],false,0,0⟩,
 ⟨gp_ 48 39 true (bt_ .lss 41 47),(List.range 20),false,0,0⟩,
 ⟨gp_ 49 36 false (pa_ 39 48),(List.range 21),false,0,0⟩,
 ⟨pr_ 50 (po_ 36 49),(List.range 22),false,0,0⟩])
 (.cond (.tmp 50)
 (sq_ [pr_ 2 (.mov (.const (.slice none 0 0))),
 pr_ 3 mf_]
 (.ghost (.shut 2) .ret))
 .skip))
 (.ops [mv_ 51 5,
 pr_ 52 (lt_ 4 7),
 pr_ 53 (.bsl false 4 true 1 [.pl (.int .i64 0),.pl (.int .u64 0),.nils,.pl (.int .i64 0)] [(0,4,(.tmp 52))]),
 pr_ 54 (.app 4 (.tmp 51) (.tmp 53)),
 mv_ 5 54])))))
 (.ops [pr_ 55 (bk_ .add 16 .i64 1),
 mv_ 16 55])))))))
 (.seq (sq_ [mv_ 57 4,
 c1_ 58 17 57,
 mv_ 56 58,
 pr_ 59 (ex_ 0 56),
 pr_ 60 (ex_ 1 56),
 mv_ 9 59,
 mv_ 10 60]
 (sq_ [mv_ 61 10,
 pr_ 62 (no_ 61),
 mv_ 63 62,
 gp_ 64 63 false (mo_ 9),
 gp_ 65 63 false (mo_ 0),
 gp_ 66 63 false (.lenv (.tmp 65)),
 gp_ 67 63 false (bt_ .neq 64 66),
 pr_ 68 (po_ 63 67)]
 (.cond (.tmp 68)
 (sq_ [pr_ 2 (.mov (.const (.slice none 0 0))),
 pr_ 3 mf_]
 (.ghost (.shut 2) .ret))
 .skip)))
 (sq_ [mv_ 69 5,
 mv_ 2 69,
 pr_ 3 mt_]
 (.ghost (.shut 2) .ret)))))))
def o7:List Tmp:=[]
def r7:List RV:=[.tmp 2,.tmp 3]
theorem t7:Text Tryd.prog 7 o7 c7 r7 70:=.mk_ Tryd.f7 rfl
def c8:ACode :=
 (sq_ [pr_ 2 (.allocm [.pl (.int .u8 0),.pl (.int .u8 0),.pl (.int .u8 0),.pl (.int .u8 0),.pl (.int .u8 0),.pl (.int .u8 0),.pl (.int .u8 0),.pl (.int .u8 0),.pl (.int .u8 0),.pl (.int .u8 0),.pl (.int .u8 0),.pl (.int .u8 0),.pl (.int .u8 0),.pl (.int .u8 0),.pl (.int .u8 0),.pl (.int .u8 0),.pl (.int .u8 0),.pl (.int .u8 0),.pl (.int .u8 0),.pl (.int .u8 0),.pl (.int .u8 0),.pl (.int .u8 0),.pl (.int .u8 0),.pl (.int .u8 0),.pl (.int .u8 0),.pl (.int .u8 0),.pl (.int .u8 0),.pl (.int .u8 0),.pl (.int .u8 0),.pl (.int .u8 0),.pl (.int .u8 0),.pl (.int .u8 0)])]
 (sq_ [pr_ 7 (.build [.pl (.int .u32 0),.pl (.int .u32 0),.pl (.int .u32 0),.pl (.int .u32 0),.pl (.int .u32 0),.pl (.int .u32 0),.pl (.int .u32 0),.pl (.int .u32 0)] [(0,1,(.const (.int .u32 1779033703))),(1,1,(.const (.int .u32 3144134277))),(2,1,(.const (.int .u32 1013904242))),(3,1,(.const (.int .u32 2773480762))),(4,1,(.const (.int .u32 1359893119))),(5,1,(.const (.int .u32 2600822924))),(6,1,(.const (.int .u32 528734635))),(7,1,(.const (.int .u32 1541459225)))]),
 pr_ 3 (.allocm [.pl (.int .u32 0),.pl (.int .u32 0),.pl (.int .u32 0),.pl (.int .u32 0),.pl (.int .u32 0),.pl (.int .u32 0),.pl (.int .u32 0),.pl (.int .u32 0)]),
 st_ (so_ 8 3 7)]
 (.seq (sq_ [mv_ 8 0,
 c1_ 9 18 8,
 mv_ 4 9]
 (.block 0 (.loop [0,1,5,6,7,8,9,10,11,12,13,14,15,16,17,18,19,20,21,22,23,24,25,26,27,28,29,30,31,32,33,34,35,36,37] (.seq (sq_ [mv_ 10 4,
 pr_ 11 (.lenv (.tmp 10)),
 pr_ 12 (bk_ .gtr 11 .i64 0)]
 (.cond (.tmp 12)
 .skip
 (.exit 0)))
 (.seq (.block 1 (.draw [⟨pr_ 15 (lt_ 8 3),[],false,0,0⟩,
 ⟨mv_ 16 4,[],false,0,0⟩,
 ⟨pr_ 17 (.slcv 1 (.tmp 16) none (some (.const (.int .i64 64)))),[1],false,0,0⟩,
 ⟨pr_ 18 (.arrp 64 (.tmp 17)),[1,2],false,0,0⟩,
 ⟨pr_ 19 (lt_ 64 18),[1,2,3],false,0,0⟩,
 ⟨cl_ 20 19 [(.tmp 15),(.tmp 19)],[0,1,2,3,4],true,0,0⟩,
 ⟨st_ (so_ 8 3 20),(List.range 6),true,0,0⟩]))
 (.ops [mv_ 13 4,
 pr_ 14 (.slcv 1 (.tmp 13) (some (.const (.int .i64 64))) none),
 mv_ 4 14]))))))
 (sq_ [pr_ 5 (.allocm [.pl (.int .u8 0),.pl (.int .u8 0),.pl (.int .u8 0),.pl (.int .u8 0),.pl (.int .u8 0),.pl (.int .u8 0),.pl (.int .u8 0),.pl (.int .u8 0),.pl (.int .u8 0),.pl (.int .u8 0),.pl (.int .u8 0),.pl (.int .u8 0),.pl (.int .u8 0),.pl (.int .u8 0),.pl (.int .u8 0),.pl (.int .u8 0),.pl (.int .u8 0),.pl (.int .u8 0),.pl (.int .u8 0),.pl (.int .u8 0),.pl (.int .u8 0),.pl (.int .u8 0),.pl (.int .u8 0),.pl (.int .u8 0),.pl (.int .u8 0),.pl (.int .u8 0),.pl (.int .u8 0),.pl (.int .u8 0),.pl (.int .u8 0),.pl (.int .u8 0),.pl (.int .u8 0),.pl (.int .u8 0)])]
 (.seq (sq_ [pr_ 21 (mi_ .i64 0)]
 (.block 2 (.loop [0,1,4,6,7,8,9,10,11,12,13,14,15,16,17,18,19,20,22,23,24,25,26,27,28,29,30,31,32,33,34,35,36,37] (sq_ [pr_ 22 (bk_ .lss 21 .i64 32)]
 (.seq (.cond (.tmp 22)
 .skip
 (.exit 2))
 (.seq (.block 3 (sq_ [mv_ 23 21,
 mv_ 6 23]
 (.ops [mv_ 24 6,
 mv_ 25 6,
 pr_ 26 (bk_ .quo 25 .i64 4),
 pr_ 27 (.iadra 1 8 (.tmp 3) (.tmp 26)),
 pr_ 28 (lf_ 1 27),
 mv_ 29 6,
 pr_ 30 (bk_ .rem 29 .i64 4),
 pr_ 31 (.bin false .mul (.const (.int .i64 8)) (.tmp 30)),
 pr_ 32 (.bin false .sub (.const (.int .i64 24)) (.tmp 31)),
 pr_ 33 (bt_ .shr 28 32),
 pr_ 34 (.convi .u8 (.tmp 33)),
 pr_ 35 (.iadra 1 32 (.tmp 5) (.tmp 24)),
 st_ (so_ 1 35 34)])))
 (.ops [pr_ 36 (bk_ .add 21 .i64 1),
 mv_ 21 36])))))))
 (sq_ [pr_ 37 (lt_ 32 5),
 st_ (so_ 32 2 37)]
 .ret))))))
def o8:List Tmp:=[2,3,5]
def r8:List RV:=[.cell 2 32 true]
theorem t8:Text Tryd.prog 8 o8 c8 r8 38:=.mk_ Tryd.f8 rfl
def c9:ACode :=
 (sq_ [pr_ 2 (.mov (.const (.slice none 0 0)))]
 (sq_ [pr_ 3 (.bsl true 1 false 1 [.pl (.int .u8 0)] [(0,1,(.const (.int .u8 0)))]),
 mv_ 4 0,
 pr_ 5 (.convi .u64 (.tmp 4)),
 c1_ 6 20 5,
 pr_ 7 (.app 1 (.tmp 3) (.tmp 6)),
 mv_ 2 7]
 (.ghost (.shut 2) .ret)))
def o9:List Tmp:=[3]
def r9:List RV:=[.tmp 2]
theorem t9:Text Tryd.prog 9 o9 c9 r9 8:=.mk_ Tryd.f9 rfl
def c10:ACode :=
 (sq_ [pr_ 8 (.mov (.const (.slice none 0 0))),
 pr_ 9 (.mov (.const (.slice none 0 0))),
 pr_ 10 mf_]
 (sq_ [mv_ 21 0,
 mv_ 22 1,
 cl_ 23 6 [(.tmp 21),(.tmp 22)],
 mv_ 20 23,
 pr_ 24 (ex_ 0 20),
 pr_ 25 (ex_ 1 20),
 ⟨some 11,none,.fresh 32 11 (.tmp 24)⟩,
 mv_ 12 25]
 (sq_ [mv_ 27 2,
 mv_ 28 3,
 cl_ 29 6 [(.tmp 27),(.tmp 28)],
 mv_ 26 29,
 pr_ 30 (ex_ 0 26),
 pr_ 31 (ex_ 1 26),
 ⟨some 13,none,.fresh 32 13 (.tmp 30)⟩,
 mv_ 14 31]
 (.seq (sq_ [mv_ 32 12,
 pr_ 33 (no_ 32),
 mv_ 34 33,
 gp_ 35 34 false (mo_ 14),
 gp_ 36 34 false (no_ 35),
 pr_ 37 (po_ 34 36),
 mv_ 38 37,
 gp_ 39 38 false (lt_ 32 11),
 gp_ 40 38 false (lt_ 32 13),
 gp_ 41 38 false (.eqa true [.int,.int,.int,.int,.int,.int,.int,.int,.int,.int,.int,.int,.int,.int,.int,.int,.int,.int,.int,.int,.int,.int,.int,.int,.int,.int,.int,.int,.int,.int,.int,.int] (.tmp 39) (.tmp 40)),
 pr_ 42 (po_ 38 41),
 mv_ 43 42,
 gp_ 44 43 false (mo_ 0),
 gp_ 45 43 false (mo_ 2),
 gp_ 46 43 false (bt_ .eql 44 45),
 gp_ 47 43 false (mo_ 46),
 gp_ 48 47 true (mo_ 1),
 gp_ 49 47 true (mo_ 3),
 gc_ 50 47 true 21 [(.tmp 48),(.tmp 49)],
 gp_ 51 43 false (pa_ 47 50),
 pr_ 52 (po_ 43 51)]
 (.cond (.tmp 52)
 (sq_ [pr_ 8 (.mov (.const (.slice none 0 0))),
 pr_ 9 (.mov (.const (.slice none 0 0))),
 pr_ 10 mf_]
 (.ghost (.shut 9) (.ghost (.shut 8) .ret)))
 .skip))
 (sq_ [mv_ 54 0,
 mv_ 55 1,
 cl_ 56 12 [(.tmp 54),(.tmp 55)],
 mv_ 53 56,
 pr_ 57 (ex_ 0 53),
 pr_ 58 (ex_ 1 53),
 mv_ 15 57,
 mv_ 16 58]
 (sq_ [mv_ 60 2,
 mv_ 61 3,
 cl_ 62 12 [(.tmp 60),(.tmp 61)],
 mv_ 59 62,
 pr_ 63 (ex_ 0 59),
 pr_ 64 (ex_ 1 59),
 mv_ 17 63,
 mv_ 18 64]
 (sq_ [mv_ 65 15,
 c1_ 66 22 65]
 (sq_ [mv_ 67 17,
 c1_ 68 22 67]
 (.seq (sq_ [mv_ 69 15,
 pr_ 70 (.lenv (.tmp 69)),
 mv_ 71 17,
 pr_ 72 (.lenv (.tmp 71)),
 pr_ 73 (.mm false (.tmp 70) (.tmp 72)),
 pr_ 74 (mi_ .i64 0)]
 (.block 0 (.loop [0,1,2,3,4,5,6,7,8,9,10,11,12,13,14,16,18,19,20,21,22,23,24,25,26,27,28,29,30,31,32,33,34,35,36,37,38,39,40,41,42,43,44,45,46,47,48,49,50,51,52,53,54,55,56,57,58,59,60,61,62,63,64,65,66,67,68,69,70,71,72,75,76,77,78,79,80,81,82,83,84,85,86,87,88,89,90,91,92,93,94,95] (sq_ [pr_ 75 (bt_ .lss 74 73)]
 (.seq (.cond (.tmp 75)
 .skip
 (.exit 0))
 (.seq (.block 1 (sq_ [mv_ 76 74,
 mv_ 19 76]
 (.seq (.draw [⟨mv_ 77 15,[],false,0,0⟩,
 ⟨mv_ 78 19,[],false,0,0⟩,
 ⟨pr_ 79 (.iadrs 1 (.tmp 77) (.tmp 78)),[0,1],false,0,0⟩,
 ⟨pr_ 80 (lf_ 1 79),[0,1,2],false,0,0⟩,
 ⟨mv_ 81 17,[],false,0,0⟩,
 ⟨mv_ 82 19,[],false,0,0⟩,
 ⟨pr_ 83 (.iadrs 1 (.tmp 81) (.tmp 82)),[4,5],false,0,0⟩,
 ⟨pr_ 84 (lf_ 1 83),[4,5,6],false,0,0⟩,
 ⟨cl_ 85 21 [(.tmp 80),(.tmp 84)],(List.range 8),true,0,0⟩,
 ⟨pr_ 86 (no_ 85),(List.range 9),false,1,1⟩])
 (.cond (.tmp 86)
 (.seq (.draw [⟨mv_ 87 15,[],false,0,0⟩,
 ⟨mv_ 88 19,[],false,0,0⟩,
 ⟨pr_ 89 (.iadrs 1 (.tmp 87) (.tmp 88)),[0,1],false,0,0⟩,
 ⟨pr_ 90 (lf_ 1 89),[0,1,2],false,0,0⟩,
 ⟨mv_ 91 17,[],false,0,0⟩,
 ⟨mv_ 92 19,[],false,0,0⟩,
 ⟨pr_ 93 (.iadrs 1 (.tmp 91) (.tmp 92)),[4,5],false,0,0⟩,
 ⟨pr_ 94 (lf_ 1 93),[4,5,6],false,0,0⟩,
 ⟨mv_ 8 90,[0,1,2,3],false,0,0⟩,
 ⟨mv_ 9 94,(List.range 9),false,0,0⟩,
 ⟨pr_ 10 mt_,(List.range 10),false,0,0⟩])
 (.ghost (.shut 9) (.ghost (.shut 8) .ret)))
 .skip))))
 (.ops [pr_ 95 (bk_ .add 74 .i64 1),
 mv_ 74 95])))))))
 (sq_ [pr_ 8 (.mov (.const (.slice none 0 0))),
 pr_ 9 (.mov (.const (.slice none 0 0))),
 pr_ 10 mf_]
 (.ghost (.shut 9) (.ghost (.shut 8) .ret))))))))))))
def o10:List Tmp:=[]
def r10:List RV:=[.tmp 8,.tmp 9,.tmp 10]
theorem t10:Text Tryd.prog 10 o10 c10 r10 96:=.mk_ Tryd.f10 rfl
def c11:ACode :=
 (sq_ [pr_ 6 mf_]
 (sq_ [mv_ 11 0,
 mv_ 12 1,
 cl_ 13 12 [(.tmp 11),(.tmp 12)],
 mv_ 10 13,
 pr_ 14 (ex_ 0 10),
 pr_ 15 (ex_ 1 10),
 mv_ 7 14,
 mv_ 8 15]
 (.seq (sq_ [pr_ 9 (mi_ .i64 0)]
 (.block 0 (.loop [0,1,3,4,5,6,8,10,11,12,13,14,15,16,17,18,19,20,21,22,23,24,25,26,27,28,29] (.seq (sq_ [mv_ 16 9,
 mv_ 17 7,
 pr_ 18 (.lenv (.tmp 17)),
 pr_ 19 (bt_ .lss 16 18)]
 (.cond (.tmp 19)
 .skip
 (.exit 0)))
 (.seq (.block 1 (.seq (.draw [⟨mv_ 22 7,[],false,0,0⟩,
 ⟨mv_ 23 9,[],false,0,0⟩,
 ⟨pr_ 24 (.iadrs 1 (.tmp 22) (.tmp 23)),[0,1],false,0,0⟩,
 ⟨pr_ 25 (lf_ 1 24),[0,1,2],false,0,0⟩,
 ⟨pr_ 26 (.b2s (.tmp 25)),[0,1,2,3],false,0,0⟩,
 ⟨mv_ 27 2,[],false,0,0⟩,
 ⟨pr_ 28 (.b2s (.tmp 27)),[5],false,0,0⟩,
 ⟨pr_ 29 (bt_ .eql 26 28),(List.range 7),false,0,0⟩])
 (.cond (.tmp 29)
 (sq_ [pr_ 6 mt_]
 .ret)
 .skip)))
 (.ops [mv_ 20 9,
 pr_ 21 (bk_ .add 20 .i64 1),
 mv_ 9 21]))))))
 (sq_ [pr_ 6 mf_]
 .ret))))
def o11:List Tmp:=[]
def r11:List RV:=[.tmp 6]
theorem t11:Text Tryd.prog 11 o11 c11 r11 30:=.mk_ Tryd.f11 rfl
def c12:ACode :=
 (sq_ [pr_ 4 (.mov (.const (.slice none 0 0))),
 pr_ 5 mf_]
 (sq_ [mv_ 12 1,
 c1_ 13 7 12,
 mv_ 11 13,
 pr_ 14 (ex_ 0 11),
 pr_ 15 (ex_ 1 11),
 mv_ 6 14,
 mv_ 7 15]
 (.seq (sq_ [mv_ 16 7,
 pr_ 17 (no_ 16)]
 (.cond (.tmp 17)
 (sq_ [pr_ 4 (.mov (.const (.slice none 0 0))),
 pr_ 5 mf_]
 .ret)
 .skip))
 (sq_ [mv_ 18 0,
 c1_ 19 9 18,
 pr_ 20 (.bsl true 1 false 1 [.nils] [(0,1,(.tmp 19))]),
 mv_ 8 20]
 (.seq (sq_ [mv_ 21 6,
 pr_ 22 (.lenv (.tmp 21)),
 pr_ 23 (mi_ .i64 0)]
 (.block 0 (.loop [0,1,2,3,4,5,6,7,9,10,11,12,13,14,15,16,17,18,19,20,24,25,26,27,28,29,30,31,32,33,34,35,36,37,38,39,40] (sq_ [pr_ 24 (bt_ .lss 23 22)]
 (.seq (.cond (.tmp 24)
 .skip
 (.exit 0))
 (.seq (.block 1 (sq_ [mv_ 25 23,
 pr_ 26 (.iadrs 4 (.tmp 21) (.tmp 23)),
 pr_ 27 (lt_ 4 26),
 pr_ 10 (.allocm [.pl (.int .i64 0),.pl (.int .u64 0),.nils,.pl (.int .i64 0)]),
 mv_ 9 25,
 st_ (so_ 4 10 27)]
 (.draw [⟨mv_ 28 8,[],false,0,3⟩,
 ⟨mv_ 29 8,[],false,0,0⟩,
 ⟨mv_ 30 9,[],false,0,0⟩,
 ⟨pr_ 31 (.iadrs 1 (.tmp 29) (.tmp 30)),[1,2],false,0,0⟩,
 ⟨pr_ 32 (lf_ 1 31),[1,2,3],false,0,0⟩,
 ⟨c1_ 33 8 32,[1,2,3,4],true,0,0⟩,
 ⟨pr_ 34 (lt_ 4 10),[],false,0,1⟩,
 ⟨c1_ 35 24 34,[1,2,3,4,5,6],true,0,0⟩,
 ⟨cl_ 36 23 [(.tmp 33),(.tmp 35)],[1,2,3,4,5,6,7],true,0,0⟩,
 ⟨pr_ 37 (.bsl false 1 false 1 [.nils] [(0,1,(.tmp 36))]),[1,2,3,4,5,6,7,8],false,3,3⟩,
 ⟨pr_ 38 (.app 1 (.tmp 28) (.tmp 37)),(List.range 10),true,0,0⟩,
 ⟨mv_ 8 38,(List.range 11),false,4,4⟩])))
 (.ops [pr_ 39 (bk_ .add 23 .i64 1),
 mv_ 23 39])))))))
 (sq_ [mv_ 40 8,
 mv_ 4 40,
 pr_ 5 mt_]
 .ret))))))
def o12:List Tmp:=[20]
def r12:List RV:=[.tmp 4,.tmp 5]
theorem t12:Text Tryd.prog 12 o12 c12 r12 41:=.mk_ Tryd.f12 rfl
def c13:ACode :=
 (sq_ [pr_ 2 (.mov (.const (.pointer none)))]
 (sq_ [mv_ 3 0,
 pr_ 4 (.build [.nils,.pl (.int .i64 0),.pl (.bool false)] [(0,1,(.tmp 3))]),
 pr_ 5 (.boxm (.tmp 4)),
 mv_ 2 5]
 .ret))
def o13:List Tmp:=[5]
def r13:List RV:=[.tmp 2]
theorem t13:Text Tryd.prog 13 o13 c13 r13 6:=.mk_ Tryd.f13 rfl
def c14:ACode :=
 (sq_ [pr_ 4 (mi_ .u64 0)]
 (sq_ [mv_ 9 0,
 c1_ 10 26 9,
 c1_ 11 25 10,
 mv_ 8 11,
 pr_ 12 (ex_ 0 8),
 pr_ 13 (ex_ 1 8),
 pr_ 14 (ex_ 2 8),
 mv_ 5 12,
 mv_ 6 13,
 mv_ 7 14]
 (.seq (sq_ [mv_ 15 0,
 mv_ 16 6,
 mv_ 17 7,
 mv_ 18 17,
 gp_ 19 18 true (mo_ 5),
 gp_ 20 18 true (mo_ 1),
 gp_ 21 18 true (bt_ .leq 19 20),
 pr_ 22 (pa_ 18 21),
 cl_ 23 27 [(.tmp 15),(.tmp 16),(.tmp 22)],
 pr_ 24 (no_ 23)]
 (.cond (.tmp 24)
 (sq_ [pr_ 4 (mi_ .u64 0)]
 .ret)
 .skip))
 (sq_ [mv_ 25 5,
 mv_ 4 25]
 .ret))))
def o14:List Tmp:=[]
def r14:List RV:=[.tmp 4]
theorem t14:Text Tryd.prog 14 o14 c14 r14 26:=.mk_ Tryd.f14 rfl
def c15:ACode :=
 (sq_ [pr_ 2 (.allocm [.pl (.int .i64 0),.pl (.int .u64 0),.nils,.pl (.int .i64 0)]),
 pr_ 3 mf_]
 (sq_ [mv_ 8 0,
 c1_ 9 13 8,
 mv_ 4 9]
 (sq_ [mv_ 10 4,
 cl_ 11 14 [(.tmp 10),(.const (.int .u64 2147483647))],
 pr_ 12 (.convi .i64 (.tmp 11)),
 mv_ 13 4,
 cl_ 14 14 [(.tmp 13),(.const (.int .u64 1099511627776))],
 mv_ 15 4,
 mv_ 16 0,
 pr_ 17 (.lenv (.tmp 16)),
 cl_ 18 16 [(.tmp 15),(.tmp 17)],
 pr_ 19 (.s2b (.tmp 18)),
 mv_ 20 4,
 c1_ 21 28 20,
 pr_ 22 (.convi .i64 (.tmp 21)),
 pr_ 23 (.build [.pl (.int .i64 0),.pl (.int .u64 0),.nils,.pl (.int .i64 0)] [(0,1,(.tmp 12)),(1,1,(.tmp 14)),(2,1,(.tmp 19)),(3,1,(.tmp 22))]),
 ⟨some 5,none,.fresh 4 5 (.tmp 23)⟩]
 (.seq (sq_ [mv_ 25 4,
 c1_ 26 17 25,
 mv_ 24 26,
 pr_ 27 (ex_ 0 24),
 pr_ 28 (ex_ 1 24),
 mv_ 6 27,
 mv_ 7 28]
 (sq_ [mv_ 29 7,
 pr_ 30 (no_ 29),
 mv_ 31 30,
 gp_ 32 31 false (mo_ 6),
 gp_ 33 31 false (mo_ 0),
 gp_ 34 31 false (.lenv (.tmp 33)),
 gp_ 35 31 false (bt_ .neq 32 34),
 pr_ 36 (po_ 31 35),
 mv_ 37 36,
 gp_ 38 37 false (lt_ 4 5),
 gc_ 39 37 false 29 [(.tmp 38)],
 gp_ 40 37 false (no_ 39),
 pr_ 41 (po_ 37 40)]
 (.cond (.tmp 41)
 (sq_ [pr_ 42 (.build [.pl (.int .i64 0),.pl (.int .u64 0),.nils,.pl (.int .i64 0)] []),
 st_ (so_ 4 2 42),
 pr_ 3 mf_]
 .ret)
 .skip)))
 (sq_ [pr_ 43 (lt_ 4 5),
 st_ (so_ 4 2 43),
 pr_ 3 mt_]
 .ret)))))
def o15:List Tmp:=[2]
def r15:List RV:=[.cell 2 4 true,.tmp 3]
theorem t15:Text Tryd.prog 15 o15 c15 r15 44:=.mk_ Tryd.f15 rfl
def c16:ACode :=
 (sq_ [pr_ 4 (.mov (.const (.string (ByteArray.mk #[]))))]
 (sq_ [mv_ 9 0,
 c1_ 10 26 9,
 mv_ 11 1,
 cl_ 12 30 [(.tmp 10),(.tmp 11)],
 mv_ 8 12,
 pr_ 13 (ex_ 0 8),
 pr_ 14 (ex_ 1 8),
 pr_ 15 (ex_ 2 8),
 mv_ 5 13,
 mv_ 6 14,
 mv_ 7 15]
 (.seq (sq_ [mv_ 16 0,
 mv_ 17 6,
 mv_ 18 7,
 cl_ 19 27 [(.tmp 16),(.tmp 17),(.tmp 18)],
 pr_ 20 (no_ 19)]
 (.cond (.tmp 20)
 (sq_ [pr_ 4 (.mov (.const (.string (ByteArray.mk #[]))))]
 .ret)
 .skip))
 (sq_ [mv_ 21 5,
 mv_ 4 21]
 .ret))))
def o16:List Tmp:=[]
def r16:List RV:=[.tmp 4]
theorem t16:Text Tryd.prog 16 o16 c16 r16 22:=.mk_ Tryd.f16 rfl
def c17:ACode :=
 (sq_ [pr_ 2 (mi_ .i64 0),
 pr_ 3 mf_]
 (.seq (sq_ [mv_ 4 0,
 pr_ 5 (nc_ 4),
 pr_ 6 (fa_ 2 5),
 pr_ 7 (lf_ 1 6)]
 (.cond (.tmp 7)
 (sq_ [pr_ 2 (mi_ .i64 0),
 pr_ 3 mf_]
 .ret)
 .skip))
 (sq_ [mv_ 8 0,
 pr_ 9 (nc_ 8),
 pr_ 10 (fa_ 1 9),
 pr_ 11 (lf_ 1 10),
 mv_ 2 11,
 pr_ 3 mt_]
 .ret)))
def o17:List Tmp:=[]
def r17:List RV:=[.tmp 2,.tmp 3]
theorem t17:Text Tryd.prog 17 o17 c17 r17 12:=.mk_ Tryd.f17 rfl
def c18:ACode :=
 (sq_ [pr_ 2 (.mov (.const (.slice none 0 0)))]
 (sq_ [mv_ 7 0,
 pr_ 8 (.lenv (.tmp 7)),
 pr_ 9 (bk_ .add 8 .i64 1),
 mv_ 3 9]
 (.seq (.block 0 (.loop [1,2,4,5,6,7,8,9,10,11,12,13,14,15,16,17,18,19,20,21,22,23,24,25,26,27,28,29,30,31,32,33,34,35,36,37,38,39,40,41,42,43,44] (.seq (sq_ [mv_ 10 3,
 pr_ 11 (bk_ .rem 10 .i64 64),
 pr_ 12 (bk_ .neq 11 .i64 56)]
 (.cond (.tmp 12)
 .skip
 (.exit 0)))
 (.block 1 (.ops [mv_ 13 3,
 pr_ 14 (bk_ .add 13 .i64 1),
 mv_ 3 14])))))
 (sq_ [mv_ 15 3,
 pr_ 16 (bk_ .add 15 .i64 8),
 pr_ 17 (.mks 1 false [.pl (.int .u8 0)] (.tmp 16) (.tmp 16)),
 mv_ 4 17]
 (sq_ [mv_ 18 4,
 mv_ 19 0,
 pr_ 20 (.copy (.tmp 18) (.tmp 19))]
 (sq_ [mv_ 21 4,
 mv_ 22 0,
 pr_ 23 (.lenv (.tmp 22)),
 pr_ 24 (.iadrs 1 (.tmp 21) (.tmp 23)),
 st_ (.store 1 (.tmp 24) (.const (.int .u8 128)))]
 (sq_ [mv_ 25 0,
 pr_ 26 (.lenv (.tmp 25)),
 pr_ 27 (.convi .u64 (.tmp 26)),
 pr_ 28 (bk_ .mul 27 .u64 8),
 mv_ 5 28]
 (.seq (sq_ [pr_ 29 (mi_ .i64 0)]
 (.block 2 (.loop [0,1,2,6,7,8,9,10,11,12,13,14,15,16,17,18,19,20,21,22,23,24,25,26,27,28,30,31,32,33,34,35,36,37,38,39,40,41,42,43,44] (sq_ [pr_ 30 (bk_ .lss 29 .i64 8)]
 (.seq (.cond (.tmp 30)
 .skip
 (.exit 2))
 (.seq (.block 3 (sq_ [mv_ 31 29,
 mv_ 6 31]
 (.ops [mv_ 32 4,
 mv_ 33 3,
 mv_ 34 6,
 pr_ 35 (bt_ .add 33 34),
 mv_ 36 5,
 mv_ 37 6,
 pr_ 38 (.bin false .mul (.const (.int .i64 8)) (.tmp 37)),
 pr_ 39 (.bin false .sub (.const (.int .i64 56)) (.tmp 38)),
 pr_ 40 (bt_ .shr 36 39),
 pr_ 41 (.convi .u8 (.tmp 40)),
 pr_ 42 (.iadrs 1 (.tmp 32) (.tmp 35)),
 st_ (so_ 1 42 41)])))
 (.ops [pr_ 43 (bk_ .add 29 .i64 1),
 mv_ 29 43])))))))
 (sq_ [mv_ 44 4,
 mv_ 2 44]
 (.ghost (.shut 2) .ret))))))))))
def o18:List Tmp:=[]
def r18:List RV:=[.tmp 2]
theorem t18:Text Tryd.prog 18 o18 c18 r18 45:=.mk_ Tryd.f18 rfl
def c19:ACode :=
 (sq_ [pr_ 2 (.boxr (.tmp 0)),
 pr_ 3 (.boxr (.tmp 1)),
 pr_ 4 (.allocm [.pl (.int .u32 0),.pl (.int .u32 0),.pl (.int .u32 0),.pl (.int .u32 0),.pl (.int .u32 0),.pl (.int .u32 0),.pl (.int .u32 0),.pl (.int .u32 0)])]
 (sq_ [pr_ 18 (lt_ 64 3),
 c1_ 19 31 18,
 ⟨some 5,none,.fresh 64 5 (.tmp 19)⟩]
 (sq_ [pr_ 20 (lt_ 8 2),
 pr_ 6 (.allocm [.pl (.int .u32 0),.pl (.int .u32 0),.pl (.int .u32 0),.pl (.int .u32 0),.pl (.int .u32 0),.pl (.int .u32 0),.pl (.int .u32 0),.pl (.int .u32 0)]),
 st_ (so_ 8 6 20)]
 (.seq (sq_ [pr_ 21 (mi_ .i64 0)]
 (.block 0 (.loop [0,1,3,7,8,9,10,11,12,13,14,15,16,17,18,19,20,22,23,24,25,26,27,28,29,30,31,32,33,34,35,36,37,38,39,40,41,42,43,44,45,46,47,48,49,50,51,52,53,54,55,56,57,58,59,60,61,62,63,64,65,66,67,68,69,70,71,72,73,74,75,76,77,78,79,80,81,82,83,84,85,86,87,88,89,90,91,92,93,94,95,96,97,98,99,100,101,102,103,104,105,106,107,108,109,110,111,112,113] (sq_ [pr_ 22 (bk_ .lss 21 .i64 64)]
 (.seq (.cond (.tmp 22)
 .skip
 (.exit 0))
 (.seq (.block 1 (sq_ [mv_ 23 21,
 mv_ 7 23]
 (.seq (.draw [⟨pr_ 24 (.iadra 1 8 (.tmp 6) (.const (.int .i64 0))),[],false,0,0⟩,
 ⟨pr_ 25 (lf_ 1 24),[0],false,0,0⟩,
 ⟨pr_ 26 (.iadra 1 8 (.tmp 6) (.const (.int .i64 1))),[],false,0,0⟩,
 ⟨pr_ 27 (lf_ 1 26),[2],false,0,0⟩,
 ⟨pr_ 28 (.iadra 1 8 (.tmp 6) (.const (.int .i64 2))),[],false,0,0⟩,
 ⟨pr_ 29 (lf_ 1 28),[4],false,0,0⟩,
 ⟨pr_ 30 (.iadra 1 8 (.tmp 6) (.const (.int .i64 4))),[],false,0,0⟩,
 ⟨pr_ 31 (lf_ 1 30),[6],false,0,0⟩,
 ⟨pr_ 32 (.iadra 1 8 (.tmp 6) (.const (.int .i64 5))),[],false,0,0⟩,
 ⟨pr_ 33 (lf_ 1 32),[8],false,0,0⟩,
 ⟨pr_ 34 (.iadra 1 8 (.tmp 6) (.const (.int .i64 6))),[],false,0,0⟩,
 ⟨pr_ 35 (lf_ 1 34),[10],false,0,0⟩,
 ⟨mv_ 8 25,[0,1],false,0,0⟩,
 ⟨mv_ 9 27,[0,1,2,3,12],false,0,0⟩,
 ⟨mv_ 10 29,[0,1,2,3,4,5,12,13],false,0,0⟩,
 ⟨mv_ 11 31,[0,1,2,3,4,5,6,7,12,13,14],false,0,0⟩,
 ⟨mv_ 12 33,[0,1,2,3,4,5,6,7,8,9,12,13,14,15],false,0,0⟩,
 ⟨mv_ 13 35,(List.range 17),false,0,0⟩])
 (sq_ [mv_ 36 11,
 cl_ 37 32 [(.tmp 36),(.const (.int .i64 (-6)))],
 mv_ 38 11,
 cl_ 39 32 [(.tmp 38),(.const (.int .i64 (-11)))],
 pr_ 40 (bt_ .xor 37 39),
 mv_ 41 11,
 cl_ 42 32 [(.tmp 41),(.const (.int .i64 (-25)))],
 pr_ 43 (bt_ .xor 40 42),
 mv_ 14 43]
 (.seq (.draw [⟨pr_ 44 (.iadra 1 8 (.tmp 6) (.const (.int .i64 7))),[],false,0,0⟩,
 ⟨pr_ 45 (lf_ 1 44),[0],false,0,0⟩,
 ⟨mv_ 46 14,[],false,0,0⟩,
 ⟨pr_ 47 (bt_ .add 45 46),[0,1,2],false,0,0⟩,
 ⟨mv_ 48 11,[],false,0,0⟩,
 ⟨mv_ 49 12,[],false,0,0⟩,
 ⟨pr_ 50 (bt_ .and 48 49),[4,5],false,0,0⟩,
 ⟨mv_ 51 11,[],false,0,0⟩,
 ⟨pr_ 52 (.un .xor (.tmp 51)),[7],false,0,0⟩,
 ⟨mv_ 53 13,[],false,0,0⟩,
 ⟨pr_ 54 (bt_ .and 52 53),[7,8,9],false,0,0⟩,
 ⟨pr_ 55 (bt_ .xor 50 54),[4,5,6,7,8,9,10],false,0,0⟩,
 ⟨pr_ 56 (bt_ .add 47 55),(List.range 12),false,0,0⟩,
 ⟨mv_ 57 7,[],false,0,0⟩,
 ⟨pr_ 58 (.giadr 0 1 64 (.tmp 57)),[13],false,0,0⟩,
 ⟨pr_ 59 (lf_ 1 58),[13,14],false,0,0⟩,
 ⟨pr_ 60 (bt_ .add 56 59),(List.range 16),false,0,0⟩,
 ⟨mv_ 61 7,[],false,0,0⟩,
 ⟨pr_ 62 (.iadra 1 64 (.tmp 5) (.tmp 61)),[17],false,0,0⟩,
 ⟨pr_ 63 (lf_ 1 62),[17,18],false,0,0⟩,
 ⟨pr_ 64 (bt_ .add 60 63),(List.range 20),false,0,0⟩,
 ⟨mv_ 15 64,(List.range 21),false,0,0⟩])
 (sq_ [mv_ 65 8,
 cl_ 66 32 [(.tmp 65),(.const (.int .i64 (-2)))],
 mv_ 67 8,
 cl_ 68 32 [(.tmp 67),(.const (.int .i64 (-13)))],
 pr_ 69 (bt_ .xor 66 68),
 mv_ 70 8,
 cl_ 71 32 [(.tmp 70),(.const (.int .i64 (-22)))],
 pr_ 72 (bt_ .xor 69 71),
 mv_ 14 72]
 (sq_ [mv_ 73 14,
 mv_ 74 8,
 mv_ 75 9,
 pr_ 76 (bt_ .and 74 75),
 mv_ 77 8,
 mv_ 78 10,
 pr_ 79 (bt_ .and 77 78),
 pr_ 80 (bt_ .xor 76 79),
 mv_ 81 9,
 mv_ 82 10,
 pr_ 83 (bt_ .and 81 82),
 pr_ 84 (bt_ .xor 80 83),
 pr_ 85 (bt_ .add 73 84),
 mv_ 16 85]
 (.ops [mv_ 86 15,
 mv_ 87 16,
 pr_ 88 (bt_ .add 86 87),
 mv_ 89 8,
 mv_ 90 9,
 mv_ 91 10,
 pr_ 92 (.iadra 1 8 (.tmp 6) (.const (.int .i64 3))),
 pr_ 93 (lf_ 1 92),
 mv_ 94 15,
 pr_ 95 (bt_ .add 93 94),
 mv_ 96 11,
 mv_ 97 12,
 mv_ 98 13,
 pr_ 99 (.build [.pl (.int .u32 0),.pl (.int .u32 0),.pl (.int .u32 0),.pl (.int .u32 0),.pl (.int .u32 0),.pl (.int .u32 0),.pl (.int .u32 0),.pl (.int .u32 0)] [(0,1,(.tmp 88)),(1,1,(.tmp 89)),(2,1,(.tmp 90)),(3,1,(.tmp 91)),(4,1,(.tmp 95)),(5,1,(.tmp 96)),(6,1,(.tmp 97)),(7,1,(.tmp 98))]),
 st_ (so_ 8 6 99)]))))))))
 (.ops [pr_ 100 (bk_ .add 21 .i64 1),
 mv_ 21 100])))))))
 (.seq (sq_ [pr_ 101 (mi_ .i64 0)]
 (.block 2 (.loop [0,1,3,5,7,8,9,10,11,12,13,14,15,16,17,18,19,20,21,22,23,24,25,26,27,28,29,30,31,32,33,34,35,36,37,38,39,40,41,42,43,44,45,46,47,48,49,50,51,52,53,54,55,56,57,58,59,60,61,62,63,64,65,66,67,68,69,70,71,72,73,74,75,76,77,78,79,80,81,82,83,84,85,86,87,88,89,90,91,92,93,94,95,96,97,98,99,100,102,103,104,105,106,107,108,109,110,111,112,113] (sq_ [pr_ 102 (bk_ .lss 101 .i64 8)]
 (.seq (.cond (.tmp 102)
 .skip
 (.exit 2))
 (.seq (.block 3 (sq_ [mv_ 103 101,
 mv_ 17 103]
 (.draw [⟨mv_ 104 17,[],false,0,0⟩,
 ⟨pr_ 105 (.iadra 1 8 (.tmp 6) (.tmp 104)),[0],false,0,0⟩,
 ⟨pr_ 106 (lf_ 1 105),[0,1],false,0,0⟩,
 ⟨mv_ 107 17,[],false,0,0⟩,
 ⟨pr_ 108 (.iadra 1 8 (.tmp 2) (.tmp 107)),[3],false,0,0⟩,
 ⟨pr_ 109 (lf_ 1 108),[3,4],false,0,0⟩,
 ⟨pr_ 110 (bt_ .add 106 109),(List.range 6),false,0,0⟩,
 ⟨pr_ 111 (.iadra 1 8 (.tmp 6) (.tmp 104)),(List.range 7),false,0,0⟩,
 ⟨st_ (so_ 1 111 110),(List.range 8),true,0,0⟩])))
 (.ops [pr_ 112 (bk_ .add 101 .i64 1),
 mv_ 101 112])))))))
 (sq_ [pr_ 113 (lt_ 8 6),
 st_ (so_ 8 4 113)]
 .ret))))))
def o19:List Tmp:=[4,6]
def r19:List RV:=[.cell 4 8 true]
theorem t19:Text Tryd.prog 19 o19 c19 r19 114:=.mk_ Tryd.f19 rfl
def c20:ACode :=
 (sq_ [pr_ 2 (.mov (.const (.slice none 0 0)))]
 (sq_ [pr_ 5 (.mks 1 false [.pl (.int .u8 0)] (.const (.int .i64 8)) (.const (.int .i64 8))),
 mv_ 3 5]
 (.seq (sq_ [mv_ 6 3,
 pr_ 7 (.lenv (.tmp 6)),
 pr_ 8 (mi_ .i64 0)]
 (.block 0 (.loop [1,2,4,5,6,9,10,11,12,13,14,15,16,17,18,19,20,21] (sq_ [pr_ 9 (bt_ .lss 8 7)]
 (.seq (.cond (.tmp 9)
 .skip
 (.exit 0))
 (.seq (.block 1 (sq_ [mv_ 10 8,
 mv_ 4 10]
 (.ops [mv_ 11 3,
 mv_ 12 4,
 mv_ 13 0,
 mv_ 14 4,
 pr_ 15 (.bin false .mul (.const (.int .i64 8)) (.tmp 14)),
 pr_ 16 (.bin false .sub (.const (.int .i64 56)) (.tmp 15)),
 pr_ 17 (bt_ .shr 13 16),
 pr_ 18 (.convi .u8 (.tmp 17)),
 pr_ 19 (.iadrs 1 (.tmp 11) (.tmp 12)),
 st_ (so_ 1 19 18)])))
 (.ops [pr_ 20 (bk_ .add 8 .i64 1),
 mv_ 8 20])))))))
 (sq_ [mv_ 21 3,
 mv_ 2 21]
 (.ghost (.shut 2) .ret)))))
def o20:List Tmp:=[]
def r20:List RV:=[.tmp 2]
theorem t20:Text Tryd.prog 20 o20 c20 r20 22:=.mk_ Tryd.f20 rfl
def c21:ACode :=
 (sq_ [pr_ 4 mf_]
 (sq_ [mv_ 5 0,
 pr_ 6 (.b2s (.tmp 5)),
 mv_ 7 1,
 pr_ 8 (.b2s (.tmp 7)),
 pr_ 9 (bt_ .eql 6 8),
 mv_ 4 9]
 .ret))
def o21:List Tmp:=[]
def r21:List RV:=[.tmp 4]
theorem t21:Text Tryd.prog 21 o21 c21 r21 10:=.mk_ Tryd.f21 rfl
def c22:ACode :=
 (sq_ [mv_ 4 0,
 pr_ 5 (.lenv (.tmp 4)),
 pr_ 6 (bk_ .sub 5 .i64 1),
 pr_ 2 (mi_ .i64 0),
 mv_ 3 6]
 (.block 0 (.loop [1,4,5,6,7,8,9,10,11,12,13,14,15,16,17,18,19,20,21,22,23,24,25,26,27] (.seq (sq_ [mv_ 7 2,
 mv_ 8 3,
 pr_ 9 (bt_ .lss 7 8)]
 (.cond (.tmp 9)
 .skip
 (.exit 0)))
 (.seq (.block 1 (.draw [⟨mv_ 14 0,[],false,0,0⟩,
 ⟨mv_ 15 2,[],false,0,0⟩,
 ⟨mv_ 16 0,[],false,0,1⟩,
 ⟨mv_ 17 3,[],false,0,1⟩,
 ⟨mv_ 18 0,[],false,0,0⟩,
 ⟨mv_ 19 3,[],false,0,0⟩,
 ⟨pr_ 20 (.iadrs 1 (.tmp 18) (.tmp 19)),[4,5],false,0,0⟩,
 ⟨pr_ 21 (lf_ 1 20),[4,5,6],false,0,0⟩,
 ⟨mv_ 22 0,[],false,0,0⟩,
 ⟨mv_ 23 2,[],false,0,0⟩,
 ⟨pr_ 24 (.iadrs 1 (.tmp 22) (.tmp 23)),[8,9],false,0,0⟩,
 ⟨pr_ 25 (lf_ 1 24),[8,9,10],false,0,0⟩,
 ⟨pr_ 26 (.iadrs 1 (.tmp 14) (.tmp 15)),[0,1,4,5,6,7,8,9,10,11],false,0,0⟩,
 ⟨st_ (so_ 1 26 21),[0,1,4,5,6,7,8,9,10,11,12],true,0,0⟩,
 ⟨pr_ 27 (.iadrs 1 (.tmp 16) (.tmp 17)),(List.range 14),false,1,1⟩,
 ⟨st_ (so_ 1 27 25),(List.range 15),true,0,0⟩]))
 (.ops [mv_ 10 2,
 pr_ 11 (bk_ .add 10 .i64 1),
 mv_ 12 3,
 pr_ 13 (bk_ .sub 12 .i64 1),
 mv_ 2 11,
 mv_ 3 13]))))))
def o22:List Tmp:=[]
def r22:List RV:=[]
theorem t22:Text Tryd.prog 22 o22 c22 r22 28:=.mk_ Tryd.f22 rfl
def c23:ACode :=
 (sq_ [pr_ 2 (.boxr (.tmp 0)),
 pr_ 4 (.mov (.const (.slice none 0 0)))]
 (sq_ [pr_ 5 (.bsl false 1 false 1 [.pl (.int .u8 0)] [(0,1,(.const (.int .u8 1)))]),
 pr_ 6 (.slca 32 (.tmp 2)),
 mv_ 7 1,
 pr_ 8 (.bsl false 1 false 3 [.nils] [(0,1,(.tmp 5)),(1,1,(.tmp 6)),(2,1,(.tmp 7))]),
 c1_ 9 33 8,
 mv_ 4 9]
 (.ghost (.shut 4) .ret)))
def o23:List Tmp:=[]
def r23:List RV:=[.tmp 4]
theorem t23:Text Tryd.prog 23 o23 c23 r23 10:=.mk_ Tryd.f23 rfl
def c24:ACode :=
 (sq_ [pr_ 1 (.boxr (.tmp 0)),
 pr_ 2 (.mov (.const (.slice none 0 0)))]
 (.seq (sq_ [pr_ 3 (lt_ 4 1),
 c1_ 4 29 3,
 pr_ 5 (no_ 4)]
 (.cond (.tmp 5)
 (sq_ [pr_ 2 (.mov (.const (.slice none 0 0)))]
 (.ghost (.shut 2) .ret))
 .skip))
 (.seq (.draw [⟨pr_ 6 (fa_ 0 1),[],false,0,0⟩,
 ⟨pr_ 7 (lf_ 1 6),[0],false,0,0⟩,
 ⟨pr_ 8 (.convi .u64 (.tmp 7)),[0,1],false,0,0⟩,
 ⟨c1_ 9 34 8,[0,1,2],true,0,0⟩,
 ⟨pr_ 10 (fa_ 1 1),[],false,0,1⟩,
 ⟨pr_ 11 (lf_ 1 10),[4],false,0,1⟩,
 ⟨c1_ 12 34 11,(List.range 6),true,0,0⟩,
 ⟨pr_ 13 (fa_ 2 1),[],false,0,2⟩,
 ⟨pr_ 14 (lf_ 1 13),[7],false,0,2⟩,
 ⟨pr_ 15 (.b2s (.tmp 14)),[7,8],false,0,2⟩,
 ⟨c1_ 16 35 15,(List.range 10),true,0,0⟩,
 ⟨pr_ 17 (fa_ 3 1),[],false,0,3⟩,
 ⟨pr_ 18 (lf_ 1 17),[11],false,0,3⟩,
 ⟨pr_ 19 (.convi .u8 (.tmp 18)),[11,12],false,0,3⟩,
 ⟨pr_ 20 (.bsl false 1 false 1 [.pl (.int .u8 0)] [(0,1,(.tmp 19))]),[11,12,13],false,0,3⟩,
 ⟨pr_ 21 (.bsl false 1 false 4 [.nils] [(0,1,(.tmp 9)),(1,1,(.tmp 12)),(2,1,(.tmp 16)),(3,1,(.tmp 20))]),(List.range 15),false,3,3⟩,
 ⟨c1_ 22 33 21,(List.range 16),true,0,0⟩,
 ⟨mv_ 2 22,(List.range 17),false,4,4⟩])
 (.ghost (.shut 2) .ret))))
def o24:List Tmp:=[]
def r24:List RV:=[.tmp 2]
theorem t24:Text Tryd.prog 24 o24 c24 r24 23:=.mk_ Tryd.f24 rfl
def c25:ACode :=
 (sq_ [pr_ 2 (mi_ .u64 0),
 pr_ 3 (mi_ .i64 0),
 pr_ 4 mf_]
 (sq_ [pr_ 5 (mi_ .u64 0)]
 (.seq (sq_ [mv_ 8 0,
 pr_ 9 (.lenv (.tmp 8)),
 pr_ 10 (mi_ .i64 0)]
 (.block 0 (.loop [0,1,2,3,4,6,7,11,12,13,14,15,16,17,18,19,20,21,22,23,24,25,26,27,28,29,30,31,32,33,34,35,36,37,38,39,40,41,42] (sq_ [pr_ 11 (bt_ .lss 10 9)]
 (.seq (.cond (.tmp 11)
 .skip
 (.exit 0))
 (.seq (.block 1 (sq_ [mv_ 12 10,
 pr_ 13 (.iadrs 1 (.tmp 8) (.tmp 10)),
 pr_ 14 (lf_ 1 13),
 mv_ 6 12,
 mv_ 7 14]
 (.seq (sq_ [mv_ 15 6,
 pr_ 16 (bk_ .eql 15 .i64 9),
 mv_ 17 16,
 gp_ 18 17 true (mo_ 7),
 gp_ 19 17 true (bk_ .gtr 18 .u8 1),
 pr_ 20 (pa_ 17 19),
 mv_ 21 20,
 gp_ 22 21 false (mo_ 6),
 gp_ 23 21 false (bk_ .gtr 22 .i64 0),
 gp_ 24 21 false (mo_ 23),
 gp_ 25 24 true (mo_ 7),
 gp_ 26 24 true (bk_ .eql 25 .u8 0),
 gp_ 27 21 false (pa_ 24 26),
 pr_ 28 (po_ 21 27)]
 (.cond (.tmp 28)
 (.exit 0)
 .skip))
 (sq_ [mv_ 29 5,
 mv_ 30 7,
 pr_ 31 (bk_ .and 30 .u8 127),
 pr_ 32 (.convi .u64 (.tmp 31)),
 mv_ 33 6,
 pr_ 34 (.bin false .mul (.const (.int .i64 7)) (.tmp 33)),
 pr_ 35 (bt_ .shl 32 34),
 pr_ 36 (bt_ .or 29 35),
 mv_ 5 36]
 (sq_ [mv_ 37 7,
 pr_ 38 (bk_ .lss 37 .u8 128)]
 (.cond (.tmp 38)
 (sq_ [mv_ 39 5,
 mv_ 40 6,
 pr_ 41 (bk_ .add 40 .i64 1),
 mv_ 2 39,
 mv_ 3 41,
 pr_ 4 mt_]
 .ret)
 .skip))))))
 (.ops [pr_ 42 (bk_ .add 10 .i64 1),
 mv_ 10 42])))))))
 (sq_ [pr_ 2 (mi_ .u64 0),
 pr_ 3 (mi_ .i64 0),
 pr_ 4 mf_]
 .ret))))
def o25:List Tmp:=[]
def r25:List RV:=[.tmp 2,.tmp 3,.tmp 4]
theorem t25:Text Tryd.prog 25 o25 c25 r25 43:=.mk_ Tryd.f25 rfl
def c26:ACode :=
 (sq_ [pr_ 2 (.mov (.const (.slice none 0 0)))]
 (.seq (.draw [⟨mv_ 3 0,[],false,0,0⟩,
 ⟨pr_ 4 (nc_ 3),[0],false,0,0⟩,
 ⟨pr_ 5 (fa_ 0 4),[0,1],false,0,0⟩,
 ⟨pr_ 6 (lf_ 1 5),[0,1,2],false,0,0⟩,
 ⟨mv_ 7 0,[],false,0,0⟩,
 ⟨pr_ 8 (nc_ 7),[4],false,0,0⟩,
 ⟨pr_ 9 (fa_ 1 8),[4,5],false,0,0⟩,
 ⟨pr_ 10 (lf_ 1 9),[4,5,6],false,0,0⟩,
 ⟨pr_ 11 (.slcv 1 (.tmp 6) (some (.tmp 10)) none),(List.range 8),false,0,0⟩,
 ⟨mv_ 2 11,(List.range 9),false,0,0⟩])
 (.ghost (.shut 2) .ret)))
def o26:List Tmp:=[]
def r26:List RV:=[.tmp 2]
theorem t26:Text Tryd.prog 26 o26 c26 r26 12:=.mk_ Tryd.f26 rfl
def c27:ACode :=
 (sq_ [pr_ 6 mf_]
 (sq_ [mv_ 7 0,
 mv_ 8 0,
 pr_ 9 (nc_ 8),
 pr_ 10 (fa_ 2 9),
 pr_ 11 (lf_ 1 10),
 mv_ 12 11,
 gp_ 13 12 false (mo_ 2),
 gp_ 14 12 false (no_ 13),
 pr_ 15 (po_ 12 14),
 pr_ 16 (nc_ 7),
 pr_ 17 (fa_ 2 16),
 st_ (so_ 1 17 15)]
 (.seq (sq_ [mv_ 18 0,
 pr_ 19 (nc_ 18),
 pr_ 20 (fa_ 2 19),
 pr_ 21 (lf_ 1 20),
 pr_ 22 (no_ 21)]
 (.cond (.tmp 22)
 (.ops [mv_ 23 0,
 pr_ 24 (nc_ 23),
 pr_ 25 (fa_ 1 24),
 pr_ 26 (lf_ 1 25),
 mv_ 27 1,
 pr_ 28 (bt_ .add 26 27),
 pr_ 29 (nc_ 23),
 pr_ 30 (fa_ 1 29),
 st_ (so_ 1 30 28)])
 .skip))
 (sq_ [mv_ 31 0,
 pr_ 32 (nc_ 31),
 pr_ 33 (fa_ 2 32),
 pr_ 34 (lf_ 1 33),
 pr_ 35 (no_ 34),
 mv_ 6 35]
 .ret))))
def o27:List Tmp:=[]
def r27:List RV:=[.tmp 6]
theorem t27:Text Tryd.prog 27 o27 c27 r27 36:=.mk_ Tryd.f27 rfl
def c28:ACode :=
 (sq_ [pr_ 2 (mi_ .u8 0)]
 (sq_ [mv_ 4 0,
 c1_ 5 26 4,
 mv_ 3 5]
 (.seq (sq_ [mv_ 6 0,
 mv_ 7 3,
 pr_ 8 (.lenv (.tmp 7)),
 pr_ 9 (bk_ .gtr 8 .i64 0),
 cl_ 10 27 [(.tmp 6),(.const (.int .i64 1)),(.tmp 9)],
 pr_ 11 (no_ 10)]
 (.cond (.tmp 11)
 (sq_ [pr_ 2 (mi_ .u8 0)]
 .ret)
 .skip))
 (sq_ [mv_ 12 3,
 pr_ 13 (.iadrs 1 (.tmp 12) (.const (.int .i64 0))),
 pr_ 14 (lf_ 1 13),
 mv_ 2 14]
 .ret))))
def o28:List Tmp:=[]
def r28:List RV:=[.tmp 2]
theorem t28:Text Tryd.prog 28 o28 c28 r28 15:=.mk_ Tryd.f28 rfl
def c29:ACode :=
 (sq_ [pr_ 1 (.boxr (.tmp 0)),
 pr_ 2 mf_]
 (.seq (sq_ [pr_ 5 (fa_ 0 1),
 pr_ 6 (lf_ 1 5),
 pr_ 7 (bk_ .lss 6 .i64 0),
 mv_ 8 7,
 gp_ 9 8 false (fa_ 0 1),
 gp_ 10 8 false (lf_ 1 9),
 gp_ 11 8 false (bk_ .gtr 10 .i64 2147483647),
 pr_ 12 (po_ 8 11),
 mv_ 13 12,
 gp_ 14 13 false (fa_ 1 1),
 gp_ 15 13 false (lf_ 1 14),
 gp_ 16 13 false (bk_ .gtr 15 .u64 1099511627776),
 pr_ 17 (po_ 13 16)]
 (.cond (.tmp 17)
 (sq_ [pr_ 2 mf_]
 .ret)
 .skip))
 (sq_ [pr_ 19 (fa_ 2 1),
 pr_ 20 (lf_ 1 19),
 c1_ 21 36 20,
 mv_ 18 21,
 pr_ 22 (ex_ 0 18),
 pr_ 23 (ex_ 1 18),
 ⟨some 3,none,.fresh 19 3 (.tmp 22)⟩,
 mv_ 4 23]
 (sq_ [mv_ 24 4,
 mv_ 25 24,
 gp_ 26 25 true (fa_ 3 1),
 gp_ 27 25 true (lf_ 1 26),
 gp_ 28 25 true (bk_ .eql 27 .i64 0),
 gp_ 29 25 true (mo_ 28),
 gp_ 30 29 false (fa_ 3 1),
 gp_ 31 29 false (lf_ 1 30),
 gp_ 32 29 false (bk_ .geq 31 .i64 4),
 gp_ 33 29 false (mo_ 32),
 gp_ 34 33 true (fa_ 3 1),
 gp_ 35 33 true (lf_ 1 34),
 gp_ 36 33 true (bk_ .leq 35 .i64 10),
 gp_ 37 29 false (pa_ 33 36),
 gp_ 38 25 true (po_ 29 37),
 pr_ 39 (pa_ 25 38),
 mv_ 2 39]
 .ret))))
def o29:List Tmp:=[]
def r29:List RV:=[.tmp 2]
theorem t29:Text Tryd.prog 29 o29 c29 r29 40:=.mk_ Tryd.f29 rfl
def c30:ACode :=
 (sq_ [pr_ 4 (.mov (.const (.string (ByteArray.mk #[])))),
 pr_ 5 (mi_ .i64 0),
 pr_ 6 mf_]
 (sq_ [mv_ 12 0,
 c1_ 13 25 12,
 mv_ 11 13,
 pr_ 14 (ex_ 0 11),
 pr_ 15 (ex_ 1 11),
 pr_ 16 (ex_ 2 11),
 mv_ 7 14,
 mv_ 8 15,
 mv_ 9 16]
 (.seq (sq_ [mv_ 17 9,
 pr_ 18 (no_ 17),
 mv_ 19 18,
 gp_ 20 19 false (mo_ 1),
 gp_ 21 19 false (bk_ .lss 20 .i64 0),
 pr_ 22 (po_ 19 21),
 mv_ 23 22,
 gp_ 24 23 false (mo_ 7),
 gp_ 25 23 false (mo_ 1),
 gp_ 26 23 false (.convi .u64 (.tmp 25)),
 gp_ 27 23 false (bt_ .gtr 24 26),
 pr_ 28 (po_ 23 27),
 mv_ 29 28,
 gp_ 30 29 false (mo_ 7),
 gp_ 31 29 false (mo_ 0),
 gp_ 32 29 false (.lenv (.tmp 31)),
 gp_ 33 29 false (mo_ 8),
 gp_ 34 29 false (bt_ .sub 32 33),
 gp_ 35 29 false (.convi .u64 (.tmp 34)),
 gp_ 36 29 false (bt_ .gtr 30 35),
 pr_ 37 (po_ 29 36)]
 (.cond (.tmp 37)
 (sq_ [pr_ 4 (.mov (.const (.string (ByteArray.mk #[])))),
 pr_ 5 (mi_ .i64 0),
 pr_ 6 mf_]
 .ret)
 .skip))
 (sq_ [mv_ 38 8,
 mv_ 39 7,
 pr_ 40 (.convi .i64 (.tmp 39)),
 pr_ 41 (bt_ .add 38 40),
 mv_ 10 41]
 (sq_ [mv_ 42 0,
 mv_ 43 8,
 mv_ 44 10,
 pr_ 45 (.slcv 1 (.tmp 42) (some (.tmp 43)) (some (.tmp 44))),
 pr_ 46 (.b2s (.tmp 45)),
 mv_ 47 10,
 mv_ 4 46,
 mv_ 5 47,
 pr_ 6 mt_]
 .ret)))))
def o30:List Tmp:=[]
def r30:List RV:=[.tmp 4,.tmp 5,.tmp 6]
theorem t30:Text Tryd.prog 30 o30 c30 r30 48:=.mk_ Tryd.f30 rfl
def c31:ACode :=
 (sq_ [pr_ 1 (.boxr (.tmp 0)),
 pr_ 2 (.allocm [.pl (.int .u32 0),.pl (.int .u32 0),.pl (.int .u32 0),.pl (.int .u32 0),.pl (.int .u32 0),.pl (.int .u32 0),.pl (.int .u32 0),.pl (.int .u32 0),.pl (.int .u32 0),.pl (.int .u32 0),.pl (.int .u32 0),.pl (.int .u32 0),.pl (.int .u32 0),.pl (.int .u32 0),.pl (.int .u32 0),.pl (.int .u32 0),.pl (.int .u32 0),.pl (.int .u32 0),.pl (.int .u32 0),.pl (.int .u32 0),.pl (.int .u32 0),.pl (.int .u32 0),.pl (.int .u32 0),.pl (.int .u32 0),.pl (.int .u32 0),.pl (.int .u32 0),.pl (.int .u32 0),.pl (.int .u32 0),.pl (.int .u32 0),.pl (.int .u32 0),.pl (.int .u32 0),.pl (.int .u32 0),.pl (.int .u32 0),.pl (.int .u32 0),.pl (.int .u32 0),.pl (.int .u32 0),.pl (.int .u32 0),.pl (.int .u32 0),.pl (.int .u32 0),.pl (.int .u32 0),.pl (.int .u32 0),.pl (.int .u32 0),.pl (.int .u32 0),.pl (.int .u32 0),.pl (.int .u32 0),.pl (.int .u32 0),.pl (.int .u32 0),.pl (.int .u32 0),.pl (.int .u32 0),.pl (.int .u32 0),.pl (.int .u32 0),.pl (.int .u32 0),.pl (.int .u32 0),.pl (.int .u32 0),.pl (.int .u32 0),.pl (.int .u32 0),.pl (.int .u32 0),.pl (.int .u32 0),.pl (.int .u32 0),.pl (.int .u32 0),.pl (.int .u32 0),.pl (.int .u32 0),.pl (.int .u32 0),.pl (.int .u32 0)])]
 (sq_ [pr_ 3 (.allocm [.pl (.int .u32 0),.pl (.int .u32 0),.pl (.int .u32 0),.pl (.int .u32 0),.pl (.int .u32 0),.pl (.int .u32 0),.pl (.int .u32 0),.pl (.int .u32 0),.pl (.int .u32 0),.pl (.int .u32 0),.pl (.int .u32 0),.pl (.int .u32 0),.pl (.int .u32 0),.pl (.int .u32 0),.pl (.int .u32 0),.pl (.int .u32 0),.pl (.int .u32 0),.pl (.int .u32 0),.pl (.int .u32 0),.pl (.int .u32 0),.pl (.int .u32 0),.pl (.int .u32 0),.pl (.int .u32 0),.pl (.int .u32 0),.pl (.int .u32 0),.pl (.int .u32 0),.pl (.int .u32 0),.pl (.int .u32 0),.pl (.int .u32 0),.pl (.int .u32 0),.pl (.int .u32 0),.pl (.int .u32 0),.pl (.int .u32 0),.pl (.int .u32 0),.pl (.int .u32 0),.pl (.int .u32 0),.pl (.int .u32 0),.pl (.int .u32 0),.pl (.int .u32 0),.pl (.int .u32 0),.pl (.int .u32 0),.pl (.int .u32 0),.pl (.int .u32 0),.pl (.int .u32 0),.pl (.int .u32 0),.pl (.int .u32 0),.pl (.int .u32 0),.pl (.int .u32 0),.pl (.int .u32 0),.pl (.int .u32 0),.pl (.int .u32 0),.pl (.int .u32 0),.pl (.int .u32 0),.pl (.int .u32 0),.pl (.int .u32 0),.pl (.int .u32 0),.pl (.int .u32 0),.pl (.int .u32 0),.pl (.int .u32 0),.pl (.int .u32 0),.pl (.int .u32 0),.pl (.int .u32 0),.pl (.int .u32 0),.pl (.int .u32 0)])]
 (.seq (sq_ [pr_ 10 (mi_ .i64 0)]
 (.block 0 (.loop [0,4,5,6,7,8,9,11,12,13,14,15,16,17,18,19,20,21,22,23,24,25,26,27,28,29,30,31,32,33,34,35,36,37,38,39,40,41,42,43,44,45,46,47,48,49,50,51,52,53,54,55,56,57,58,59,60,61,62,63,64,65,66,67,68,69,70,71,72,73,74,75,76,77,78,79,80,81,82,83,84,85,86,87,88] (sq_ [pr_ 11 (bk_ .lss 10 .i64 16)]
 (.seq (.cond (.tmp 11)
 .skip
 (.exit 0))
 (.seq (.block 1 (sq_ [mv_ 12 10,
 mv_ 4 12]
 (.draw [⟨mv_ 13 4,[],false,0,0⟩,
 ⟨mv_ 14 4,[],false,0,0⟩,
 ⟨pr_ 15 (.bin false .mul (.const (.int .i64 4)) (.tmp 14)),[1],false,0,0⟩,
 ⟨pr_ 16 (.iadra 1 64 (.tmp 1) (.tmp 15)),[1,2],false,0,0⟩,
 ⟨pr_ 17 (lf_ 1 16),[1,2,3],false,0,0⟩,
 ⟨pr_ 18 (.convi .u32 (.tmp 17)),[1,2,3,4],false,0,0⟩,
 ⟨pr_ 19 (bk_ .shl 18 .u64 24),[1,2,3,4,5],false,0,0⟩,
 ⟨mv_ 20 4,[],false,0,0⟩,
 ⟨pr_ 21 (.bin false .mul (.const (.int .i64 4)) (.tmp 20)),[7],false,0,0⟩,
 ⟨pr_ 22 (bk_ .add 21 .i64 1),[7,8],false,0,0⟩,
 ⟨pr_ 23 (.iadra 1 64 (.tmp 1) (.tmp 22)),[7,8,9],false,0,0⟩,
 ⟨pr_ 24 (lf_ 1 23),[7,8,9,10],false,0,0⟩,
 ⟨pr_ 25 (.convi .u32 (.tmp 24)),[7,8,9,10,11],false,0,0⟩,
 ⟨pr_ 26 (bk_ .shl 25 .u64 16),[7,8,9,10,11,12],false,0,0⟩,
 ⟨pr_ 27 (bt_ .or 19 26),[1,2,3,4,5,6,7,8,9,10,11,12,13],false,0,0⟩,
 ⟨mv_ 28 4,[],false,0,0⟩,
 ⟨pr_ 29 (.bin false .mul (.const (.int .i64 4)) (.tmp 28)),[15],false,0,0⟩,
 ⟨pr_ 30 (bk_ .add 29 .i64 2),[15,16],false,0,0⟩,
 ⟨pr_ 31 (.iadra 1 64 (.tmp 1) (.tmp 30)),[15,16,17],false,0,0⟩,
 ⟨pr_ 32 (lf_ 1 31),[15,16,17,18],false,0,0⟩,
 ⟨pr_ 33 (.convi .u32 (.tmp 32)),[15,16,17,18,19],false,0,0⟩,
 ⟨pr_ 34 (bk_ .shl 33 .u64 8),[15,16,17,18,19,20],false,0,0⟩,
 ⟨pr_ 35 (bt_ .or 27 34),[1,2,3,4,5,6,7,8,9,10,11,12,13,14,15,16,17,18,19,20,21],false,0,0⟩,
 ⟨mv_ 36 4,[],false,0,0⟩,
 ⟨pr_ 37 (.bin false .mul (.const (.int .i64 4)) (.tmp 36)),[23],false,0,0⟩,
 ⟨pr_ 38 (bk_ .add 37 .i64 3),[23,24],false,0,0⟩,
 ⟨pr_ 39 (.iadra 1 64 (.tmp 1) (.tmp 38)),[23,24,25],false,0,0⟩,
 ⟨pr_ 40 (lf_ 1 39),[23,24,25,26],false,0,0⟩,
 ⟨pr_ 41 (.convi .u32 (.tmp 40)),[23,24,25,26,27],false,0,0⟩,
 ⟨pr_ 42 (bt_ .or 35 41),[1,2,3,4,5,6,7,8,9,10,11,12,13,14,15,16,17,18,19,20,21,22,23,24,25,26,27,28],false,0,0⟩,
 ⟨pr_ 43 (.iadra 1 64 (.tmp 3) (.tmp 13)),(List.range 30),false,0,0⟩,
 ⟨st_ (so_ 1 43 42),(List.range 31),true,0,0⟩])))
 (.ops [pr_ 44 (bk_ .add 10 .i64 1),
 mv_ 10 44])))))))
 (.seq (sq_ [pr_ 5 (mi_ .i64 16)]
 (.block 2 (.loop [0,1,4,6,7,8,9,10,11,12,13,14,15,16,17,18,19,20,21,22,23,24,25,26,27,28,29,30,31,32,33,34,35,36,37,38,39,40,41,42,43,44,45,46,47,48,49,50,51,52,53,54,55,56,57,58,59,60,61,62,63,64,65,66,67,68,69,70,71,72,73,74,75,76,77,78,79,80,81,82,83,84,85,86,87,88] (.seq (sq_ [mv_ 45 5,
 pr_ 46 (bk_ .lss 45 .i64 64)]
 (.cond (.tmp 46)
 .skip
 (.exit 2)))
 (.seq (.block 3 (.seq (.draw [⟨mv_ 49 5,[],false,0,0⟩,
 ⟨pr_ 50 (bk_ .sub 49 .i64 15),[0],false,0,0⟩,
 ⟨pr_ 51 (.iadra 1 64 (.tmp 3) (.tmp 50)),[0,1],false,0,0⟩,
 ⟨pr_ 52 (lf_ 1 51),[0,1,2],false,0,0⟩,
 ⟨mv_ 53 5,[],false,0,0⟩,
 ⟨pr_ 54 (bk_ .sub 53 .i64 2),[4],false,0,0⟩,
 ⟨pr_ 55 (.iadra 1 64 (.tmp 3) (.tmp 54)),[4,5],false,0,0⟩,
 ⟨pr_ 56 (lf_ 1 55),[4,5,6],false,0,0⟩,
 ⟨mv_ 6 52,[0,1,2,3],false,0,0⟩,
 ⟨mv_ 7 56,(List.range 9),false,0,0⟩])
 (sq_ [mv_ 57 6,
 cl_ 58 32 [(.tmp 57),(.const (.int .i64 (-7)))],
 mv_ 59 6,
 cl_ 60 32 [(.tmp 59),(.const (.int .i64 (-18)))],
 pr_ 61 (bt_ .xor 58 60),
 mv_ 62 6,
 pr_ 63 (bk_ .shr 62 .u64 3),
 pr_ 64 (bt_ .xor 61 63),
 mv_ 8 64]
 (sq_ [mv_ 65 7,
 cl_ 66 32 [(.tmp 65),(.const (.int .i64 (-17)))],
 mv_ 67 7,
 cl_ 68 32 [(.tmp 67),(.const (.int .i64 (-19)))],
 pr_ 69 (bt_ .xor 66 68),
 mv_ 70 7,
 pr_ 71 (bk_ .shr 70 .u64 10),
 pr_ 72 (bt_ .xor 69 71),
 mv_ 9 72]
 (.draw [⟨mv_ 73 5,[],false,0,0⟩,
 ⟨mv_ 74 5,[],false,0,0⟩,
 ⟨pr_ 75 (bk_ .sub 74 .i64 16),[1],false,0,0⟩,
 ⟨pr_ 76 (.iadra 1 64 (.tmp 3) (.tmp 75)),[1,2],false,0,0⟩,
 ⟨pr_ 77 (lf_ 1 76),[1,2,3],false,0,0⟩,
 ⟨mv_ 78 8,[],false,0,0⟩,
 ⟨pr_ 79 (bt_ .add 77 78),[1,2,3,4,5],false,0,0⟩,
 ⟨mv_ 80 5,[],false,0,0⟩,
 ⟨pr_ 81 (bk_ .sub 80 .i64 7),[7],false,0,0⟩,
 ⟨pr_ 82 (.iadra 1 64 (.tmp 3) (.tmp 81)),[7,8],false,0,0⟩,
 ⟨pr_ 83 (lf_ 1 82),[7,8,9],false,0,0⟩,
 ⟨pr_ 84 (bt_ .add 79 83),[1,2,3,4,5,6,7,8,9,10],false,0,0⟩,
 ⟨mv_ 85 9,[],false,0,0⟩,
 ⟨pr_ 86 (bt_ .add 84 85),[1,2,3,4,5,6,7,8,9,10,11,12],false,0,0⟩,
 ⟨pr_ 87 (.iadra 1 64 (.tmp 3) (.tmp 73)),(List.range 14),false,0,0⟩,
 ⟨st_ (so_ 1 87 86),(List.range 15),true,0,0⟩])))))
 (.ops [mv_ 47 5,
 pr_ 48 (bk_ .add 47 .i64 1),
 mv_ 5 48]))))))
 (sq_ [pr_ 88 (lt_ 64 3),
 st_ (so_ 64 2 88)]
 .ret)))))
def o31:List Tmp:=[2,3]
def r31:List RV:=[.cell 2 64 true]
theorem t31:Text Tryd.prog 31 o31 c31 r31 89:=.mk_ Tryd.f31 rfl
def c32:ACode :=
 (sq_ [pr_ 4 (mi_ .u32 0)]
 (sq_ [mv_ 6 1,
 pr_ 7 (.convi .u64 (.tmp 6)),
 pr_ 8 (bk_ .and 7 .u64 31),
 mv_ 5 8]
 (sq_ [mv_ 9 0,
 mv_ 10 5,
 pr_ 11 (bt_ .shl 9 10),
 mv_ 12 0,
 mv_ 13 5,
 pr_ 14 (.bin false .sub (.const (.int .u64 32)) (.tmp 13)),
 pr_ 15 (bt_ .shr 12 14),
 pr_ 16 (bt_ .or 11 15),
 mv_ 4 16]
 .ret)))
def o32:List Tmp:=[]
def r32:List RV:=[.tmp 4]
theorem t32:Text Tryd.prog 32 o32 c32 r32 17:=.mk_ Tryd.f32 rfl
def c33:ACode :=
 (sq_ [pr_ 2 (.mov (.const (.slice none 0 0)))]
 (sq_ [pr_ 3 (mi_ .i64 0)]
 (.seq (sq_ [mv_ 9 0,
 pr_ 10 (.lenv (.tmp 9)),
 pr_ 11 (mi_ .i64 0)]
 (.block 0 (.loop [1,2,4,5,6,7,8,12,13,14,15,16,17,18,19,20,21,22,23,24,25,26,27,28,29,30,31,32,33,34,35] (sq_ [pr_ 12 (bt_ .lss 11 10)]
 (.seq (.cond (.tmp 12)
 .skip
 (.exit 0))
 (.seq (.block 1 (sq_ [pr_ 13 (.iadrs 1 (.tmp 9) (.tmp 11)),
 pr_ 14 (lf_ 1 13),
 mv_ 5 14]
 (sq_ [mv_ 15 3,
 mv_ 16 5,
 pr_ 17 (.lenv (.tmp 16)),
 pr_ 18 (bt_ .add 15 17),
 mv_ 3 18]
 (sq_ [mv_ 19 3,
 pr_ 20 (bk_ .lss 19 .i64 0)]
 (.cond (.tmp 20)
 (.ops [pr_ 21 (.bad),
 st_ (.bad)])
 .skip)))))
 (.ops [pr_ 22 (bk_ .add 11 .i64 1),
 mv_ 11 22])))))))
 (sq_ [mv_ 23 3,
 cl_ 24 37 [(.const (.slice none 0 0)),(.tmp 23)],
 mv_ 6 24]
 (.seq (sq_ [mv_ 25 0,
 pr_ 26 (.lenv (.tmp 25)),
 pr_ 27 (mi_ .i64 0)]
 (.block 2 (.loop [0,1,2,3,4,5,7,8,9,10,11,12,13,14,15,16,17,18,19,20,21,22,23,24,28,29,30,31,32,33,34,35] (sq_ [pr_ 28 (bt_ .lss 27 26)]
 (.seq (.cond (.tmp 28)
 .skip
 (.exit 2))
 (.seq (.block 3 (sq_ [pr_ 29 (.iadrs 1 (.tmp 25) (.tmp 27)),
 pr_ 30 (lf_ 1 29),
 mv_ 8 30]
 (.ops [mv_ 31 6,
 mv_ 32 8,
 pr_ 33 (.app 1 (.tmp 31) (.tmp 32)),
 mv_ 6 33])))
 (.ops [pr_ 34 (bk_ .add 27 .i64 1),
 mv_ 27 34])))))))
 (sq_ [mv_ 35 6,
 mv_ 2 35]
 (.ghost (.shut 2) .ret)))))))
def o33:List Tmp:=[]
def r33:List RV:=[.tmp 2]
theorem t33:Text Tryd.prog 33 o33 c33 r33 36:=.mk_ Tryd.f33 rfl
def c34:ACode :=
 (sq_ [pr_ 2 (.mov (.const (.slice none 0 0)))]
 (.seq (.after (.ops [pr_ 3 (.mov (.const (.slice none 0 0)))]) (.own 3 1))
 (.seq (.block 0 (.loop [1,2,4,5,6,7,8,9,10,11,12,13,14,15,16,17,18] (.seq (sq_ [mv_ 4 0,
 pr_ 5 (bk_ .geq 4 .u64 128)]
 (.cond (.tmp 5)
 .skip
 (.exit 0)))
 (.block 1 (sq_ [mv_ 6 3,
 mv_ 7 0,
 pr_ 8 (.convi .u8 (.tmp 7)),
 pr_ 9 (bk_ .or 8 .u8 128),
 pr_ 10 (.bsl false 1 false 1 [.pl (.int .u8 0)] [(0,1,(.tmp 9))]),
 pr_ 11 (.app 1 (.tmp 6) (.tmp 10)),
 mv_ 3 11]
 (.ops [mv_ 12 0,
 pr_ 13 (bk_ .shr 12 .u64 7),
 mv_ 0 13]))))))
 (sq_ [mv_ 14 3,
 mv_ 15 0,
 pr_ 16 (.convi .u8 (.tmp 15)),
 pr_ 17 (.bsl false 1 false 1 [.pl (.int .u8 0)] [(0,1,(.tmp 16))]),
 pr_ 18 (.app 1 (.tmp 14) (.tmp 17)),
 mv_ 2 18]
 .ret))))
def o34:List Tmp:=[]
def r34:List RV:=[.tmp 2]
theorem t34:Text Tryd.prog 34 o34 c34 r34 19:=.mk_ Tryd.f34 rfl
def c35:ACode :=
 (sq_ [pr_ 2 (.mov (.const (.slice none 0 0)))]
 (sq_ [mv_ 3 0,
 pr_ 4 (.lens (.tmp 3)),
 pr_ 5 (.convi .u64 (.tmp 4)),
 c1_ 6 34 5,
 mv_ 7 0,
 pr_ 8 (.app 1 (.tmp 6) (.tmp 7)),
 mv_ 2 8]
 (.ghost (.shut 2) .ret)))
def o35:List Tmp:=[]
def r35:List RV:=[.tmp 2]
theorem t35:Text Tryd.prog 35 o35 c35 r35 9:=.mk_ Tryd.f35 rfl
def c36:ACode :=
 (sq_ [pr_ 2 (.allocm z19_),
 pr_ 3 mf_]
 (sq_ [mv_ 5 0,
 c1_ 6 13 5,
 mv_ 4 6]
 (sq_ [mv_ 7 4,
 c1_ 8 39 7,
 mv_ 9 4,
 mv_ 10 0,
 cl_ 11 38 [(.tmp 8),(.tmp 9),(.tmp 10)],
 pr_ 12 (ex_ 0 11),
 pr_ 13 (ex_ 1 11),
 st_ (so_ 19 2 12),
 mv_ 3 13]
 .ret)))
def o36:List Tmp:=[2]
def r36:List RV:=[.cell 2 19 true,.tmp 3]
theorem t36:Text Tryd.prog 36 o36 c36 r36 14:=.mk_ Tryd.f36 rfl
def c37:ACode :=
 (sq_ [pr_ 4 (.mov (.const (.slice none 0 0)))]
 (.seq (sq_ [mv_ 5 1,
 pr_ 6 (bk_ .lss 5 .i64 0)]
 (.cond (.tmp 6)
 (.ops [pr_ 7 (.bad),
 st_ (.bad)])
 .skip))
 (.seq (sq_ [mv_ 8 1,
 mv_ 9 0,
 pr_ 10 (.capn (.tmp 9)),
 mv_ 11 0,
 pr_ 12 (.lenv (.tmp 11)),
 pr_ 13 (bt_ .sub 10 12),
 pr_ 14 (bt_ .sub 8 13),
 mv_ 1 14]
 (sq_ [mv_ 15 1,
 pr_ 16 (bk_ .gtr 15 .i64 0)]
 (.cond (.tmp 16)
 (.ops [mv_ 17 0,
 mv_ 18 0,
 pr_ 19 (.capn (.tmp 18)),
 pr_ 20 (.slco 1 (.tmp 17) none (some (.tmp 19))),
 mv_ 21 1,
 pr_ 22 (.appz 1 false [.pl (.int .u8 0)] (.tmp 20) (.tmp 21)),
 mv_ 23 0,
 pr_ 24 (.lenv (.tmp 23)),
 pr_ 25 (.slco 1 (.tmp 22) none (some (.tmp 24))),
 mv_ 0 25])
 .skip)))
 (sq_ [mv_ 26 0,
 mv_ 4 26]
 .ret))))
def o37:List Tmp:=[20,25]
def r37:List RV:=[.tmp 4]
theorem t37:Text Tryd.prog 37 o37 c37 r37 27:=.mk_ Tryd.f37 rfl
def c38:ACode :=
 (sq_ [pr_ 3 (.boxr (.tmp 0)),
 pr_ 6 (.allocm z19_),
 pr_ 7 mf_]
 (.seq (sq_ [mv_ 11 1,
 c1_ 12 17 11,
 mv_ 10 12,
 pr_ 13 (ex_ 0 10),
 pr_ 14 (ex_ 1 10),
 mv_ 8 13,
 mv_ 9 14]
 (sq_ [mv_ 15 9,
 pr_ 16 (no_ 15),
 mv_ 17 16,
 gp_ 18 17 false (mo_ 8),
 gp_ 19 17 false (mo_ 2),
 gp_ 20 17 false (.lenv (.tmp 19)),
 gp_ 21 17 false (bt_ .neq 18 20),
 pr_ 22 (po_ 17 21)]
 (.cond (.tmp 22)
 (sq_ [pr_ 23 (.build z19_ []),
 st_ (so_ 19 6 23),
 pr_ 7 mf_]
 .ret)
 .skip)))
 (sq_ [pr_ 24 (lt_ 19 3),
 st_ (so_ 19 6 24),
 pr_ 7 mt_]
 .ret)))
def o38:List Tmp:=[6]
def r38:List RV:=[.cell 6 19 true,.tmp 7]
theorem t38:Text Tryd.prog 38 o38 c38 r38 25:=.mk_ Tryd.f38 rfl
def c39:ACode :=
 (sq_ [pr_ 2 (.allocm z19_)]
 (sq_ [mv_ 8 0,
 c1_ 9 28 8,
 pr_ 10 (.convi .i64 (.tmp 9)),
 pr_ 11 (.build z19_ [(1,1,(.tmp 10))]),
 pr_ 3 (.allocm z19_),
 st_ (so_ 19 3 11)]
 (sq_ [pr_ 13 (fa_ 1 3),
 pr_ 14 (lf_ 1 13),
 c1_ 15 40 14,
 mv_ 12 15,
 pr_ 16 (ex_ 0 12),
 pr_ 17 (ex_ 1 12),
 mv_ 4 16,
 mv_ 5 17]
 (sq_ [mv_ 18 0,
 mv_ 19 5,
 cl_ 20 41 [(.tmp 18),(.tmp 19)]]
 (.seq (sq_ [mv_ 21 4,
 pr_ 22 (bk_ .and 21 .i64 1),
 pr_ 23 (bk_ .gtr 22 .i64 0)]
 (.cond (.tmp 23)
 (.ops [mv_ 24 0,
 cl_ 25 14 [(.tmp 24),(.const (.int .u64 2147483647))],
 pr_ 26 (.convi .i64 (.tmp 25)),
 pr_ 27 (fa_ 2 3),
 st_ (so_ 1 27 26)])
 .skip))
 (.seq (sq_ [mv_ 28 4,
 pr_ 29 (bk_ .and 28 .i64 2),
 pr_ 30 (bk_ .gtr 29 .i64 0)]
 (.cond (.tmp 30)
 (.ops [mv_ 31 0,
 cl_ 32 16 [(.tmp 31),(.const (.int .i64 16))],
 pr_ 33 (fa_ 3 3),
 st_ (so_ 1 33 32)])
 .skip))
 (.seq (sq_ [mv_ 34 4,
 pr_ 35 (bk_ .and 34 .i64 4),
 pr_ 36 (bk_ .gtr 35 .i64 0)]
 (.cond (.tmp 36)
 (.ops [mv_ 37 0,
 cl_ 38 14 [(.tmp 37),(.const (.int .u64 1099511627776))],
 mv_ 39 0,
 cl_ 40 14 [(.tmp 39),(.const (.int .u64 1099511627776))],
 pr_ 41 (fa_ 4 3),
 st_ (so_ 1 41 38),
 pr_ 42 (fa_ 5 3),
 st_ (so_ 1 42 40)])
 .skip))
 (.seq (sq_ [mv_ 43 4,
 pr_ 44 (bk_ .and 43 .i64 8),
 pr_ 45 (bk_ .gtr 44 .i64 0)]
 (.cond (.tmp 45)
 (.ops [mv_ 46 0,
 c1_ 47 28 46,
 pr_ 48 (.convi .i64 (.tmp 47)),
 pr_ 49 (fa_ 6 3),
 st_ (so_ 1 49 48)])
 .skip))
 (.seq (sq_ [mv_ 50 4,
 pr_ 51 (bk_ .and 50 .i64 16),
 pr_ 52 (bk_ .gtr 51 .i64 0)]
 (.cond (.tmp 52)
 (.ops [mv_ 53 0,
 cl_ 54 42 [(.tmp 53),(.func 43)],
 pr_ 55 (fa_ 7 3),
 st_ (so_ 1 55 54)])
 .skip))
 (.seq (sq_ [mv_ 56 4,
 pr_ 57 (bk_ .and 56 .i64 64),
 pr_ 58 (bk_ .gtr 57 .i64 0)]
 (.cond (.tmp 58)
 (.ops [mv_ 59 0,
 cl_ 60 44 [(.tmp 59),(.func 45)],
 pr_ 61 (fa_ 8 3),
 st_ (so_ 3 61 60)])
 .skip))
 (.seq (sq_ [mv_ 62 4,
 pr_ 63 (bk_ .and 62 .i64 128),
 pr_ 64 (bk_ .gtr 63 .i64 0)]
 (.cond (.tmp 64)
 (.ops [mv_ 65 0,
 cl_ 66 46 [(.tmp 65),(.func 47)],
 pr_ 67 (fa_ 11 3),
 st_ (so_ 6 67 66)])
 .skip))
 (.seq (sq_ [mv_ 68 4,
 pr_ 69 (bk_ .and 68 .i64 256),
 pr_ 70 (bk_ .gtr 69 .i64 0)]
 (.cond (.tmp 70)
 (.ops [mv_ 71 0,
 cl_ 72 48 [(.tmp 71),(.func 49)],
 pr_ 73 (fa_ 17 3),
 st_ (so_ 1 73 72)])
 .skip))
 (.seq (sq_ [mv_ 74 4,
 pr_ 75 (bk_ .and 74 .i64 512),
 pr_ 76 (bk_ .gtr 75 .i64 0)]
 (.cond (.tmp 76)
 (sq_ [mv_ 78 0,
 c1_ 79 51 78,
 c1_ 80 50 79,
 mv_ 77 80,
 pr_ 81 (ex_ 0 77),
 pr_ 82 (ex_ 1 77),
 mv_ 6 81,
 mv_ 7 82]
 (sq_ [mv_ 83 0,
 mv_ 84 7,
 cl_ 85 41 [(.tmp 83),(.tmp 84)]]
 (.ops [mv_ 86 6,
 pr_ 87 (fa_ 18 3),
 st_ (so_ 1 87 86)])))
 .skip))
 (sq_ [mv_ 88 0,
 pr_ 89 (lt_ 19 3),
 c1_ 90 52 89,
 cl_ 91 41 [(.tmp 88),(.tmp 90)]]
 (sq_ [pr_ 92 (lt_ 19 3),
 st_ (so_ 19 2 92)]
 .ret)))))))))))))))
def o39:List Tmp:=[2,3]
def r39:List RV:=[.cell 2 19 true]
theorem t39:Text Tryd.prog 39 o39 c39 r39 93:=.mk_ Tryd.f39 rfl
def c40:ACode :=
 (sq_ [pr_ 2 (mi_ .i64 0),
 pr_ 3 mf_]
 (.seq (sq_ [mv_ 4 0]
 (.block 0 (.seq (sq_ [pr_ 6 (bk_ .eql 4 .i64 1),
 mv_ 5 6]
 (.cond (.tmp 5)
 .skip
 (sq_ [pr_ 7 (bk_ .eql 4 .i64 14),
 mv_ 5 7]
 (.cond (.tmp 5)
 .skip
 (sq_ [pr_ 8 (bk_ .eql 4 .i64 16),
 mv_ 5 8]
 (.cond (.tmp 5)
 .skip
 (.ops [pr_ 9 (bk_ .eql 4 .i64 17),
 mv_ 5 9])))))))
 (.cond (.tmp 5)
 (sq_ [pr_ 2 (mi_ .i64 0),
 pr_ 3 mt_]
 .ret)
 (.seq (sq_ [pr_ 11 (bk_ .eql 4 .i64 2),
 mv_ 10 11]
 (.cond (.tmp 10)
 .skip
 (sq_ [pr_ 12 (bk_ .eql 4 .i64 7),
 mv_ 10 12]
 (.cond (.tmp 10)
 .skip
 (sq_ [pr_ 13 (bk_ .eql 4 .i64 10),
 mv_ 10 13]
 (.cond (.tmp 10)
 .skip
 (sq_ [pr_ 14 (bk_ .eql 4 .i64 12),
 mv_ 10 14]
 (.cond (.tmp 10)
 .skip
 (.ops [pr_ 15 (bk_ .eql 4 .i64 15),
 mv_ 10 15])))))))))
 (.cond (.tmp 10)
 (sq_ [pr_ 2 (mi_ .i64 1),
 pr_ 3 mt_]
 .ret)
 (.seq (sq_ [pr_ 17 (bk_ .eql 4 .i64 3),
 mv_ 16 17]
 (.cond (.tmp 16)
 .skip
 (.ops [pr_ 18 (bk_ .eql 4 .i64 4),
 mv_ 16 18])))
 (.cond (.tmp 16)
 (sq_ [pr_ 2 (mi_ .i64 3),
 pr_ 3 mt_]
 .ret)
 (sq_ [pr_ 20 (bk_ .eql 4 .i64 5),
 mv_ 19 20]
 (.cond (.tmp 19)
 (sq_ [pr_ 2 (mi_ .i64 116),
 pr_ 3 mt_]
 .ret)
 (sq_ [pr_ 22 (bk_ .eql 4 .i64 6),
 mv_ 21 22]
 (.cond (.tmp 21)
 (sq_ [pr_ 2 (mi_ .i64 117),
 pr_ 3 mt_]
 .ret)
 (sq_ [pr_ 24 (bk_ .eql 4 .i64 8),
 mv_ 23 24]
 (.cond (.tmp 23)
 (sq_ [pr_ 2 (mi_ .i64 8),
 pr_ 3 mt_]
 .ret)
 (sq_ [pr_ 26 (bk_ .eql 4 .i64 9),
 mv_ 25 26]
 (.cond (.tmp 25)
 (sq_ [pr_ 2 (mi_ .i64 128),
 pr_ 3 mt_]
 .ret)
 (sq_ [pr_ 28 (bk_ .eql 4 .i64 11),
 mv_ 27 28]
 (.cond (.tmp 27)
 (sq_ [pr_ 2 (mi_ .i64 768),
 pr_ 3 mt_]
 .ret)
 (sq_ [pr_ 30 (bk_ .eql 4 .i64 13),
 mv_ 29 30]
 (.cond (.tmp 29)
 (sq_ [pr_ 2 (mi_ .i64 16),
 pr_ 3 mt_]
 .ret)
 .skip))))))))))))))))))))
 (sq_ [pr_ 2 (mi_ .i64 0),
 pr_ 3 mf_]
 .ret)))
def o40:List Tmp:=[]
def r40:List RV:=[.tmp 2,.tmp 3]
theorem t40:Text Tryd.prog 40 o40 c40 r40 31:=.mk_ Tryd.f40 rfl
def c41:ACode :=
 (.ops [mv_ 4 0,
 mv_ 5 1,
 cl_ 6 27 [(.tmp 4),(.const (.int .i64 0)),(.tmp 5)]])
def o41:List Tmp:=[]
def r41:List RV:=[]
theorem t41:Text Tryd.prog 41 o41 c41 r41 7:=.mk_ Tryd.f41 rfl
def c42:ACode :=
 (sq_ [pr_ 4 (.mov (.const (.slice none 0 0)))]
 (sq_ [mv_ 10 1,
 mv_ 11 0,
 c1_ 12 26 11,
 ⟨some 13,none,.call (.tmp 10) [(.tmp 12)]⟩,
 mv_ 9 13,
 pr_ 14 (ex_ 0 9),
 pr_ 15 (ex_ 1 9),
 pr_ 16 (ex_ 2 9),
 mv_ 5 14,
 mv_ 6 15,
 mv_ 7 16]
 (.seq (sq_ [mv_ 17 0,
 mv_ 18 6,
 mv_ 19 7,
 cl_ 20 27 [(.tmp 17),(.tmp 18),(.tmp 19)],
 pr_ 21 (no_ 20)]
 (.cond (.tmp 21)
 (sq_ [pr_ 8 (.mov (.const (.slice none 0 0)))]
 (sq_ [mv_ 22 8,
 mv_ 4 22]
 .ret))
 .skip))
 (sq_ [mv_ 23 5,
 mv_ 4 23]
 .ret))))
def o42:List Tmp:=[]
def r42:List RV:=[.tmp 4]
theorem t42:Text Tryd.prog 42 o42 c42 r42 24:=.mk_ Tryd.f42 rfl
def c43:ACode :=
 (sq_ [pr_ 2 (.mov (.const (.slice none 0 0))),
 pr_ 3 (mi_ .i64 0),
 pr_ 4 mf_]
 (sq_ [mv_ 9 0,
 c1_ 10 13 9,
 mv_ 5 10]
 (.seq (.after (.ops [pr_ 6 (.mov (.const (.slice none 0 0)))]) (.own 6 3))
 (.seq (sq_ [mv_ 11 5,
 cl_ 12 14 [(.tmp 11),(.const (.int .u64 5))],
 pr_ 13 (mi_ .u64 0)]
 (.block 0 (.loop [0,1,2,3,4,7,8,9,10,11,14,15,16,17,18,19,20,21,22,23,24,25,26,27,28,29,30,31,32,33,34,35,36,37,38,39] (sq_ [pr_ 14 (bt_ .lss 13 12)]
 (.seq (.cond (.tmp 14)
 .skip
 (.exit 0))
 (.seq (.block 1 (.ops [mv_ 15 6,
 mv_ 16 5,
 c1_ 17 28 16,
 pr_ 18 (.convi .i64 (.tmp 17)),
 mv_ 19 5,
 cl_ 20 16 [(.tmp 19),(.const (.int .i64 12))],
 mv_ 21 5,
 cl_ 22 16 [(.tmp 21),(.const (.int .i64 40))],
 pr_ 23 (.build [.pl (.int .i64 0),.pl (.string .empty),.pl (.string .empty)] [(0,1,(.tmp 18)),(1,1,(.tmp 20)),(2,1,(.tmp 22))]),
 pr_ 24 (.bsl false 3 true 1 [.pl (.int .i64 0),.pl (.string .empty),.pl (.string .empty)] [(0,3,(.tmp 23))]),
 pr_ 25 (.app 3 (.tmp 15) (.tmp 24)),
 mv_ 6 25]))
 (.ops [pr_ 26 (bk_ .add 13 .u64 1),
 mv_ 13 26])))))))
 (.seq (.ghost (.shut 6) (.ops [mv_ 27 5,
 mv_ 28 6,
 c1_ 29 53 28,
 cl_ 30 41 [(.tmp 27),(.tmp 29)]]))
 (sq_ [mv_ 32 5,
 c1_ 33 17 32,
 mv_ 31 33,
 pr_ 34 (ex_ 0 31),
 pr_ 35 (ex_ 1 31),
 mv_ 7 34,
 mv_ 8 35]
 (.seq (sq_ [mv_ 36 8,
 pr_ 37 (no_ 36)]
 (.cond (.tmp 37)
 (sq_ [pr_ 2 (.mov (.const (.slice none 0 0))),
 pr_ 3 (mi_ .i64 0),
 pr_ 4 mf_]
 (.ghost (.shut 2) .ret))
 .skip))
 (sq_ [mv_ 38 6,
 mv_ 39 7,
 mv_ 2 38,
 mv_ 3 39,
 pr_ 4 mt_]
 (.ghost (.shut 2) .ret)))))))))
def o43:List Tmp:=[]
def r43:List RV:=[.tmp 2,.tmp 3,.tmp 4]
theorem t43:Text Tryd.prog 43 o43 c43 r43 40:=.mk_ Tryd.f43 rfl
def c44:ACode :=
 (sq_ [pr_ 4 (.allocm [.pl (.bool false),.pl (.float .f64 0),.pl (.float .f64 0)])]
 (sq_ [mv_ 10 1,
 mv_ 11 0,
 c1_ 12 26 11,
 ⟨some 13,none,.call (.tmp 10) [(.tmp 12)]⟩,
 mv_ 9 13,
 pr_ 14 (ex_ 0 9),
 pr_ 15 (ex_ 1 9),
 pr_ 16 (ex_ 2 9),
 ⟨some 5,none,.fresh 3 5 (.tmp 14)⟩,
 mv_ 6 15,
 mv_ 7 16]
 (.seq (sq_ [mv_ 17 0,
 mv_ 18 6,
 mv_ 19 7,
 cl_ 20 27 [(.tmp 17),(.tmp 18),(.tmp 19)],
 pr_ 21 (no_ 20)]
 (.cond (.tmp 21)
 (sq_ [pr_ 8 (.allocm [.pl (.bool false),.pl (.float .f64 0),.pl (.float .f64 0)])]
 (sq_ [pr_ 22 (lt_ 3 8),
 st_ (so_ 3 4 22)]
 .ret))
 .skip))
 (sq_ [pr_ 23 (lt_ 3 5),
 st_ (so_ 3 4 23)]
 .ret))))
def o44:List Tmp:=[4]
def r44:List RV:=[.cell 4 3 true]
theorem t44:Text Tryd.prog 44 o44 c44 r44 24:=.mk_ Tryd.f44 rfl
def c45:ACode :=
 (sq_ [pr_ 2 (.allocm [.pl (.bool false),.pl (.float .f64 0),.pl (.float .f64 0)]),
 pr_ 3 (mi_ .i64 0),
 pr_ 4 mf_]
 (sq_ [mv_ 9 0,
 c1_ 10 13 9,
 mv_ 5 10]
 (sq_ [pr_ 6 (.allocm [.pl (.bool false),.pl (.float .f64 0),.pl (.float .f64 0)])]
 (.seq (sq_ [mv_ 11 5,
 c1_ 12 28 11]
 (.block 0 (sq_ [pr_ 16 (bk_ .eql 12 .u8 0),
 mv_ 15 16]
 (.cond (.tmp 15)
 (.ops [mv_ 17 5,
 c1_ 18 54 17,
 mv_ 19 5,
 c1_ 20 54 19,
 pr_ 21 (fa_ 1 6),
 st_ (so_ 1 21 18),
 pr_ 22 (fa_ 2 6),
 st_ (so_ 1 22 20)])
 (sq_ [pr_ 24 (bk_ .eql 12 .u8 1),
 mv_ 23 24]
 (.cond (.tmp 23)
 (.ops [pr_ 25 (fa_ 0 6),
 st_ (.store 1 (.tmp 25) (.const (.bool true)))])
 (.ops [mv_ 13 5,
 cl_ 14 41 [(.tmp 13),(.const (.bool false))]])))))))
 (sq_ [mv_ 26 5,
 pr_ 27 (lt_ 3 6),
 c1_ 28 55 27,
 cl_ 29 41 [(.tmp 26),(.tmp 28)]]
 (sq_ [mv_ 31 5,
 c1_ 32 17 31,
 mv_ 30 32,
 pr_ 33 (ex_ 0 30),
 pr_ 34 (ex_ 1 30),
 mv_ 7 33,
 mv_ 8 34]
 (.seq (sq_ [mv_ 35 8,
 pr_ 36 (no_ 35)]
 (.cond (.tmp 36)
 (sq_ [pr_ 37 (.build [.pl (.bool false),.pl (.float .f64 0),.pl (.float .f64 0)] []),
 st_ (so_ 3 2 37),
 pr_ 3 (mi_ .i64 0),
 pr_ 4 mf_]
 .ret)
 .skip))
 (sq_ [pr_ 38 (lt_ 3 6),
 mv_ 39 7,
 st_ (so_ 3 2 38),
 mv_ 3 39,
 pr_ 4 mt_]
 .ret))))))))
def o45:List Tmp:=[2,6]
def r45:List RV:=[.cell 2 3 true,.tmp 3,.tmp 4]
theorem t45:Text Tryd.prog 45 o45 c45 r45 40:=.mk_ Tryd.f45 rfl
def c46:ACode :=
 (sq_ [pr_ 4 (.allocm [.nils,.nils,.pl (.bool false),.pl (.float .f64 0),.pl (.float .f64 0),.nils])]
 (sq_ [mv_ 10 1,
 mv_ 11 0,
 c1_ 12 26 11,
 ⟨some 13,none,.call (.tmp 10) [(.tmp 12)]⟩,
 mv_ 9 13,
 pr_ 14 (ex_ 0 9),
 pr_ 15 (ex_ 1 9),
 pr_ 16 (ex_ 2 9),
 ⟨some 5,none,.fresh 6 5 (.tmp 14)⟩,
 mv_ 6 15,
 mv_ 7 16]
 (.seq (sq_ [mv_ 17 0,
 mv_ 18 6,
 mv_ 19 7,
 cl_ 20 27 [(.tmp 17),(.tmp 18),(.tmp 19)],
 pr_ 21 (no_ 20)]
 (.cond (.tmp 21)
 (sq_ [pr_ 8 (.allocm [.nils,.nils,.pl (.bool false),.pl (.float .f64 0),.pl (.float .f64 0),.nils])]
 (sq_ [pr_ 22 (lt_ 6 8),
 st_ (so_ 6 4 22)]
 .ret))
 .skip))
 (sq_ [pr_ 23 (lt_ 6 5),
 st_ (so_ 6 4 23)]
 .ret))))
def o46:List Tmp:=[4]
def r46:List RV:=[.cell 4 6 true]
theorem t46:Text Tryd.prog 46 o46 c46 r46 24:=.mk_ Tryd.f46 rfl
def c47:ACode :=
 (sq_ [pr_ 2 (.allocm [.nils,.nils,.pl (.bool false),.pl (.float .f64 0),.pl (.float .f64 0),.nils]),
 pr_ 3 (mi_ .i64 0),
 pr_ 4 mf_]
 (sq_ [mv_ 9 0,
 c1_ 10 13 9,
 mv_ 5 10]
 (sq_ [mv_ 11 5,
 cl_ 12 42 [(.tmp 11),(.func 43)],
 mv_ 13 5,
 cl_ 14 42 [(.tmp 13),(.func 43)],
 mv_ 15 5,
 cl_ 16 44 [(.tmp 15),(.func 45)],
 pr_ 17 (.build [.nils,.nils,.pl (.bool false),.pl (.float .f64 0),.pl (.float .f64 0),.nils] [(0,1,(.tmp 12)),(1,1,(.tmp 14)),(2,3,(.tmp 16))]),
 pr_ 6 (.allocm [.nils,.nils,.pl (.bool false),.pl (.float .f64 0),.pl (.float .f64 0),.nils]),
 st_ (so_ 6 6 17)]
 (.seq (sq_ [mv_ 18 5,
 cl_ 19 14 [(.tmp 18),(.const (.int .u64 4))],
 pr_ 20 (mi_ .u64 0)]
 (.block 0 (.loop [0,1,3,4,7,8,9,10,11,12,13,14,15,16,17,18,21,22,23,24,25,26,27,28,29,30,31,32,33,34,35,36,37,38,39,40,41,42,43] (sq_ [pr_ 21 (bt_ .lss 20 19)]
 (.seq (.cond (.tmp 21)
 .skip
 (.exit 0))
 (.seq (.block 1 (.draw [⟨pr_ 22 (fa_ 5 6),[],false,0,1⟩,
 ⟨pr_ 23 (lf_ 1 22),[0],false,0,1⟩,
 ⟨mv_ 24 5,[],false,0,0⟩,
 ⟨cl_ 25 16 [(.tmp 24),(.const (.int .i64 12))],[2],true,0,0⟩,
 ⟨pr_ 26 (.bsl false 1 false 1 [.pl (.string .empty)] [(0,1,(.tmp 25))]),[2,3],false,1,1⟩,
 ⟨pr_ 27 (.app 1 (.tmp 23) (.tmp 26)),[0,1,2,3,4],true,0,0⟩,
 ⟨pr_ 28 (fa_ 5 6),(List.range 6),false,2,2⟩,
 ⟨st_ (so_ 1 28 27),(List.range 7),true,0,0⟩]))
 (.ops [pr_ 29 (bk_ .add 20 .u64 1),
 mv_ 20 29])))))))
 (.seq (.ghost (.shutc 6 5 1) (.ops [mv_ 30 5,
 pr_ 31 (lt_ 6 6),
 c1_ 32 56 31,
 cl_ 33 41 [(.tmp 30),(.tmp 32)]]))
 (sq_ [mv_ 35 5,
 c1_ 36 17 35,
 mv_ 34 36,
 pr_ 37 (ex_ 0 34),
 pr_ 38 (ex_ 1 34),
 mv_ 7 37,
 mv_ 8 38]
 (.seq (sq_ [mv_ 39 8,
 pr_ 40 (no_ 39)]
 (.cond (.tmp 40)
 (sq_ [pr_ 41 (.build [.nils,.nils,.pl (.bool false),.pl (.float .f64 0),.pl (.float .f64 0),.nils] []),
 st_ (so_ 6 2 41),
 pr_ 3 (mi_ .i64 0),
 pr_ 4 mf_]
 .ret)
 .skip))
 (sq_ [pr_ 42 (lt_ 6 6),
 mv_ 43 7,
 st_ (so_ 6 2 42),
 mv_ 3 43,
 pr_ 4 mt_]
 .ret))))))))
def o47:List Tmp:=[2,6]
def r47:List RV:=[.cell 2 6 true,.tmp 3,.tmp 4]
theorem t47:Text Tryd.prog 47 o47 c47 r47 44:=.mk_ Tryd.f47 rfl
def c48:ACode :=
 (sq_ [pr_ 4 (.mov (.const (.slice none 0 0)))]
 (sq_ [mv_ 10 1,
 mv_ 11 0,
 c1_ 12 26 11,
 ⟨some 13,none,.call (.tmp 10) [(.tmp 12)]⟩,
 mv_ 9 13,
 pr_ 14 (ex_ 0 9),
 pr_ 15 (ex_ 1 9),
 pr_ 16 (ex_ 2 9),
 mv_ 5 14,
 mv_ 6 15,
 mv_ 7 16]
 (.seq (sq_ [mv_ 17 0,
 mv_ 18 6,
 mv_ 19 7,
 cl_ 20 27 [(.tmp 17),(.tmp 18),(.tmp 19)],
 pr_ 21 (no_ 20)]
 (.cond (.tmp 21)
 (sq_ [pr_ 8 (.mov (.const (.slice none 0 0)))]
 (sq_ [mv_ 22 8,
 mv_ 4 22]
 .ret))
 .skip))
 (sq_ [mv_ 23 5,
 mv_ 4 23]
 .ret))))
def o48:List Tmp:=[]
def r48:List RV:=[.tmp 4]
theorem t48:Text Tryd.prog 48 o48 c48 r48 24:=.mk_ Tryd.f48 rfl
def c49:ACode :=
 (sq_ [pr_ 2 (.mov (.const (.slice none 0 0))),
 pr_ 3 (mi_ .i64 0),
 pr_ 4 mf_]
 (sq_ [mv_ 9 0,
 c1_ 10 13 9,
 mv_ 5 10]
 (.seq (.after (.ops [pr_ 6 (.mov (.const (.slice none 0 0)))]) (.own 6 2))
 (.seq (sq_ [mv_ 11 5,
 cl_ 12 14 [(.tmp 11),(.const (.int .u64 6))],
 pr_ 13 (mi_ .u64 0)]
 (.block 0 (.loop [0,1,2,3,4,7,8,9,10,11,14,15,16,17,18,19,20,21,22,23,24,25,26,27,28,29,30,31,32,33,34,35,36] (sq_ [pr_ 14 (bt_ .lss 13 12)]
 (.seq (.cond (.tmp 14)
 .skip
 (.exit 0))
 (.seq (.block 1 (.ops [mv_ 15 6,
 mv_ 16 5,
 cl_ 17 16 [(.tmp 16),(.const (.int .i64 12))],
 mv_ 18 5,
 cl_ 19 16 [(.tmp 18),(.const (.int .i64 24))],
 pr_ 20 (.build [.pl (.string .empty),.pl (.string .empty)] [(0,1,(.tmp 17)),(1,1,(.tmp 19))]),
 pr_ 21 (.bsl false 2 true 1 [.pl (.string .empty),.pl (.string .empty)] [(0,2,(.tmp 20))]),
 pr_ 22 (.app 2 (.tmp 15) (.tmp 21)),
 mv_ 6 22]))
 (.ops [pr_ 23 (bk_ .add 13 .u64 1),
 mv_ 13 23])))))))
 (.seq (.ghost (.shut 6) (.ops [mv_ 24 5,
 mv_ 25 6,
 c1_ 26 57 25,
 cl_ 27 41 [(.tmp 24),(.tmp 26)]]))
 (sq_ [mv_ 29 5,
 c1_ 30 17 29,
 mv_ 28 30,
 pr_ 31 (ex_ 0 28),
 pr_ 32 (ex_ 1 28),
 mv_ 7 31,
 mv_ 8 32]
 (.seq (sq_ [mv_ 33 8,
 pr_ 34 (no_ 33)]
 (.cond (.tmp 34)
 (sq_ [pr_ 2 (.mov (.const (.slice none 0 0))),
 pr_ 3 (mi_ .i64 0),
 pr_ 4 mf_]
 (.ghost (.shut 2) .ret))
 .skip))
 (sq_ [mv_ 35 6,
 mv_ 36 7,
 mv_ 2 35,
 mv_ 3 36,
 pr_ 4 mt_]
 (.ghost (.shut 2) .ret)))))))))
def o49:List Tmp:=[]
def r49:List RV:=[.tmp 2,.tmp 3,.tmp 4]
theorem t49:Text Tryd.prog 49 o49 c49 r49 37:=.mk_ Tryd.f49 rfl
def c50:ACode :=
 (sq_ [pr_ 2 (.mov (.const (.float Go.FloatKind.f64 0))),
 pr_ 3 mf_]
 (sq_ [mv_ 5 0,
 c1_ 6 58 5,
 mv_ 4 6]
 (.seq (sq_ [mv_ 7 4,
 c1_ 8 59 7,
 mv_ 9 0,
 pr_ 10 (bt_ .neq 8 9)]
 (.cond (.tmp 10)
 (sq_ [pr_ 2 (.mov (.const (.float Go.FloatKind.f64 0))),
 pr_ 3 mf_]
 .ret)
 .skip))
 (sq_ [mv_ 11 4,
 mv_ 2 11,
 pr_ 3 mt_]
 .ret))))
def o50:List Tmp:=[]
def r50:List RV:=[.tmp 2,.tmp 3]
theorem t50:Text Tryd.prog 50 o50 c50 r50 12:=.mk_ Tryd.f50 rfl
def c51:ACode :=
 (sq_ [pr_ 2 (mi_ .u64 0)]
 (sq_ [mv_ 6 0,
 c1_ 7 26 6,
 c1_ 8 60 7,
 mv_ 5 8,
 pr_ 9 (ex_ 0 5),
 pr_ 10 (ex_ 1 5),
 mv_ 3 9,
 mv_ 4 10]
 (.seq (sq_ [mv_ 11 0,
 mv_ 12 4,
 cl_ 13 27 [(.tmp 11),(.const (.int .i64 8)),(.tmp 12)],
 pr_ 14 (no_ 13)]
 (.cond (.tmp 14)
 (sq_ [pr_ 2 (mi_ .u64 0)]
 .ret)
 .skip))
 (sq_ [mv_ 15 3,
 mv_ 2 15]
 .ret))))
def o51:List Tmp:=[]
def r51:List RV:=[.tmp 2]
theorem t51:Text Tryd.prog 51 o51 c51 r51 16:=.mk_ Tryd.f51 rfl
def c52:ACode :=
 (sq_ [pr_ 1 (.boxr (.tmp 0)),
 pr_ 2 mf_]
 (sq_ [pr_ 6 (fa_ 1 1),
 pr_ 7 (lf_ 1 6),
 c1_ 8 40 7,
 mv_ 5 8,
 pr_ 9 (ex_ 0 5),
 pr_ 10 (ex_ 1 5),
 mv_ 3 9,
 mv_ 4 10]
 (sq_ [mv_ 11 4,
 mv_ 12 11,
 gp_ 13 12 true (lt_ 19 1),
 gp_ 14 12 true (mo_ 3),
 gc_ 15 12 true 61 [(.tmp 13),(.tmp 14)],
 pr_ 16 (pa_ 12 15),
 mv_ 17 16,
 gp_ 18 17 true (lt_ 19 1),
 gp_ 19 17 true (mo_ 3),
 gc_ 20 17 true 62 [(.tmp 18),(.tmp 19)],
 pr_ 21 (pa_ 17 20),
 mv_ 2 21]
 .ret)))
def o52:List Tmp:=[]
def r52:List RV:=[.tmp 2]
theorem t52:Text Tryd.prog 52 o52 c52 r52 22:=.mk_ Tryd.f52 rfl
def c53:ACode :=
 (sq_ [pr_ 2 mf_]
 (.seq (sq_ [mv_ 5 0,
 pr_ 6 (.lenv (.tmp 5)),
 pr_ 7 (bk_ .gtr 6 .i64 5)]
 (.cond (.tmp 7)
 (sq_ [pr_ 2 mf_]
 .ret)
 .skip))
 (.seq (sq_ [mv_ 8 0,
 pr_ 9 (.lenv (.tmp 8)),
 pr_ 10 (mi_ .i64 0)]
 (.block 0 (.loop [1,2,3,4,5,6,7,11,12,13,14,15,16,17,18,19,20,21,22,23,24,25,26,27,28,29,30,31,32] (sq_ [pr_ 11 (bt_ .lss 10 9)]
 (.seq (.cond (.tmp 11)
 .skip
 (.exit 0))
 (.seq (.block 1 (sq_ [mv_ 12 10,
 pr_ 13 (.iadrs 3 (.tmp 8) (.tmp 10)),
 pr_ 14 (lt_ 3 13),
 pr_ 4 (.allocm [.pl (.int .i64 0),.pl (.string .empty),.pl (.string .empty)]),
 mv_ 3 12,
 st_ (so_ 3 4 14)]
 (.seq (.draw [⟨pr_ 15 (lt_ 3 4),[],false,0,0⟩,
 ⟨c1_ 16 63 15,[0],true,0,0⟩,
 ⟨pr_ 17 (no_ 16),[0,1],false,1,1⟩,
 ⟨mv_ 18 17,[0,1,2],false,1,1⟩,
 ⟨gp_ 19 18 false (mo_ 3),[0,1,2,3],false,1,1⟩,
 ⟨gp_ 20 18 false (bk_ .gtr 19 .i64 0),[0,1,2,3,4],false,1,1⟩,
 ⟨gp_ 21 18 false (mo_ 20),(List.range 6),false,1,1⟩,
 ⟨gp_ 22 21 true (mo_ 0),(List.range 7),false,1,1⟩,
 ⟨gp_ 23 21 true (mo_ 3),(List.range 7),false,1,1⟩,
 ⟨gp_ 24 21 true (bk_ .sub 23 .i64 1),[0,1,2,3,4,5,6,8],false,1,1⟩,
 ⟨gp_ 25 21 true (.iadrs 3 (.tmp 22) (.tmp 24)),(List.range 10),false,1,1⟩,
 ⟨gp_ 26 21 true (lt_ 3 25),(List.range 11),false,1,1⟩,
 ⟨gp_ 27 21 true (lt_ 3 4),(List.range 7),false,1,1⟩,
 ⟨gc_ 28 21 true 64 [(.tmp 26),(.tmp 27)],(List.range 13),true,0,0⟩,
 ⟨gp_ 29 21 true (bk_ .geq 28 .i64 0),(List.range 14),false,2,2⟩,
 ⟨gp_ 30 18 false (pa_ 21 29),(List.range 15),false,2,2⟩,
 ⟨pr_ 31 (po_ 18 30),(List.range 16),false,2,2⟩])
 (.cond (.tmp 31)
 (sq_ [pr_ 2 mf_]
 .ret)
 .skip))))
 (.after (.after (.ops [pr_ 32 (bk_ .add 10 .i64 1),
 mv_ 10 32]) (.clear [4])) (.keep 0))))))))
 (sq_ [pr_ 2 mt_]
 .ret))))
def o53:List Tmp:=[4]
def r53:List RV:=[.tmp 2]
theorem t53:Text Tryd.prog 53 o53 c53 r53 33:=.mk_ Tryd.f53 rfl
def c54:ACode :=
 (sq_ [pr_ 2 (.mov (.const (.float Go.FloatKind.f64 0)))]
 (sq_ [mv_ 6 0,
 c1_ 7 51 6,
 c1_ 8 50 7,
 mv_ 5 8,
 pr_ 9 (ex_ 0 5),
 pr_ 10 (ex_ 1 5),
 mv_ 3 9,
 mv_ 4 10]
 (sq_ [mv_ 11 0,
 mv_ 12 4,
 cl_ 13 41 [(.tmp 11),(.tmp 12)]]
 (sq_ [mv_ 14 3,
 mv_ 2 14]
 .ret))))
def o54:List Tmp:=[]
def r54:List RV:=[.tmp 2]
theorem t54:Text Tryd.prog 54 o54 c54 r54 15:=.mk_ Tryd.f54 rfl
def c55:ACode :=
 (sq_ [pr_ 1 (.boxr (.tmp 0)),
 pr_ 2 mf_]
 (.seq (sq_ [pr_ 3 (fa_ 0 1),
 pr_ 4 (lf_ 1 3)]
 (.cond (.tmp 4)
 (sq_ [pr_ 5 (fa_ 1 1),
 pr_ 6 (lf_ 1 5),
 c1_ 7 59 6,
 pr_ 8 (bk_ .eql 7 .u64 0),
 mv_ 9 8,
 gp_ 10 9 true (fa_ 2 1),
 gp_ 11 9 true (lf_ 1 10),
 gc_ 12 9 true 59 [(.tmp 11)],
 gp_ 13 9 true (bk_ .eql 12 .u64 0),
 pr_ 14 (pa_ 9 13),
 mv_ 2 14]
 .ret)
 .skip))
 (sq_ [pr_ 15 (fa_ 1 1),
 pr_ 16 (lf_ 1 15),
 pr_ 17 (fa_ 2 1),
 pr_ 18 (lf_ 1 17),
 pr_ 19 (bt_ .leq 16 18),
 mv_ 2 19]
 .ret)))
def o55:List Tmp:=[]
def r55:List RV:=[.tmp 2]
theorem t55:Text Tryd.prog 55 o55 c55 r55 20:=.mk_ Tryd.f55 rfl
def c56:ACode :=
 (sq_ [pr_ 1 (.boxr (.tmp 0)),
 pr_ 2 mf_]
 (.seq (sq_ [pr_ 5 (fa_ 0 1),
 pr_ 6 (lf_ 1 5),
 pr_ 7 (.lenv (.tmp 6)),
 pr_ 8 (bk_ .eql 7 .i64 0),
 mv_ 9 8,
 gp_ 10 9 false (fa_ 1 1),
 gp_ 11 9 false (lf_ 1 10),
 gp_ 12 9 false (.lenv (.tmp 11)),
 gp_ 13 9 false (bk_ .eql 12 .i64 0),
 pr_ 14 (po_ 9 13),
 mv_ 15 14,
 gp_ 16 15 false (fa_ 0 1),
 gp_ 17 15 false (lf_ 1 16),
 gc_ 18 15 false 53 [(.tmp 17)],
 gp_ 19 15 false (no_ 18),
 pr_ 20 (po_ 15 19),
 mv_ 21 20,
 gp_ 22 21 false (fa_ 1 1),
 gp_ 23 21 false (lf_ 1 22),
 gc_ 24 21 false 53 [(.tmp 23)],
 gp_ 25 21 false (no_ 24),
 pr_ 26 (po_ 21 25),
 mv_ 27 26,
 gp_ 28 27 false (fa_ 2 1),
 gp_ 29 27 false (lt_ 3 28),
 gc_ 30 27 false 55 [(.tmp 29)],
 gp_ 31 27 false (no_ 30),
 pr_ 32 (po_ 27 31),
 mv_ 33 32,
 gp_ 34 33 false (fa_ 5 1),
 gp_ 35 33 false (lf_ 1 34),
 gp_ 36 33 false (.lenv (.tmp 35)),
 gp_ 37 33 false (bk_ .gtr 36 .i64 4),
 pr_ 38 (po_ 33 37)]
 (.cond (.tmp 38)
 (sq_ [pr_ 2 mf_]
 .ret)
 .skip))
 (.seq (sq_ [pr_ 39 (fa_ 5 1),
 pr_ 40 (lf_ 1 39),
 pr_ 41 (.lenv (.tmp 40)),
 pr_ 42 (mi_ .i64 0)]
 (.block 0 (.loop [0,2,3,4,5,6,7,8,9,10,11,12,13,14,15,16,17,18,19,20,21,22,23,24,25,26,27,28,29,30,31,32,33,34,35,36,37,38,39,43,44,45,46,47,48,49,50,51,52,53,54,55,56,57,58,59,60,61,62,63,64] (sq_ [pr_ 43 (bt_ .lss 42 41)]
 (.seq (.cond (.tmp 43)
 .skip
 (.exit 0))
 (.seq (.block 1 (sq_ [mv_ 44 42,
 pr_ 45 (.iadrs 1 (.tmp 40) (.tmp 42)),
 pr_ 46 (lf_ 1 45),
 mv_ 3 44,
 mv_ 4 46]
 (sq_ [mv_ 47 4,
 c1_ 48 65 47,
 pr_ 49 (no_ 48),
 mv_ 50 49,
 gp_ 51 50 false (mo_ 3),
 gp_ 52 50 false (bk_ .gtr 51 .i64 0),
 gp_ 53 50 false (mo_ 52),
 gp_ 54 53 true (mo_ 4),
 gp_ 55 53 true (fa_ 5 1),
 gp_ 56 53 true (lf_ 1 55),
 gp_ 57 53 true (mo_ 3),
 gp_ 58 53 true (bk_ .sub 57 .i64 1),
 gp_ 59 53 true (.iadrs 1 (.tmp 56) (.tmp 58)),
 gp_ 60 53 true (lf_ 1 59),
 gp_ 61 53 true (bt_ .leq 54 60),
 gp_ 62 50 false (pa_ 53 61),
 pr_ 63 (po_ 50 62)]
 (.cond (.tmp 63)
 (sq_ [pr_ 2 mf_]
 .ret)
 .skip))))
 (.ops [pr_ 64 (bk_ .add 42 .i64 1),
 mv_ 42 64])))))))
 (sq_ [pr_ 2 mt_]
 .ret))))
def o56:List Tmp:=[]
def r56:List RV:=[.tmp 2]
theorem t56:Text Tryd.prog 56 o56 c56 r56 65:=.mk_ Tryd.f56 rfl
def c57:ACode :=
 (sq_ [pr_ 2 mf_]
 (.seq (sq_ [mv_ 5 0,
 pr_ 6 (.lenv (.tmp 5)),
 pr_ 7 (bk_ .lss 6 .i64 1),
 mv_ 8 7,
 gp_ 9 8 false (mo_ 0),
 gp_ 10 8 false (.lenv (.tmp 9)),
 gp_ 11 8 false (bk_ .gtr 10 .i64 6),
 pr_ 12 (po_ 8 11)]
 (.cond (.tmp 12)
 (sq_ [pr_ 2 mf_]
 .ret)
 .skip))
 (.seq (sq_ [mv_ 13 0,
 pr_ 14 (.lenv (.tmp 13)),
 pr_ 15 (mi_ .i64 0)]
 (.block 0 (.loop [1,2,3,4,5,6,7,8,9,10,11,12,16,17,18,19,20,21,22,23,24,25,26,27,28,29,30,31,32,33,34,35,36,37,38,39,40,41,42,43,44,45] (sq_ [pr_ 16 (bt_ .lss 15 14)]
 (.seq (.cond (.tmp 16)
 .skip
 (.exit 0))
 (.seq (.block 1 (sq_ [mv_ 17 15,
 pr_ 18 (.iadrs 2 (.tmp 13) (.tmp 15)),
 pr_ 19 (lt_ 2 18),
 pr_ 4 (.allocm [.pl (.string .empty),.pl (.string .empty)]),
 mv_ 3 17,
 st_ (so_ 2 4 19)]
 (.seq (.after (.after (.draw [⟨pr_ 20 (fa_ 0 4),[],false,0,0⟩,
 ⟨pr_ 21 (lf_ 1 20),[0],false,0,0⟩,
 ⟨c1_ 22 65 21,[0,1],true,0,0⟩,
 ⟨pr_ 23 (no_ 22),[0,1,2],false,1,1⟩,
 ⟨mv_ 24 23,[0,1,2,3],false,1,1⟩,
 ⟨gp_ 25 24 false (fa_ 1 4),[0,1,2,3,4],false,1,1⟩,
 ⟨gp_ 26 24 false (lf_ 1 25),(List.range 6),false,1,1⟩,
 ⟨gc_ 27 24 false 66 [(.tmp 26)],(List.range 7),true,0,0⟩,
 ⟨gp_ 28 24 false (no_ 27),(List.range 8),false,2,2⟩,
 ⟨pr_ 29 (po_ 24 28),(List.range 9),false,2,2⟩,
 ⟨mv_ 30 29,(List.range 10),false,2,2⟩,
 ⟨gp_ 31 30 false (mo_ 3),(List.range 11),false,2,2⟩,
 ⟨gp_ 32 30 false (bk_ .gtr 31 .i64 0),(List.range 12),false,2,2⟩,
 ⟨gp_ 33 30 false (mo_ 32),(List.range 13),false,2,2⟩,
 ⟨gp_ 34 33 true (fa_ 0 4),(List.range 14),false,2,2⟩,
 ⟨gp_ 35 33 true (lf_ 1 34),(List.range 15),false,2,2⟩,
 ⟨gp_ 36 33 true (mo_ 0),(List.range 14),false,2,2⟩,
 ⟨gp_ 37 33 true (mo_ 3),(List.range 14),false,2,2⟩,
 ⟨gp_ 38 33 true (bk_ .sub 37 .i64 1),[0,1,2,3,4,5,6,7,8,9,10,11,12,13,17],false,2,2⟩,
 ⟨gp_ 39 33 true (.iadrs 2 (.tmp 36) (.tmp 38)),[0,1,2,3,4,5,6,7,8,9,10,11,12,13,16,17,18],false,2,2⟩,
 ⟨gp_ 40 33 true (fa_ 0 39),[0,1,2,3,4,5,6,7,8,9,10,11,12,13,16,17,18,19],false,2,2⟩,
 ⟨gp_ 41 33 true (lf_ 1 40),[0,1,2,3,4,5,6,7,8,9,10,11,12,13,16,17,18,19,20],false,2,2⟩,
 ⟨gp_ 42 33 true (bt_ .leq 35 41),(List.range 22),false,2,2⟩,
 ⟨gp_ 43 30 false (pa_ 33 42),(List.range 23),false,2,2⟩,
 ⟨pr_ 44 (po_ 30 43),(List.range 24),false,2,2⟩]) (.clear [4,20,25,34])) (.keep 0))
 (.cond (.tmp 44)
 (sq_ [pr_ 2 mf_]
 .ret)
 .skip))))
 (.ops [pr_ 45 (bk_ .add 15 .i64 1),
 mv_ 15 45])))))))
 (sq_ [pr_ 2 mt_]
 .ret))))
def o57:List Tmp:=[]
def r57:List RV:=[.tmp 2]
theorem t57:Text Tryd.prog 57 o57 c57 r57 46:=.mk_ Tryd.f57 rfl
def c59:ACode :=
 (sq_ [pr_ 2 (mi_ .u64 0)]
 (.seq (sq_ [mv_ 3 0,
 c1_ 4 67 3]
 (.cond (.tmp 4)
 (sq_ [pr_ 2 (mi_ .u64 9221120237041090561)]
 .ret)
 .skip))
 (sq_ [mv_ 5 0,
 c1_ 6 68 5,
 mv_ 2 6]
 .ret)))
def o59:List Tmp:=[]
def r59:List RV:=[.tmp 2]
theorem t59:Text Tryd.prog 59 o59 c59 r59 7:=.mk_ Tryd.f59 rfl
def c60:ACode :=
 (sq_ [pr_ 2 (mi_ .u64 0),
 pr_ 3 mf_]
 (.seq (sq_ [mv_ 7 0,
 pr_ 8 (.lenv (.tmp 7)),
 pr_ 9 (bk_ .lss 8 .i64 8)]
 (.cond (.tmp 9)
 (sq_ [pr_ 2 (mi_ .u64 0),
 pr_ 3 mf_]
 .ret)
 .skip))
 (sq_ [pr_ 4 (mi_ .u64 0)]
 (.seq (sq_ [mv_ 10 0,
 pr_ 11 (.slcv 1 (.tmp 10) none (some (.const (.int .i64 8)))),
 pr_ 12 (.lenv (.tmp 11)),
 pr_ 13 (mi_ .i64 0)]
 (.block 0 (.loop [0,1,2,3,5,6,7,8,9,10,14,15,16,17,18,19,20,21,22,23] (sq_ [pr_ 14 (bt_ .lss 13 12)]
 (.seq (.cond (.tmp 14)
 .skip
 (.exit 0))
 (.seq (.block 1 (sq_ [pr_ 15 (.iadrs 1 (.tmp 11) (.tmp 13)),
 pr_ 16 (lf_ 1 15),
 mv_ 6 16]
 (.ops [mv_ 17 4,
 pr_ 18 (bk_ .shl 17 .u64 8),
 mv_ 19 6,
 pr_ 20 (.convi .u64 (.tmp 19)),
 pr_ 21 (bt_ .or 18 20),
 mv_ 4 21])))
 (.ops [pr_ 22 (bk_ .add 13 .i64 1),
 mv_ 13 22])))))))
 (sq_ [mv_ 23 4,
 mv_ 2 23,
 pr_ 3 mt_]
 .ret)))))
def o60:List Tmp:=[]
def r60:List RV:=[.tmp 2,.tmp 3]
theorem t60:Text Tryd.prog 60 o60 c60 r60 24:=.mk_ Tryd.f60 rfl
def c61:ACode :=
 (sq_ [pr_ 2 (.boxr (.tmp 0)),
 pr_ 4 mf_]
 (sq_ [mv_ 5 1,
 pr_ 6 (bk_ .and 5 .i64 1),
 pr_ 7 (bk_ .gtr 6 .i64 0),
 mv_ 8 7,
 gp_ 9 8 false (fa_ 2 2),
 gp_ 10 8 false (lf_ 1 9),
 gp_ 11 8 false (bk_ .eql 10 .i64 0),
 pr_ 12 (po_ 8 11),
 mv_ 13 12,
 gp_ 14 13 true (mo_ 1),
 gp_ 15 13 true (bk_ .and 14 .i64 2),
 gp_ 16 13 true (bk_ .gtr 15 .i64 0),
 gp_ 17 13 true (mo_ 16),
 gp_ 18 17 false (fa_ 3 2),
 gp_ 19 17 false (lf_ 1 18),
 gp_ 20 17 false (.bin false .eql (.tmp 19) (.const (.string (ByteArray.mk #[])))),
 gp_ 21 13 true (po_ 17 20),
 pr_ 22 (pa_ 13 21),
 mv_ 23 22,
 gp_ 24 23 true (mo_ 1),
 gp_ 25 23 true (bk_ .and 24 .i64 4),
 gp_ 26 23 true (bk_ .gtr 25 .i64 0),
 gp_ 27 23 true (mo_ 26),
 gp_ 28 27 false (fa_ 4 2),
 gp_ 29 27 false (lf_ 1 28),
 gp_ 30 27 false (bk_ .eql 29 .u64 0),
 gp_ 31 27 false (mo_ 30),
 gp_ 32 31 true (fa_ 5 2),
 gp_ 33 31 true (lf_ 1 32),
 gp_ 34 31 true (bk_ .eql 33 .u64 0),
 gp_ 35 27 false (pa_ 31 34),
 gp_ 36 23 true (po_ 27 35),
 pr_ 37 (pa_ 23 36),
 mv_ 38 37,
 gp_ 39 38 true (mo_ 1),
 gp_ 40 38 true (bk_ .and 39 .i64 8),
 gp_ 41 38 true (bk_ .gtr 40 .i64 0),
 gp_ 42 38 true (mo_ 41),
 gp_ 43 42 false (fa_ 6 2),
 gp_ 44 42 false (lf_ 1 43),
 gp_ 45 42 false (bk_ .eql 44 .i64 0),
 gp_ 46 38 true (po_ 42 45),
 pr_ 47 (pa_ 38 46),
 mv_ 48 47,
 gp_ 49 48 true (mo_ 1),
 gp_ 50 48 true (bk_ .and 49 .i64 16),
 gp_ 51 48 true (bk_ .gtr 50 .i64 0),
 gp_ 52 48 true (mo_ 51),
 gp_ 53 52 false (fa_ 7 2),
 gp_ 54 52 false (lf_ 1 53),
 gp_ 55 52 false (.lenv (.tmp 54)),
 gp_ 56 52 false (bk_ .eql 55 .i64 0),
 gp_ 57 48 true (po_ 52 56),
 pr_ 58 (pa_ 48 57),
 mv_ 59 58,
 gp_ 60 59 true (mo_ 1),
 gp_ 61 59 true (bk_ .and 60 .i64 64),
 gp_ 62 59 true (bk_ .gtr 61 .i64 0),
 gp_ 63 59 true (mo_ 62),
 gp_ 64 63 false (fa_ 8 2),
 gp_ 65 63 false (lt_ 3 64),
 gc_ 66 63 false 69 [(.tmp 65)],
 gp_ 67 59 true (po_ 63 66),
 pr_ 68 (pa_ 59 67),
 mv_ 69 68,
 gp_ 70 69 true (mo_ 1),
 gp_ 71 69 true (bk_ .and 70 .i64 128),
 gp_ 72 69 true (bk_ .gtr 71 .i64 0),
 gp_ 73 69 true (mo_ 72),
 gp_ 74 73 false (fa_ 11 2),
 gp_ 75 73 false (lt_ 6 74),
 gc_ 76 73 false 70 [(.tmp 75)],
 gp_ 77 69 true (po_ 73 76),
 pr_ 78 (pa_ 69 77),
 mv_ 79 78,
 gp_ 80 79 true (mo_ 1),
 gp_ 81 79 true (bk_ .and 80 .i64 256),
 gp_ 82 79 true (bk_ .gtr 81 .i64 0),
 gp_ 83 79 true (mo_ 82),
 gp_ 84 83 false (fa_ 17 2),
 gp_ 85 83 false (lf_ 1 84),
 gp_ 86 83 false (.lenv (.tmp 85)),
 gp_ 87 83 false (bk_ .eql 86 .i64 0),
 gp_ 88 79 true (po_ 83 87),
 pr_ 89 (pa_ 79 88),
 mv_ 90 89,
 gp_ 91 90 true (mo_ 1),
 gp_ 92 90 true (bk_ .and 91 .i64 512),
 gp_ 93 90 true (bk_ .gtr 92 .i64 0),
 gp_ 94 90 true (mo_ 93),
 gp_ 95 94 false (fa_ 18 2),
 gp_ 96 94 false (lf_ 1 95),
 gc_ 97 94 false 71 [(.tmp 96)],
 gp_ 98 90 true (po_ 94 97),
 pr_ 99 (pa_ 90 98),
 mv_ 4 99]
 .ret))
def o61:List Tmp:=[]
def r61:List RV:=[.tmp 4]
theorem t61:Text Tryd.prog 61 o61 c61 r61 100:=.mk_ Tryd.f61 rfl
def c62:ACode :=
 (sq_ [pr_ 2 (.boxr (.tmp 0)),
 pr_ 4 mf_]
 (sq_ [pr_ 5 (fa_ 2 2),
 pr_ 6 (lf_ 1 5),
 pr_ 7 (bk_ .geq 6 .i64 0),
 mv_ 8 7,
 gp_ 9 8 true (fa_ 2 2),
 gp_ 10 8 true (lf_ 1 9),
 gp_ 11 8 true (bk_ .leq 10 .i64 2147483647),
 pr_ 12 (pa_ 8 11),
 mv_ 13 12,
 gp_ 14 13 true (mo_ 1),
 gp_ 15 13 true (bk_ .and 14 .i64 2),
 gp_ 16 13 true (bk_ .eql 15 .i64 0),
 gp_ 17 13 true (mo_ 16),
 gp_ 18 17 false (fa_ 3 2),
 gp_ 19 17 false (lf_ 1 18),
 gc_ 20 17 false 72 [(.tmp 19)],
 gp_ 21 13 true (po_ 17 20),
 pr_ 22 (pa_ 13 21),
 mv_ 23 22,
 gp_ 24 23 true (fa_ 4 2),
 gp_ 25 23 true (lf_ 1 24),
 gp_ 26 23 true (bk_ .leq 25 .u64 1099511627776),
 pr_ 27 (pa_ 23 26),
 mv_ 28 27,
 gp_ 29 28 true (fa_ 5 2),
 gp_ 30 28 true (lf_ 1 29),
 gp_ 31 28 true (bk_ .leq 30 .u64 1099511627776),
 pr_ 32 (pa_ 28 31),
 mv_ 33 32,
 gp_ 34 33 true (fa_ 6 2),
 gp_ 35 33 true (lf_ 1 34),
 gp_ 36 33 true (bk_ .geq 35 .i64 0),
 pr_ 37 (pa_ 33 36),
 mv_ 38 37,
 gp_ 39 38 true (fa_ 6 2),
 gp_ 40 38 true (lf_ 1 39),
 gp_ 41 38 true (bk_ .leq 40 .i64 3),
 pr_ 42 (pa_ 38 41),
 mv_ 43 42,
 gp_ 44 43 true (fa_ 7 2),
 gp_ 45 43 true (lf_ 1 44),
 gc_ 46 43 true 53 [(.tmp 45)],
 pr_ 47 (pa_ 43 46),
 mv_ 48 47,
 gp_ 49 48 true (mo_ 1),
 gp_ 50 48 true (bk_ .and 49 .i64 32),
 gp_ 51 48 true (bk_ .eql 50 .i64 0),
 gp_ 52 48 true (mo_ 51),
 gp_ 53 52 false (fa_ 7 2),
 gp_ 54 52 false (lf_ 1 53),
 gp_ 55 52 false (.lenv (.tmp 54)),
 gp_ 56 52 false (bk_ .gtr 55 .i64 0),
 gp_ 57 48 true (po_ 52 56),
 pr_ 58 (pa_ 48 57),
 mv_ 59 58,
 gp_ 60 59 true (mo_ 1),
 gp_ 61 59 true (bk_ .and 60 .i64 64),
 gp_ 62 59 true (bk_ .eql 61 .i64 0),
 gp_ 63 59 true (mo_ 62),
 gp_ 64 63 false (fa_ 8 2),
 gp_ 65 63 false (lt_ 3 64),
 gc_ 66 63 false 55 [(.tmp 65)],
 gp_ 67 59 true (po_ 63 66),
 pr_ 68 (pa_ 59 67),
 mv_ 69 68,
 gp_ 70 69 true (mo_ 1),
 gp_ 71 69 true (bk_ .and 70 .i64 128),
 gp_ 72 69 true (bk_ .eql 71 .i64 0),
 gp_ 73 69 true (mo_ 72),
 gp_ 74 73 false (fa_ 11 2),
 gp_ 75 73 false (lt_ 6 74),
 gc_ 76 73 false 56 [(.tmp 75)],
 gp_ 77 69 true (po_ 73 76),
 pr_ 78 (pa_ 69 77),
 mv_ 79 78,
 gp_ 80 79 true (mo_ 1),
 gp_ 81 79 true (bk_ .and 80 .i64 256),
 gp_ 82 79 true (bk_ .eql 81 .i64 0),
 gp_ 83 79 true (mo_ 82),
 gp_ 84 83 false (fa_ 17 2),
 gp_ 85 83 false (lf_ 1 84),
 gc_ 86 83 false 57 [(.tmp 85)],
 gp_ 87 79 true (po_ 83 86),
 pr_ 88 (pa_ 79 87),
 mv_ 4 88]
 .ret))
def o62:List Tmp:=[]
def r62:List RV:=[.tmp 4]
theorem t62:Text Tryd.prog 62 o62 c62 r62 89:=.mk_ Tryd.f62 rfl
def c63:ACode :=
 (sq_ [pr_ 1 (.boxr (.tmp 0)),
 pr_ 2 mf_]
 (.seq (sq_ [pr_ 5 (fa_ 1 1),
 pr_ 6 (lf_ 1 5),
 c1_ 7 65 6,
 pr_ 8 (no_ 7)]
 (.cond (.tmp 8)
 (sq_ [pr_ 2 mf_]
 .ret)
 .skip))
 (.seq (sq_ [pr_ 9 (lt_ 3 1),
 c1_ 10 73 9]
 (.cond (.tmp 10)
 (sq_ [pr_ 12 (fa_ 2 1),
 pr_ 13 (lf_ 1 12),
 c1_ 14 74 13,
 mv_ 11 14,
 pr_ 15 (ex_ 0 11),
 pr_ 16 (ex_ 1 11),
 ⟨some 3,none,.fresh 6 3 (.tmp 15)⟩,
 mv_ 4 16]
 (sq_ [mv_ 17 4,
 mv_ 2 17]
 .ret))
 .skip))
 (sq_ [pr_ 18 (fa_ 0 1),
 pr_ 19 (lf_ 1 18),
 pr_ 20 (bk_ .eql 19 .i64 1),
 mv_ 21 20,
 gp_ 22 21 false (fa_ 0 1),
 gp_ 23 21 false (lf_ 1 22),
 gp_ 24 21 false (bk_ .eql 23 .i64 2),
 pr_ 25 (po_ 21 24),
 mv_ 26 25,
 gp_ 27 26 true (fa_ 2 1),
 gp_ 28 26 true (lf_ 1 27),
 gp_ 29 26 true (.lens (.tmp 28)),
 gp_ 30 26 true (bk_ .leq 29 .i64 24),
 pr_ 31 (pa_ 26 30),
 mv_ 2 31]
 .ret))))
def o63:List Tmp:=[]
def r63:List RV:=[.tmp 2]
theorem t63:Text Tryd.prog 63 o63 c63 r63 32:=.mk_ Tryd.f63 rfl
def c64:ACode :=
 (sq_ [pr_ 2 (.boxr (.tmp 0)),
 pr_ 3 (.boxr (.tmp 1)),
 pr_ 4 (mi_ .i64 0)]
 (.seq (.draw [⟨pr_ 5 (fa_ 1 2),[],false,0,0⟩,
 ⟨pr_ 6 (lf_ 1 5),[0],false,0,0⟩,
 ⟨pr_ 7 (fa_ 1 3),[],false,0,0⟩,
 ⟨pr_ 8 (lf_ 1 7),[2],false,0,0⟩,
 ⟨cl_ 9 76 [(.tmp 6),(.tmp 8)],[0,1,2,3],true,0,0⟩,
 ⟨pr_ 10 (fa_ 0 2),[],false,0,1⟩,
 ⟨pr_ 11 (lf_ 1 10),[5],false,0,1⟩,
 ⟨pr_ 12 (fa_ 0 3),[],false,0,1⟩,
 ⟨pr_ 13 (lf_ 1 12),[7],false,0,1⟩,
 ⟨cl_ 14 77 [(.tmp 11),(.tmp 13)],(List.range 9),true,0,0⟩,
 ⟨pr_ 15 (fa_ 2 2),[],false,0,2⟩,
 ⟨pr_ 16 (lf_ 1 15),[10],false,0,2⟩,
 ⟨pr_ 17 (fa_ 2 3),[],false,0,2⟩,
 ⟨pr_ 18 (lf_ 1 17),[12],false,0,2⟩,
 ⟨cl_ 19 76 [(.tmp 16),(.tmp 18)],(List.range 14),true,0,0⟩,
 ⟨pr_ 20 (.bsl false 1 false 3 [.pl (.int .i64 0)] [(0,1,(.tmp 9)),(1,1,(.tmp 14)),(2,1,(.tmp 19))]),(List.range 15),false,3,3⟩,
 ⟨c1_ 21 75 20,(List.range 16),true,0,0⟩,
 ⟨mv_ 4 21,(List.range 17),false,4,4⟩])
 .ret))
def o64:List Tmp:=[]
def r64:List RV:=[.tmp 4]
theorem t64:Text Tryd.prog 64 o64 c64 r64 22:=.mk_ Tryd.f64 rfl
def c65:ACode :=
 (sq_ [pr_ 2 mf_]
 (.seq (sq_ [mv_ 4 0,
 pr_ 5 (.lens (.tmp 4)),
 pr_ 6 (bk_ .lss 5 .i64 1),
 mv_ 7 6,
 gp_ 8 7 false (mo_ 0),
 gp_ 9 7 false (.lens (.tmp 8)),
 gp_ 10 7 false (bk_ .gtr 9 .i64 12),
 pr_ 11 (po_ 7 10),
 mv_ 12 11,
 gp_ 13 12 false (mo_ 0),
 gp_ 14 12 false (.idxs (.tmp 13) (.const (.int .i64 0))),
 gc_ 15 12 false 78 [(.tmp 14)],
 gp_ 16 12 false (no_ 15),
 pr_ 17 (po_ 12 16)]
 (.cond (.tmp 17)
 (sq_ [pr_ 2 mf_]
 .ret)
 .skip))
 (.seq (sq_ [mv_ 18 0,
 pr_ 19 (.lens (.tmp 18)),
 pr_ 20 (mi_ .i64 0)]
 (.block 0 (.loop [1,2,3,4,5,6,7,8,9,10,11,12,13,14,15,16,17,18,21,22,23,24,25,26,27,28,29,30,31,32,33,34,35,36,37,38,39,40] (sq_ [pr_ 21 (bt_ .lss 20 19)]
 (.seq (.cond (.tmp 21)
 .skip
 (.exit 0))
 (.seq (.block 1 (sq_ [mv_ 22 20,
 mv_ 3 22]
 (sq_ [mv_ 23 0,
 mv_ 24 3,
 pr_ 25 (.idxs (.tmp 23) (.tmp 24)),
 c1_ 26 78 25,
 pr_ 27 (no_ 26),
 mv_ 28 27,
 gp_ 29 28 true (mo_ 0),
 gp_ 30 28 true (mo_ 3),
 gp_ 31 28 true (.idxs (.tmp 29) (.tmp 30)),
 gp_ 32 28 true (bk_ .lss 31 .u8 48),
 gp_ 33 28 true (mo_ 32),
 gp_ 34 33 false (mo_ 0),
 gp_ 35 33 false (mo_ 3),
 gp_ 36 33 false (.idxs (.tmp 34) (.tmp 35)),
 gp_ 37 33 false (bk_ .gtr 36 .u8 57),
 gp_ 38 28 true (po_ 33 37),
 pr_ 39 (pa_ 28 38)]
 (.cond (.tmp 39)
 (sq_ [pr_ 2 mf_]
 .ret)
 .skip))))
 (.ops [pr_ 40 (bk_ .add 20 .i64 1),
 mv_ 20 40])))))))
 (sq_ [pr_ 2 mt_]
 .ret))))
def o65:List Tmp:=[]
def r65:List RV:=[.tmp 2]
theorem t65:Text Tryd.prog 65 o65 c65 r65 41:=.mk_ Tryd.f65 rfl
def c66:ACode :=
 (sq_ [pr_ 2 mf_]
 (sq_ [mv_ 3 0,
 pr_ 4 (.lens (.tmp 3)),
 pr_ 5 (bk_ .geq 4 .i64 1),
 mv_ 6 5,
 gp_ 7 6 true (mo_ 0),
 gp_ 8 6 true (.lens (.tmp 7)),
 gp_ 9 6 true (bk_ .leq 8 .i64 24),
 pr_ 10 (pa_ 6 9),
 mv_ 2 10]
 .ret))
def o66:List Tmp:=[]
def r66:List RV:=[.tmp 2]
theorem t66:Text Tryd.prog 66 o66 c66 r66 11:=.mk_ Tryd.f66 rfl
def c67:ACode :=
 (sq_ [pr_ 2 mf_]
 (sq_ [mv_ 3 0,
 mv_ 4 0,
 pr_ 5 (bt_ .neq 3 4),
 mv_ 2 5]
 .ret))
def o67:List Tmp:=[]
def r67:List RV:=[.tmp 2]
theorem t67:Text Tryd.prog 67 o67 c67 r67 6:=.mk_ Tryd.f67 rfl
def c69:ACode :=
 (sq_ [pr_ 1 (.boxr (.tmp 0)),
 pr_ 2 mf_]
 (sq_ [pr_ 3 (fa_ 0 1),
 pr_ 4 (lf_ 1 3),
 pr_ 5 (no_ 4),
 mv_ 6 5,
 gp_ 7 6 true (fa_ 1 1),
 gp_ 8 6 true (lf_ 1 7),
 gc_ 9 6 true 71 [(.tmp 8)],
 pr_ 10 (pa_ 6 9),
 mv_ 11 10,
 gp_ 12 11 true (fa_ 2 1),
 gp_ 13 11 true (lf_ 1 12),
 gc_ 14 11 true 71 [(.tmp 13)],
 pr_ 15 (pa_ 11 14),
 mv_ 2 15]
 .ret))
def o69:List Tmp:=[]
def r69:List RV:=[.tmp 2]
theorem t69:Text Tryd.prog 69 o69 c69 r69 16:=.mk_ Tryd.f69 rfl
def c70:ACode :=
 (sq_ [pr_ 1 (.boxr (.tmp 0)),
 pr_ 2 mf_]
 (sq_ [pr_ 3 (fa_ 0 1),
 pr_ 4 (lf_ 1 3),
 pr_ 5 (.lenv (.tmp 4)),
 pr_ 6 (bk_ .eql 5 .i64 0),
 mv_ 7 6,
 gp_ 8 7 true (fa_ 1 1),
 gp_ 9 7 true (lf_ 1 8),
 gp_ 10 7 true (.lenv (.tmp 9)),
 gp_ 11 7 true (bk_ .eql 10 .i64 0),
 pr_ 12 (pa_ 7 11),
 mv_ 13 12,
 gp_ 14 13 true (fa_ 5 1),
 gp_ 15 13 true (lf_ 1 14),
 gp_ 16 13 true (.lenv (.tmp 15)),
 gp_ 17 13 true (bk_ .eql 16 .i64 0),
 pr_ 18 (pa_ 13 17),
 mv_ 19 18,
 gp_ 20 19 true (fa_ 2 1),
 gp_ 21 19 true (lt_ 3 20),
 gc_ 22 19 true 69 [(.tmp 21)],
 pr_ 23 (pa_ 19 22),
 mv_ 2 23]
 .ret))
def o70:List Tmp:=[]
def r70:List RV:=[.tmp 2]
theorem t70:Text Tryd.prog 70 o70 c70 r70 24:=.mk_ Tryd.f70 rfl
def c71:ACode :=
 (sq_ [pr_ 2 mf_]
 (sq_ [mv_ 3 0,
 c1_ 4 59 3,
 pr_ 5 (bk_ .eql 4 .u64 0),
 mv_ 2 5]
 .ret))
def o71:List Tmp:=[]
def r71:List RV:=[.tmp 2]
theorem t71:Text Tryd.prog 71 o71 c71 r71 6:=.mk_ Tryd.f71 rfl
def c72:ACode :=
 (sq_ [pr_ 2 mf_]
 (sq_ [mv_ 3 0,
 pr_ 4 (.lens (.tmp 3)),
 pr_ 5 (bk_ .geq 4 .i64 4),
 mv_ 6 5,
 gp_ 7 6 true (mo_ 0),
 gp_ 8 6 true (.lens (.tmp 7)),
 gp_ 9 6 true (bk_ .leq 8 .i64 16),
 pr_ 10 (pa_ 6 9),
 mv_ 2 10]
 .ret))
def o72:List Tmp:=[]
def r72:List RV:=[.tmp 2]
theorem t72:Text Tryd.prog 72 o72 c72 r72 11:=.mk_ Tryd.f72 rfl
def c73:ACode :=
 (sq_ [pr_ 1 (.boxr (.tmp 0)),
 pr_ 2 mf_]
 (sq_ [pr_ 3 (fa_ 0 1),
 pr_ 4 (lf_ 1 3),
 pr_ 5 (bk_ .eql 4 .i64 3),
 mv_ 6 5,
 gp_ 7 6 false (fa_ 0 1),
 gp_ 8 6 false (lf_ 1 7),
 gp_ 9 6 false (bk_ .eql 8 .i64 4),
 pr_ 10 (po_ 6 9),
 mv_ 2 10]
 .ret))
def o73:List Tmp:=[]
def r73:List RV:=[.tmp 2]
theorem t73:Text Tryd.prog 73 o73 c73 r73 11:=.mk_ Tryd.f73 rfl
def c74:ACode :=
 (sq_ [pr_ 2 (.allocm z6_),
 pr_ 3 mf_]
 (sq_ [mv_ 6 0,
 mv_ 7 0,
 pr_ 8 (.lens (.tmp 7)),
 pr_ 9 (bk_ .gtr 8 .i64 40),
 pr_ 10 (.build [.pl (.string .empty),.pl (.int .i64 0),.pl (.bool false)] [(0,1,(.tmp 6)),(2,1,(.tmp 9))]),
 pr_ 11 (.boxm (.tmp 10)),
 mv_ 4 11]
 (sq_ [mv_ 12 4,
 cl_ 13 79 [(.tmp 12),(.const (.int .i64 0))],
 ⟨some 5,none,.fresh 6 5 (.tmp 13)⟩]
 (.seq (sq_ [mv_ 14 4,
 pr_ 15 (nc_ 14),
 pr_ 16 (fa_ 2 15),
 pr_ 17 (lf_ 1 16),
 mv_ 18 17,
 gp_ 19 18 false (mo_ 4),
 gp_ 20 18 false (nc_ 19),
 gp_ 21 18 false (fa_ 1 20),
 gp_ 22 18 false (lf_ 1 21),
 gp_ 23 18 false (mo_ 0),
 gp_ 24 18 false (.lens (.tmp 23)),
 gp_ 25 18 false (bt_ .lss 22 24),
 pr_ 26 (po_ 18 25)]
 (.cond (.tmp 26)
 (sq_ [pr_ 27 (.build z6_ []),
 st_ (so_ 6 2 27),
 pr_ 3 mf_]
 .ret)
 .skip))
 (sq_ [pr_ 28 (lt_ 6 5),
 st_ (so_ 6 2 28),
 pr_ 3 mt_]
 .ret)))))
def o74:List Tmp:=[2,11]
def r74:List RV:=[.cell 2 6 true,.tmp 3]
theorem t74:Text Tryd.prog 74 o74 c74 r74 29:=.mk_ Tryd.f74 rfl
def c75:ACode :=
 (sq_ [pr_ 2 (mi_ .i64 0)]
 (sq_ [pr_ 3 (mi_ .i64 0)]
 (.seq (sq_ [mv_ 6 0,
 pr_ 7 (.lenv (.tmp 6)),
 pr_ 8 (mi_ .i64 0)]
 (.block 0 (.loop [0,1,2,4,5,9,10,11,12,13,14,15,16,17] (sq_ [pr_ 9 (bt_ .lss 8 7)]
 (.seq (.cond (.tmp 9)
 .skip
 (.exit 0))
 (.seq (.block 1 (sq_ [pr_ 10 (.iadrs 1 (.tmp 6) (.tmp 8)),
 pr_ 11 (lf_ 1 10),
 mv_ 5 11]
 (sq_ [mv_ 12 5,
 mv_ 13 3,
 pr_ 14 (bt_ .neq 12 13)]
 (.cond (.tmp 14)
 (sq_ [mv_ 15 5,
 mv_ 2 15]
 .ret)
 .skip))))
 (.ops [pr_ 16 (bk_ .add 8 .i64 1),
 mv_ 8 16])))))))
 (sq_ [mv_ 17 3,
 mv_ 2 17]
 .ret))))
def o75:List Tmp:=[]
def r75:List RV:=[.tmp 2]
theorem t75:Text Tryd.prog 75 o75 c75 r75 18:=.mk_ Tryd.f75 rfl
def c76:ACode :=
 (sq_ [pr_ 4 (mi_ .i64 0)]
 (sq_ [mv_ 5 0,
 mv_ 6 1,
 cl_ 7 80 [(.tmp 5),(.tmp 6)],
 mv_ 4 7]
 .ret))
def o76:List Tmp:=[]
def r76:List RV:=[.tmp 4]
theorem t76:Text Tryd.prog 76 o76 c76 r76 8:=.mk_ Tryd.f76 rfl
def c77:ACode :=
 (sq_ [pr_ 4 (mi_ .i64 0)]
 (sq_ [mv_ 7 0,
 c1_ 8 81 7,
 mv_ 5 8]
 (sq_ [mv_ 9 1,
 c1_ 10 81 9,
 mv_ 6 10]
 (.seq (sq_ [mv_ 11 5]
 (.cond (.tmp 11)
 (.seq (sq_ [mv_ 12 6]
 (.cond (.tmp 12)
 (sq_ [pr_ 4 (mi_ .i64 0)]
 .ret)
 .skip))
 (sq_ [pr_ 4 (.mov (.const (.int .i64 (-1))))]
 .ret))
 .skip))
 (.seq (sq_ [mv_ 13 6]
 (.cond (.tmp 13)
 (sq_ [pr_ 4 (mi_ .i64 1)]
 .ret)
 .skip))
 (.seq (sq_ [mv_ 14 0,
 mv_ 15 1,
 pr_ 16 (bt_ .lss 14 15)]
 (.cond (.tmp 16)
 (sq_ [pr_ 4 (.mov (.const (.int .i64 (-1))))]
 .ret)
 .skip))
 (.seq (sq_ [mv_ 17 0,
 mv_ 18 1,
 pr_ 19 (bt_ .gtr 17 18)]
 (.cond (.tmp 19)
 (sq_ [pr_ 4 (mi_ .i64 1)]
 .ret)
 .skip))
 (sq_ [pr_ 4 (mi_ .i64 0)]
 .ret))))))))
def o77:List Tmp:=[]
def r77:List RV:=[.tmp 4]
theorem t77:Text Tryd.prog 77 o77 c77 r77 20:=.mk_ Tryd.f77 rfl
def c78:ACode :=
 (sq_ [pr_ 2 mf_]
 (sq_ [mv_ 3 0,
 pr_ 4 (bk_ .geq 3 .u8 97),
 mv_ 5 4,
 gp_ 6 5 true (mo_ 0),
 gp_ 7 5 true (bk_ .leq 6 .u8 122),
 pr_ 8 (pa_ 5 7),
 mv_ 9 8,
 gp_ 10 9 false (mo_ 0),
 gp_ 11 9 false (bk_ .geq 10 .u8 65),
 gp_ 12 9 false (mo_ 11),
 gp_ 13 12 true (mo_ 0),
 gp_ 14 12 true (bk_ .leq 13 .u8 90),
 gp_ 15 9 false (pa_ 12 14),
 pr_ 16 (po_ 9 15),
 mv_ 17 16,
 gp_ 18 17 false (mo_ 0),
 gp_ 19 17 false (bk_ .eql 18 .u8 95),
 pr_ 20 (po_ 17 19),
 mv_ 2 20]
 .ret))
def o78:List Tmp:=[]
def r78:List RV:=[.tmp 2]
theorem t78:Text Tryd.prog 78 o78 c78 r78 21:=.mk_ Tryd.f78 rfl
def c79:ACode :=
 (sq_ [pr_ 4 (.allocm z6_)]
 (sq_ [mv_ 6 0,
 mv_ 7 1,
 cl_ 8 82 [(.tmp 6),(.tmp 7)],
 pr_ 9 (.bsl true 6 true 1 z6_ [(0,6,(.tmp 8))]),
 mv_ 5 9]
 (.seq (.block 0 (.loop [2,3,6,7,8,9,10,11,12,13,14,15,16,17,18,19,20,21,22,23,24,25] (.seq (sq_ [mv_ 10 0,
 cl_ 11 83 [(.tmp 10),(.const (.int .u8 124))]]
 (.cond (.tmp 11)
 .skip
 (.exit 0)))
 (.block 1 (.ops [mv_ 12 5,
 mv_ 13 0,
 mv_ 14 1,
 cl_ 15 82 [(.tmp 13),(.tmp 14)],
 pr_ 16 (.bsl false 6 true 1 z6_ [(0,6,(.tmp 15))]),
 pr_ 17 (.app 6 (.tmp 12) (.tmp 16)),
 mv_ 5 17])))))
 (.seq (sq_ [mv_ 18 5,
 pr_ 19 (.lenv (.tmp 18)),
 pr_ 20 (bk_ .eql 19 .i64 1)]
 (.cond (.tmp 20)
 (sq_ [mv_ 21 5,
 pr_ 22 (.iadrs 6 (.tmp 21) (.const (.int .i64 0))),
 pr_ 23 (lt_ 6 22),
 st_ (so_ 6 4 23)]
 .ret)
 .skip))
 (.seq (.ghost (.shut 5) (.ops [mv_ 24 5,
 pr_ 25 (.build z6_ [(0,1,(.const (.int .i64 3))),(5,1,(.tmp 24))]),
 st_ (so_ 6 4 25)]))
 .ret)))))
def o79:List Tmp:=[4,9]
def r79:List RV:=[.cell 4 6 true]
theorem t79:Text Tryd.prog 79 o79 c79 r79 26:=.mk_ Tryd.f79 rfl
def c80:ACode :=
 (sq_ [pr_ 4 (mi_ .i64 0)]
 (sq_ [mv_ 5 0,
 mv_ 6 1,
 cl_ 7 84 [(.tmp 5),(.tmp 6)],
 mv_ 4 7]
 .ret))
def o80:List Tmp:=[]
def r80:List RV:=[.tmp 4]
theorem t80:Text Tryd.prog 80 o80 c80 r80 8:=.mk_ Tryd.f80 rfl
def c81:ACode :=
 (sq_ [pr_ 2 mf_]
 (sq_ [mv_ 3 0,
 mv_ 4 0,
 pr_ 5 (bt_ .neq 3 4),
 mv_ 2 5]
 .ret))
def o81:List Tmp:=[]
def r81:List RV:=[.tmp 2]
theorem t81:Text Tryd.prog 81 o81 c81 r81 6:=.mk_ Tryd.f81 rfl
def c82:ACode :=
 (sq_ [pr_ 4 (.allocm z6_)]
 (sq_ [pr_ 5 (.mov (.const (.slice none 0 0)))]
 (.seq (.block 0 (.loop [2,3,6,7,8,9,10,11,12,13,14,15,16,17,18,19,20,21,22,23,24,25,26,27,28,29,30,31,32] (.seq (sq_ [mv_ 6 0,
 c1_ 7 85 6,
 pr_ 8 (no_ 7),
 mv_ 9 8,
 gp_ 10 9 true (mo_ 0),
 gc_ 11 9 true 86 [(.tmp 10),(.const (.int .u8 124))],
 gp_ 12 9 true (no_ 11),
 pr_ 13 (pa_ 9 12),
 mv_ 14 13,
 gp_ 15 14 true (mo_ 0),
 gc_ 16 14 true 86 [(.tmp 15),(.const (.int .u8 41))],
 gp_ 17 14 true (no_ 16),
 pr_ 18 (pa_ 14 17)]
 (.cond (.tmp 18)
 .skip
 (.exit 0)))
 (.block 1 (.ops [mv_ 19 5,
 mv_ 20 0,
 mv_ 21 1,
 cl_ 22 87 [(.tmp 20),(.tmp 21)],
 pr_ 23 (.bsl false 6 true 1 z6_ [(0,6,(.tmp 22))]),
 pr_ 24 (.app 6 (.tmp 19) (.tmp 23)),
 mv_ 5 24])))))
 (.seq (sq_ [mv_ 25 5,
 pr_ 26 (.lenv (.tmp 25)),
 pr_ 27 (bk_ .eql 26 .i64 1)]
 (.cond (.tmp 27)
 (sq_ [mv_ 28 5,
 pr_ 29 (.iadrs 6 (.tmp 28) (.const (.int .i64 0))),
 pr_ 30 (lt_ 6 29),
 st_ (so_ 6 4 30)]
 .ret)
 .skip))
 (.seq (.ghost (.shut 5) (.ops [mv_ 31 5,
 pr_ 32 (.build z6_ [(0,1,(.const (.int .i64 2))),(5,1,(.tmp 31))]),
 st_ (so_ 6 4 32)]))
 .ret)))))
def o82:List Tmp:=[4]
def r82:List RV:=[.cell 4 6 true]
theorem t82:Text Tryd.prog 82 o82 c82 r82 33:=.mk_ Tryd.f82 rfl
def c83:ACode :=
 (sq_ [pr_ 4 mf_]
 (.seq (sq_ [mv_ 5 0,
 mv_ 6 1,
 cl_ 7 86 [(.tmp 5),(.tmp 6)],
 pr_ 8 (no_ 7)]
 (.cond (.tmp 8)
 (sq_ [pr_ 4 mf_]
 .ret)
 .skip))
 (sq_ [mv_ 9 0,
 pr_ 10 (nc_ 9),
 pr_ 11 (fa_ 1 10),
 pr_ 12 (lf_ 1 11),
 pr_ 13 (bk_ .add 12 .i64 1),
 pr_ 14 (nc_ 9),
 pr_ 15 (fa_ 1 14),
 st_ (so_ 1 15 13)]
 (sq_ [pr_ 4 mt_]
 .ret))))
def o83:List Tmp:=[]
def r83:List RV:=[.tmp 4]
theorem t83:Text Tryd.prog 83 o83 c83 r83 16:=.mk_ Tryd.f83 rfl
def c85:ACode :=
 (sq_ [pr_ 2 mf_]
 (.seq (.draw [⟨mv_ 3 0,[],false,0,0⟩,
 ⟨pr_ 4 (nc_ 3),[0],false,0,0⟩,
 ⟨pr_ 5 (fa_ 2 4),[0,1],false,0,0⟩,
 ⟨pr_ 6 (lf_ 1 5),[0,1,2],false,0,0⟩,
 ⟨mv_ 7 6,[0,1,2,3],false,0,0⟩,
 ⟨gp_ 8 7 false (mo_ 0),[0,1,2,3,4],false,0,0⟩,
 ⟨gp_ 9 7 false (nc_ 8),(List.range 6),false,0,0⟩,
 ⟨gp_ 10 7 false (fa_ 1 9),(List.range 7),false,0,0⟩,
 ⟨gp_ 11 7 false (lf_ 1 10),(List.range 8),false,0,0⟩,
 ⟨gp_ 12 7 false (mo_ 0),[0,1,2,3,4],false,0,0⟩,
 ⟨gp_ 13 7 false (nc_ 12),[0,1,2,3,4,9],false,0,0⟩,
 ⟨gp_ 14 7 false (fa_ 0 13),[0,1,2,3,4,9,10],false,0,0⟩,
 ⟨gp_ 15 7 false (lf_ 1 14),[0,1,2,3,4,9,10,11],false,0,0⟩,
 ⟨gp_ 16 7 false (.lens (.tmp 15)),[0,1,2,3,4,9,10,11,12],false,0,0⟩,
 ⟨gp_ 17 7 false (bt_ .geq 11 16),(List.range 14),false,0,0⟩,
 ⟨pr_ 18 (po_ 7 17),(List.range 15),false,0,0⟩,
 ⟨mv_ 2 18,(List.range 16),false,0,0⟩])
 .ret))
def o85:List Tmp:=[]
def r85:List RV:=[.tmp 2]
theorem t85:Text Tryd.prog 85 o85 c85 r85 19:=.mk_ Tryd.f85 rfl
def c86:ACode :=
 (sq_ [pr_ 4 mf_]
 (.seq (.draw [⟨mv_ 5 0,[],false,0,0⟩,
 ⟨c1_ 6 85 5,[0],true,0,0⟩,
 ⟨pr_ 7 (no_ 6),[0,1],false,1,1⟩,
 ⟨mv_ 8 7,[0,1,2],false,1,1⟩,
 ⟨gp_ 9 8 true (mo_ 0),[0,1,2,3],false,1,1⟩,
 ⟨gp_ 10 8 true (nc_ 9),[0,1,2,3,4],false,1,1⟩,
 ⟨gp_ 11 8 true (fa_ 0 10),(List.range 6),false,1,1⟩,
 ⟨gp_ 12 8 true (lf_ 1 11),(List.range 7),false,1,1⟩,
 ⟨gp_ 13 8 true (mo_ 0),[0,1,2,3],false,1,1⟩,
 ⟨gp_ 14 8 true (nc_ 13),[0,1,2,3,8],false,1,1⟩,
 ⟨gp_ 15 8 true (fa_ 1 14),[0,1,2,3,8,9],false,1,1⟩,
 ⟨gp_ 16 8 true (lf_ 1 15),[0,1,2,3,8,9,10],false,1,1⟩,
 ⟨gp_ 17 8 true (.idxs (.tmp 12) (.tmp 16)),(List.range 12),false,1,1⟩,
 ⟨gp_ 18 8 true (mo_ 1),[0,1,2,3],false,1,1⟩,
 ⟨gp_ 19 8 true (bt_ .eql 17 18),(List.range 14),false,1,1⟩,
 ⟨pr_ 20 (pa_ 8 19),(List.range 15),false,1,1⟩,
 ⟨mv_ 4 20,(List.range 16),false,1,1⟩])
 .ret))
def o86:List Tmp:=[]
def r86:List RV:=[.tmp 4]
theorem t86:Text Tryd.prog 86 o86 c86 r86 21:=.mk_ Tryd.f86 rfl
def c87:ACode :=
 (sq_ [pr_ 4 (.allocm z6_)]
 (sq_ [mv_ 6 0,
 mv_ 7 1,
 cl_ 8 88 [(.tmp 6),(.tmp 7)],
 ⟨some 5,none,.fresh 6 5 (.tmp 8)⟩]
 (.seq (.block 0 (sq_ [mv_ 10 0,
 cl_ 11 83 [(.tmp 10),(.const (.int .u8 42))],
 mv_ 9 11]
 (.cond (.tmp 9)
 (sq_ [pr_ 12 (lt_ 6 5),
 pr_ 13 (.bsl false 6 true 1 z6_ [(0,6,(.tmp 12))]),
 pr_ 14 (.build z6_ [(0,1,(.const (.int .i64 4))),(5,1,(.tmp 13))]),
 st_ (so_ 6 4 14)]
 .ret)
 (sq_ [mv_ 16 0,
 cl_ 17 83 [(.tmp 16),(.const (.int .u8 43))],
 mv_ 15 17]
 (.cond (.tmp 15)
 (sq_ [pr_ 18 (lt_ 6 5),
 pr_ 19 (.bsl false 6 true 1 z6_ [(0,6,(.tmp 18))]),
 pr_ 20 (.build z6_ [(0,1,(.const (.int .i64 5))),(5,1,(.tmp 19))]),
 st_ (so_ 6 4 20)]
 .ret)
 (sq_ [mv_ 22 0,
 cl_ 23 83 [(.tmp 22),(.const (.int .u8 63))],
 mv_ 21 23]
 (.cond (.tmp 21)
 (sq_ [pr_ 24 (lt_ 6 5),
 pr_ 25 (.bsl false 6 true 1 z6_ [(0,6,(.tmp 24))]),
 pr_ 26 (.build z6_ [(0,1,(.const (.int .i64 6))),(5,1,(.tmp 25))]),
 st_ (so_ 6 4 26)]
 .ret)
 .skip)))))))
 (sq_ [pr_ 27 (lt_ 6 5),
 st_ (so_ 6 4 27)]
 .ret))))
def o87:List Tmp:=[4]
def r87:List RV:=[.cell 4 6 true]
theorem t87:Text Tryd.prog 87 o87 c87 r87 28:=.mk_ Tryd.f87 rfl
def c88:ACode :=
 (sq_ [pr_ 4 (.allocm z6_)]
 (sq_ [pr_ 7 (.build z6_ [(0,1,(.const (.int .i64 1)))]),
 pr_ 5 (.allocm z6_),
 st_ (so_ 6 5 7)]
 (.seq (sq_ [mv_ 8 0,
 c1_ 9 89 8,
 mv_ 6 9]
 (sq_ [mv_ 10 6]
 (.block 0 (sq_ [pr_ 27 (bk_ .eql 10 .u8 40),
 mv_ 26 27]
 (.cond (.tmp 26)
 (sq_ [mv_ 28 0,
 mv_ 29 0,
 pr_ 30 (nc_ 29),
 pr_ 31 (fa_ 2 30),
 pr_ 32 (lf_ 1 31),
 mv_ 33 32,
 gp_ 34 33 false (mo_ 1),
 gp_ 35 33 false (bk_ .eql 34 .i64 8),
 pr_ 36 (po_ 33 35),
 pr_ 37 (nc_ 28),
 pr_ 38 (fa_ 2 37),
 st_ (so_ 1 38 36)]
 (.seq (sq_ [mv_ 39 0,
 pr_ 40 (nc_ 39),
 pr_ 41 (fa_ 2 40),
 pr_ 42 (lf_ 1 41),
 pr_ 43 (no_ 42)]
 (.cond (.tmp 43)
 (.ops [mv_ 44 0,
 mv_ 45 1,
 pr_ 46 (bk_ .add 45 .i64 1),
 cl_ 47 79 [(.tmp 44),(.tmp 46)],
 st_ (so_ 6 5 47)])
 .skip))
 (.ops [mv_ 48 0,
 mv_ 49 0,
 cl_ 50 83 [(.tmp 49),(.const (.int .u8 41))],
 pr_ 51 (no_ 50),
 mv_ 52 51,
 gp_ 53 52 false (mo_ 0),
 gp_ 54 52 false (nc_ 53),
 gp_ 55 52 false (fa_ 2 54),
 gp_ 56 52 false (lf_ 1 55),
 pr_ 57 (po_ 52 56),
 pr_ 58 (nc_ 48),
 pr_ 59 (fa_ 2 58),
 st_ (so_ 1 59 57)])))
 (sq_ [pr_ 61 (bk_ .eql 10 .u8 91),
 mv_ 60 61]
 (.cond (.tmp 60)
 (.ops [mv_ 62 0,
 c1_ 63 90 62,
 pr_ 64 (fa_ 1 5),
 st_ (so_ 4 64 63)])
 (sq_ [pr_ 66 (bk_ .eql 10 .u8 46),
 mv_ 65 66]
 (.cond (.tmp 65)
 (.ops [pr_ 67 (fa_ 1 5),
 pr_ 68 (lt_ 4 67),
 c1_ 69 91 68,
 pr_ 70 (fa_ 1 5),
 st_ (so_ 4 70 69)])
 (sq_ [pr_ 72 (bk_ .eql 10 .u8 92),
 mv_ 71 72]
 (.cond (.tmp 71)
 (.ops [pr_ 73 (fa_ 1 5),
 mv_ 74 0,
 c1_ 75 93 74,
 cl_ 76 92 [(.tmp 73),(.tmp 75)]])
 (sq_ [mv_ 11 0,
 mv_ 12 0,
 pr_ 13 (nc_ 12),
 pr_ 14 (fa_ 2 13),
 pr_ 15 (lf_ 1 14),
 mv_ 16 15,
 gp_ 17 16 false (mo_ 6),
 gc_ 18 16 false 94 [(.const (.string (ByteArray.mk #[42,43,63,93]))),(.tmp 17)],
 gp_ 19 16 false (bk_ .geq 18 .i64 0),
 pr_ 20 (po_ 16 19),
 pr_ 21 (nc_ 11),
 pr_ 22 (fa_ 2 21),
 st_ (so_ 1 22 20)]
 (.ops [pr_ 23 (fa_ 1 5),
 mv_ 24 6,
 cl_ 25 92 [(.tmp 23),(.tmp 24)]])))))))))))))
 (sq_ [pr_ 77 (lt_ 6 5),
 st_ (so_ 6 4 77)]
 .ret))))
def o88:List Tmp:=[4,5]
def r88:List RV:=[.cell 4 6 true]
theorem t88:Text Tryd.prog 88 o88 c88 r88 78:=.mk_ Tryd.f88 rfl
def c89:ACode :=
 (sq_ [pr_ 2 (mi_ .u8 0)]
 (.seq (sq_ [mv_ 3 0,
 c1_ 4 85 3]
 (.cond (.tmp 4)
 (sq_ [mv_ 5 0,
 pr_ 6 (nc_ 5),
 pr_ 7 (fa_ 2 6),
 st_ (.store 1 (.tmp 7) (.const (.bool true)))]
 (sq_ [pr_ 2 (mi_ .u8 0)]
 .ret))
 .skip))
 (sq_ [mv_ 8 0,
 pr_ 9 (nc_ 8),
 pr_ 10 (fa_ 1 9),
 pr_ 11 (lf_ 1 10),
 pr_ 12 (bk_ .add 11 .i64 1),
 pr_ 13 (nc_ 8),
 pr_ 14 (fa_ 1 13),
 st_ (so_ 1 14 12)]
 (.seq (.draw [⟨mv_ 15 0,[],false,0,0⟩,
 ⟨pr_ 16 (nc_ 15),[0],false,0,0⟩,
 ⟨pr_ 17 (fa_ 0 16),[0,1],false,0,0⟩,
 ⟨pr_ 18 (lf_ 1 17),[0,1,2],false,0,0⟩,
 ⟨mv_ 19 0,[],false,0,0⟩,
 ⟨pr_ 20 (nc_ 19),[4],false,0,0⟩,
 ⟨pr_ 21 (fa_ 1 20),[4,5],false,0,0⟩,
 ⟨pr_ 22 (lf_ 1 21),[4,5,6],false,0,0⟩,
 ⟨pr_ 23 (bk_ .sub 22 .i64 1),[4,5,6,7],false,0,0⟩,
 ⟨pr_ 24 (.idxs (.tmp 18) (.tmp 23)),(List.range 9),false,0,0⟩,
 ⟨mv_ 2 24,(List.range 10),false,0,0⟩])
 .ret))))
def o89:List Tmp:=[]
def r89:List RV:=[.tmp 2]
theorem t89:Text Tryd.prog 89 o89 c89 r89 25:=.mk_ Tryd.f89 rfl
def c90:ACode :=
 (sq_ [pr_ 2 (.allocm [.pl (.int .u64 0),.pl (.int .u64 0),.pl (.int .u64 0),.pl (.int .u64 0)])]
 (sq_ [pr_ 3 (.allocm [.pl (.int .u64 0),.pl (.int .u64 0),.pl (.int .u64 0),.pl (.int .u64 0)])]
 (sq_ [mv_ 9 0,
 cl_ 10 83 [(.tmp 9),(.const (.int .u8 94))],
 mv_ 4 10]
 (.seq (sq_ [pr_ 5 mt_]
 (.block 0 (.loop [1,6,7,8,9,10,11,12,13,14,15,16,17,18,19,20,21,22,23,24,25,26,27,28,29,30,31,32,33,34,35,36,37,38,39,40,41,42,43,44,45,46,47,48,49,50,51,52,53,54,55,56,57,58,59,60,61,62,63,64,65,66,67] (.seq (sq_ [mv_ 11 5,
 mv_ 12 11,
 gp_ 13 12 false (mo_ 0),
 gc_ 14 12 false 85 [(.tmp 13)],
 gp_ 15 12 false (no_ 14),
 gp_ 16 12 false (mo_ 15),
 gp_ 17 16 true (mo_ 0),
 gc_ 18 16 true 86 [(.tmp 17),(.const (.int .u8 93))],
 gp_ 19 16 true (no_ 18),
 gp_ 20 12 false (pa_ 16 19),
 pr_ 21 (po_ 12 20)]
 (.cond (.tmp 21)
 .skip
 (.exit 0)))
 (.seq (.block 1 (sq_ [mv_ 22 0,
 c1_ 23 95 22,
 mv_ 6 23]
 (sq_ [mv_ 24 6,
 mv_ 7 24]
 (.seq (sq_ [mv_ 25 0,
 cl_ 26 83 [(.tmp 25),(.const (.int .u8 45))]]
 (.cond (.tmp 26)
 (.ops [mv_ 27 0,
 c1_ 28 95 27,
 mv_ 7 28])
 .skip))
 (sq_ [mv_ 29 0,
 mv_ 30 0,
 pr_ 31 (nc_ 30),
 pr_ 32 (fa_ 2 31),
 pr_ 33 (lf_ 1 32),
 mv_ 34 33,
 gp_ 35 34 false (mo_ 7),
 gp_ 36 34 false (mo_ 6),
 gp_ 37 34 false (bt_ .lss 35 36),
 pr_ 38 (po_ 34 37),
 pr_ 39 (nc_ 29),
 pr_ 40 (fa_ 2 39),
 st_ (so_ 1 40 38)]
 (sq_ [mv_ 41 6,
 pr_ 42 (.convi .i64 (.tmp 41)),
 mv_ 8 42]
 (.block 2 (.loop [1,5,6,9,10,11,12,13,14,15,16,17,18,19,20,21,22,23,24,25,26,27,28,29,30,31,32,33,34,35,36,37,38,39,40,41,42,43,44,45,46,47,48,49,50,51,52,53,54,55,56,57,58,59,60,61,62,63,64,65,66,67] (.seq (sq_ [mv_ 43 8,
 mv_ 44 7,
 pr_ 45 (.convi .i64 (.tmp 44)),
 pr_ 46 (bt_ .leq 43 45)]
 (.cond (.tmp 46)
 .skip
 (.exit 2)))
 (.seq (.block 3 (.ops [mv_ 49 8,
 pr_ 50 (.convi .u8 (.tmp 49)),
 cl_ 51 92 [(.tmp 3),(.tmp 50)]]))
 (.ops [mv_ 47 8,
 pr_ 48 (bk_ .add 47 .i64 1),
 mv_ 8 48])))))))))))
 (.ops [pr_ 5 mf_]))))))
 (sq_ [mv_ 52 0,
 mv_ 53 0,
 cl_ 54 83 [(.tmp 53),(.const (.int .u8 93))],
 pr_ 55 (no_ 54),
 mv_ 56 55,
 gp_ 57 56 false (mo_ 0),
 gp_ 58 56 false (nc_ 57),
 gp_ 59 56 false (fa_ 2 58),
 gp_ 60 56 false (lf_ 1 59),
 pr_ 61 (po_ 56 60),
 pr_ 62 (nc_ 52),
 pr_ 63 (fa_ 2 62),
 st_ (so_ 1 63 61)]
 (.seq (sq_ [mv_ 64 4]
 (.cond (.tmp 64)
 (sq_ [pr_ 65 (lt_ 4 3),
 c1_ 66 91 65,
 st_ (so_ 4 2 66)]
 .ret)
 .skip))
 (sq_ [pr_ 67 (lt_ 4 3),
 st_ (so_ 4 2 67)]
 .ret)))))))
def o90:List Tmp:=[2,3]
def r90:List RV:=[.cell 2 4 true]
theorem t90:Text Tryd.prog 90 o90 c90 r90 68:=.mk_ Tryd.f90 rfl
def c91:ACode :=
 (sq_ [pr_ 1 (.boxm (.tmp 0)),
 pr_ 2 (.allocm [.pl (.int .u64 0),.pl (.int .u64 0),.pl (.int .u64 0),.pl (.int .u64 0)])]
 (.seq (sq_ [pr_ 4 (mi_ .i64 0)]
 (.block 0 (.loop [0,3,5,6,7,8,9,10,11,12,13,14] (sq_ [pr_ 5 (bk_ .lss 4 .i64 4)]
 (.seq (.cond (.tmp 5)
 .skip
 (.exit 0))
 (.seq (.block 1 (sq_ [mv_ 6 4,
 mv_ 3 6]
 (.ops [mv_ 7 3,
 mv_ 8 3,
 pr_ 9 (.iadra 1 4 (.tmp 1) (.tmp 8)),
 pr_ 10 (lf_ 1 9),
 pr_ 11 (.un .xor (.tmp 10)),
 pr_ 12 (.iadra 1 4 (.tmp 1) (.tmp 7)),
 st_ (so_ 1 12 11)])))
 (.ops [pr_ 13 (bk_ .add 4 .i64 1),
 mv_ 4 13])))))))
 (sq_ [pr_ 14 (lt_ 4 1),
 st_ (so_ 4 2 14)]
 .ret)))
def o91:List Tmp:=[1,2]
def r91:List RV:=[.cell 2 4 true]
theorem t91:Text Tryd.prog 91 o91 c91 r91 15:=.mk_ Tryd.f91 rfl
def c92:ACode :=
 (.draw [⟨mv_ 4 0,[],false,0,0⟩,
 ⟨mv_ 5 1,[],false,0,0⟩,
 ⟨pr_ 6 (bk_ .quo 5 .u8 64),[1],false,0,0⟩,
 ⟨pr_ 7 (nc_ 4),[0],false,0,0⟩,
 ⟨pr_ 8 (.iadra 1 4 (.tmp 7) (.tmp 6)),[0,1,2,3],false,0,0⟩,
 ⟨pr_ 9 (lf_ 1 8),[0,1,2,3,4],false,0,0⟩,
 ⟨mv_ 10 1,[],false,0,0⟩,
 ⟨pr_ 11 (bk_ .rem 10 .u8 64),[6],false,0,0⟩,
 ⟨pr_ 12 (.bin false .shl (.const (.int .u64 1)) (.tmp 11)),[6,7],false,0,0⟩,
 ⟨pr_ 13 (bt_ .or 9 12),(List.range 9),false,0,0⟩,
 ⟨pr_ 14 (nc_ 4),[0],false,0,0⟩,
 ⟨pr_ 15 (.iadra 1 4 (.tmp 14) (.tmp 6)),(List.range 11),false,0,0⟩,
 ⟨st_ (so_ 1 15 13),(List.range 12),true,0,0⟩])
def o92:List Tmp:=[]
def r92:List RV:=[]
theorem t92:Text Tryd.prog 92 o92 c92 r92 16:=.mk_ Tryd.f92 rfl
def c93:ACode :=
 (sq_ [pr_ 2 (mi_ .u8 0)]
 (sq_ [mv_ 4 0,
 c1_ 5 89 4,
 mv_ 3 5]
 (sq_ [mv_ 6 0,
 mv_ 7 0,
 pr_ 8 (nc_ 7),
 pr_ 9 (fa_ 2 8),
 pr_ 10 (lf_ 1 9),
 mv_ 11 10,
 gp_ 12 11 false (mo_ 3),
 gc_ 13 11 false 94 [(.const (.string (ByteArray.mk #[124,42,43,63,40,41,91,93,46,92,94,45]))),(.tmp 12)],
 gp_ 14 11 false (bk_ .lss 13 .i64 0),
 pr_ 15 (po_ 11 14),
 pr_ 16 (nc_ 6),
 pr_ 17 (fa_ 2 16),
 st_ (so_ 1 17 15)]
 (sq_ [mv_ 18 3,
 mv_ 2 18]
 .ret))))
def o93:List Tmp:=[]
def r93:List RV:=[.tmp 2]
theorem t93:Text Tryd.prog 93 o93 c93 r93 19:=.mk_ Tryd.f93 rfl
def c94:ACode :=
 (sq_ [pr_ 4 (mi_ .i64 0)]
 (sq_ [mv_ 5 0,
 mv_ 6 1,
 cl_ 7 96 [(.tmp 5),(.tmp 6)],
 mv_ 4 7]
 .ret))
def o94:List Tmp:=[]
def r94:List RV:=[.tmp 4]
theorem t94:Text Tryd.prog 94 o94 c94 r94 8:=.mk_ Tryd.f94 rfl
def c95:ACode :=
 (sq_ [pr_ 2 (mi_ .u8 0)]
 (sq_ [mv_ 4 0,
 c1_ 5 89 4,
 mv_ 3 5]
 (.seq (sq_ [mv_ 6 3,
 pr_ 7 (bk_ .eql 6 .u8 92)]
 (.cond (.tmp 7)
 (sq_ [mv_ 8 0,
 c1_ 9 93 8,
 mv_ 2 9]
 .ret)
 .skip))
 (sq_ [mv_ 10 0,
 mv_ 11 0,
 pr_ 12 (nc_ 11),
 pr_ 13 (fa_ 2 12),
 pr_ 14 (lf_ 1 13),
 mv_ 15 14,
 gp_ 16 15 false (mo_ 3),
 gc_ 17 15 false 94 [(.const (.string (ByteArray.mk #[92,93,91,94,45]))),(.tmp 16)],
 gp_ 18 15 false (bk_ .geq 17 .i64 0),
 pr_ 19 (po_ 15 18),
 pr_ 20 (nc_ 10),
 pr_ 21 (fa_ 2 20),
 st_ (so_ 1 21 19)]
 (sq_ [mv_ 22 3,
 mv_ 2 22]
 .ret)))))
def o95:List Tmp:=[]
def r95:List RV:=[.tmp 2]
theorem t95:Text Tryd.prog 95 o95 c95 r95 23:=.mk_ Tryd.f95 rfl
def c96:ACode :=
 (sq_ [pr_ 4 (mi_ .i64 0)]
 (sq_ [mv_ 5 0,
 mv_ 6 1,
 cl_ 7 97 [(.tmp 5),(.tmp 6)],
 mv_ 4 7]
 .ret))
def o96:List Tmp:=[]
def r96:List RV:=[.tmp 4]
theorem t96:Text Tryd.prog 96 o96 c96 r96 8:=.mk_ Tryd.f96 rfl
end Go.Proofs.YteakobbdgehlgaaDoor
