/- What the functions do, over abstract values: printed by a program, checked by the kernel. No condition. -/
import Derived.Test.YtmkmhhjkdaklbaaGreatProg
import Derived.Test.YtmkmhhjkdaklbaaGreatAbSteps
import Derived.Test.YtmkmhhjkdaklbaaGreatAbSXs
import Derived.Test.YtmkmhhjkdaklbaaGreatAbArgs
set_option linter.unusedSimpArgs false
set_option linter.unusedVariables false
set_option linter.unusedSectionVars false
namespace Go.Proofs.YtmkmhhjkdaklbaaGreat
open Go Go.Ab
set_option maxRecDepth 100000
def c79:ACode :=
 (sq_ [pr_ 4 (.mov (.const (.slice none 0 0)))]
 (sq_ [pr_ 5 (.mov (.const (.slice none 0 0)))]
 (.seq (sq_ [pr_ 6 (mi_ .i64 0)]
 (.block 0 (.loop [2,3,4,7,8,9,10,11,12,13,14,15,16,17,18,19,20,21,22,23,24,25,26,27,28,29,30,31,32,33,34,35,36,37,38,39,40,41,42,43,44,45,46,47,48,49,50,51,52,53,54,55,56,57,58,59,60,61,62,63,64,65,66,67,68,69,70,71,72] (.seq (sq_ [mv_ 9 6,
 mv_ 10 0,
 pr_ 11 (.lenv (.tmp 10)),
 pr_ 12 (bt_ .lss 9 11),
 mv_ 13 12,
 gp_ 14 13 true (mo_ 5),
 gp_ 15 13 true (.lenv (.tmp 14)),
 gp_ 16 13 true (bk_ .lss 15 .i64 5),
 pr_ 17 (pa_ 13 16)]
 (.cond (.tmp 17)
 .skip
 (.exit 0)))
 (.seq (.block 1 (.seq (.ghost (.weak 5 3) (.ops [mv_ 20 0,
 mv_ 21 6,
 pr_ 22 (.iadrs 3 (.tmp 20) (.tmp 21)),
 pr_ 23 (lt_ 3 22),
 c1_ 24 123 23,
 ⟨some 7,none,.fresh 3 7 (.tmp 24)⟩]))
 (sq_ [mv_ 25 5,
 pr_ 26 (.lenv (.tmp 25)),
 mv_ 8 26]
 (.seq (.block 2 (.loop [2,3,4,9,10,11,12,13,14,15,16,17,18,19,20,21,22,23,24,25,26,27,28,29,30,31,32,33,34,35,36,37,38,39,40,41,42,43,44,45,46,47,48,49,50,51,52,53,54,55,56,57,58,59,60,61,62,63,64,65,66,67,68,69,70,71,72] (.seq (.seq (.draw [⟨mv_ 27 8,[],false,0,0⟩,
 ⟨pr_ 28 (bk_ .gtr 27 .i64 0),[0],false,0,0⟩,
 ⟨mv_ 29 28,[0,1],false,0,0⟩,
 ⟨gp_ 30 29 true (lt_ 3 7),[0,1,2],false,0,0⟩,
 ⟨gp_ 31 29 true (mo_ 5),[0,1,2],false,0,0⟩,
 ⟨gp_ 32 29 true (mo_ 8),[0,1,2],false,0,0⟩,
 ⟨gp_ 33 29 true (bk_ .sub 32 .i64 1),[0,1,2,5],false,0,0⟩,
 ⟨gp_ 34 29 true (.iadrs 3 (.tmp 31) (.tmp 33)),[0,1,2,4,5,6],false,0,0⟩,
 ⟨gp_ 35 29 true (lt_ 3 34),[0,1,2,4,5,6,7],false,0,0⟩,
 ⟨gc_ 36 29 true 124 [(.tmp 30),(.tmp 35)],(List.range 9),true,0,0⟩,
 ⟨pr_ 37 (pa_ 29 36),(List.range 10),false,1,1⟩])
 (.cond (.tmp 37)
 .skip
 (.exit 2)))
 (.block 3 (.ops [mv_ 38 8,
 pr_ 39 (bk_ .sub 38 .i64 1),
 mv_ 8 39])))))
 (.seq (.seq (.draw [⟨mv_ 40 8,[],false,0,0⟩,
 ⟨pr_ 41 (bk_ .gtr 40 .i64 0),[0],false,0,0⟩,
 ⟨mv_ 42 41,[0,1],false,0,0⟩,
 ⟨gp_ 43 42 true (mo_ 5),[0,1,2],false,0,0⟩,
 ⟨gp_ 44 42 true (mo_ 8),[0,1,2],false,0,0⟩,
 ⟨gp_ 45 42 true (bk_ .sub 44 .i64 1),[0,1,2,4],false,0,0⟩,
 ⟨gp_ 46 42 true (.iadrs 3 (.tmp 43) (.tmp 45)),(List.range 6),false,0,0⟩,
 ⟨gp_ 47 42 true (lt_ 3 46),(List.range 7),false,0,0⟩,
 ⟨gp_ 48 42 true (lt_ 3 7),[0,1,2],false,0,0⟩,
 ⟨gp_ 49 42 true (.eqa false [.int,.str,.str] (.tmp 47) (.tmp 48)),(List.range 9),false,0,0⟩,
 ⟨pr_ 50 (pa_ 42 49),(List.range 10),false,0,0⟩])
 (.cond (.tmp 50)
 (.exit 1)
 .skip))
 (.after (.after (.after (.draw [⟨mv_ 51 5,[],false,0,0⟩,
 ⟨mv_ 52 8,[],false,0,0⟩,
 ⟨pr_ 53 (.slcv 3 (.tmp 51) none (some (.tmp 52))),[0,1],false,0,0⟩,
 ⟨pr_ 54 (.app 3 (.const (.slice none 0 0)) (.tmp 53)),[0,1,2],true,0,0⟩,
 ⟨pr_ 55 (lt_ 3 7),[],false,0,1⟩,
 ⟨pr_ 56 (.bsl false 3 true 1 [.pl (.int .i64 0),.pl (.string .empty),.pl (.string .empty)] [(0,3,(.tmp 55))]),[4],false,0,1⟩,
 ⟨pr_ 57 (.app 3 (.tmp 54) (.tmp 56)),(List.range 6),true,0,0⟩,
 ⟨mv_ 58 5,[],false,0,2⟩,
 ⟨mv_ 59 8,[],false,0,2⟩,
 ⟨pr_ 60 (.slcv 3 (.tmp 58) (some (.tmp 59)) none),[7,8],false,0,2⟩,
 ⟨pr_ 61 (.app 3 (.tmp 57) (.tmp 60)),(List.range 10),true,0,0⟩,
 ⟨mv_ 5 61,(List.range 11),false,3,3⟩]) (.shut 5)) (.clear [54,57,61])) (.keep 0)))))))
 (.ops [mv_ 18 6,
 pr_ 19 (bk_ .add 18 .i64 1),
 mv_ 6 19]))))))
 (.seq (sq_ [mv_ 62 1,
 mv_ 63 62,
 gp_ 64 63 true (mo_ 5),
 gp_ 65 63 true (.lenv (.tmp 64)),
 gp_ 66 63 true (bk_ .eql 65 .i64 0),
 pr_ 67 (pa_ 63 66)]
 (.cond (.tmp 67)
 (.ops [mv_ 68 5,
 pr_ 69 (.build [.pl (.int .i64 0),.pl (.string .empty),.pl (.string .empty)] [(0,1,(.const (.int .i64 1))),(1,1,(.const (.string (ByteArray.mk #[115,101,118])))),(2,1,(.const (.string (ByteArray.mk #[97]))))]),
 pr_ 70 (.bsl false 3 true 1 [.pl (.int .i64 0),.pl (.string .empty),.pl (.string .empty)] [(0,3,(.tmp 69))]),
 pr_ 71 (.app 3 (.tmp 68) (.tmp 70)),
 mv_ 5 71])
 .skip))
 (sq_ [mv_ 72 5,
 mv_ 4 72]
 (.ghost (.shut 4) .ret))))))
def o79:List Tmp:=[]
def r79:List RV:=[.tmp 4]
theorem t79:Text Tryz.prog 79 o79 c79 r79 73:=.mk_ Tryz.f79 rfl
def c81:ACode :=
 (sq_ [pr_ 2 (.mov (.const (.string (ByteArray.mk #[]))))]
 (sq_ [pr_ 3 (.build [.pl (.string .empty),.pl (.string .empty),.pl (.string .empty),.pl (.string .empty),.pl (.string .empty)] [(0,1,(.const (.string (ByteArray.mk #[115,101,118])))),(1,1,(.const (.string (ByteArray.mk #[106,111,98])))),(2,1,(.const (.string (ByteArray.mk #[104,111,115,116])))),(3,1,(.const (.string (ByteArray.mk #[95,120])))),(4,1,(.const (.string (ByteArray.mk #[90,111,110,101,57]))))]),
 mv_ 4 0,
 cl_ 5 99 [(.tmp 4),(.const (.int .i64 0)),(.const (.int .i64 4))],
 pr_ 6 (.idxa 1 5 false (.tmp 3) (.tmp 5)),
 mv_ 2 6]
 .ret))
def o81:List Tmp:=[]
def r81:List RV:=[.tmp 2]
theorem t81:Text Tryz.prog 81 o81 c81 r81 7:=.mk_ Tryz.f81 rfl
def c99:ACode :=
 (sq_ [pr_ 6 (mi_ .i64 0)]
 (.seq (sq_ [mv_ 7 0,
 mv_ 8 1,
 pr_ 9 (bt_ .geq 7 8),
 mv_ 10 9,
 gp_ 11 10 true (mo_ 0),
 gp_ 12 10 true (mo_ 2),
 gp_ 13 10 true (bt_ .leq 11 12),
 pr_ 14 (pa_ 10 13)]
 (.cond (.tmp 14)
 (sq_ [mv_ 15 0,
 mv_ 6 15]
 .ret)
 .skip))
 (sq_ [mv_ 16 0,
 mv_ 17 1,
 mv_ 18 2,
 cl_ 19 100 [(.tmp 16),(.tmp 17),(.tmp 18)],
 mv_ 6 19]
 .ret)))
def o99:List Tmp:=[]
def r99:List RV:=[.tmp 6]
theorem t99:Text Tryz.prog 99 o99 c99 r99 20:=.mk_ Tryz.f99 rfl
def c100:ACode :=
 (sq_ [pr_ 6 (mi_ .i64 0)]
 (sq_ [mv_ 7 0,
 mv_ 8 2,
 mv_ 9 1,
 pr_ 10 (bt_ .sub 8 9),
 pr_ 11 (bk_ .add 10 .i64 1),
 pr_ 12 (bt_ .rem 7 11),
 mv_ 0 12]
 (.seq (sq_ [mv_ 13 0,
 pr_ 14 (bk_ .lss 13 .i64 0)]
 (.cond (.tmp 14)
 (.ops [mv_ 15 0,
 mv_ 16 2,
 pr_ 17 (bt_ .add 15 16),
 mv_ 18 1,
 pr_ 19 (bt_ .sub 17 18),
 pr_ 20 (bk_ .add 19 .i64 1),
 mv_ 0 20])
 .skip))
 (sq_ [mv_ 21 1,
 mv_ 22 0,
 pr_ 23 (bt_ .add 21 22),
 mv_ 6 23]
 .ret))))
def o100:List Tmp:=[]
def r100:List RV:=[.tmp 6]
theorem t100:Text Tryz.prog 100 o100 c100 r100 24:=.mk_ Tryz.f100 rfl
def c101:ACode :=
 (sq_ [pr_ 2 (.mov (.const (.slice none 0 0)))]
 (.seq (.after (.ops [pr_ 3 (.mov (.const (.slice none 0 0)))]) (.own 3 2))
 (.seq (sq_ [pr_ 4 (mi_ .i64 0)]
 (.block 0 (.loop [1,2,5,6,7,8,9,10,11,12,13,14,15,16,17,18,19,20,21,22,23,24,25,26,27,28,29,30,31,32,33,34,35,36,37,38,39,40,41,42,43,44,45,46,47,48,49,50,51,52,53] (.seq (sq_ [mv_ 8 4,
 mv_ 9 0,
 pr_ 10 (.lenv (.tmp 9)),
 pr_ 11 (bt_ .lss 8 10),
 mv_ 12 11,
 gp_ 13 12 true (mo_ 4),
 gp_ 14 12 true (bk_ .lss 13 .i64 5),
 pr_ 15 (pa_ 12 14)]
 (.cond (.tmp 15)
 .skip
 (.exit 0)))
 (.seq (.block 1 (.seq (.draw [⟨mv_ 18 0,[],false,0,1⟩,
 ⟨mv_ 19 4,[],false,0,1⟩,
 ⟨pr_ 20 (.iadrs 1 (.tmp 18) (.tmp 19)),[0,1],false,0,1⟩,
 ⟨pr_ 21 (lf_ 1 20),[0,1,2],false,0,1⟩,
 ⟨cl_ 22 100 [(.tmp 21),(.const (.int .i64 0)),(.const (.int .i64 4))],[0,1,2,3],false,0,1⟩,
 ⟨c1_ 23 81 22,[0,1,2,3,4],false,0,1⟩,
 ⟨mv_ 24 0,[],false,0,1⟩,
 ⟨mv_ 25 4,[],false,0,1⟩,
 ⟨pr_ 26 (.iadrs 1 (.tmp 24) (.tmp 25)),[6,7],false,0,1⟩,
 ⟨pr_ 27 (lf_ 1 26),[6,7,8],false,0,1⟩,
 ⟨pr_ 28 (bk_ .quo 27 .i64 5),[6,7,8,9],false,0,1⟩,
 ⟨cl_ 29 100 [(.tmp 28),(.const (.int .i64 0)),(.const (.int .i64 6))],(List.range 11),false,0,1⟩,
 ⟨c1_ 30 133 29,(List.range 12),false,0,1⟩,
 ⟨pr_ 31 (.build [.pl (.string .empty),.pl (.string .empty)] [(0,1,(.tmp 23)),(1,1,(.tmp 30))]),(List.range 13),false,0,1⟩,
 ⟨pr_ 5 (.allocm [.pl (.string .empty),.pl (.string .empty)]),[],true,0,0⟩,
 ⟨st_ (so_ 2 5 31),(List.range 15),true,0,0⟩])
 (sq_ [mv_ 32 3,
 pr_ 33 (fa_ 0 5),
 pr_ 34 (lf_ 1 33),
 cl_ 35 134 [(.tmp 32),(.tmp 34)],
 pr_ 36 (.bin false .eql (.tmp 35) (.const (.string (ByteArray.mk #[]))))]
 (.cond (.tmp 36)
 (.ops [mv_ 37 3,
 pr_ 38 (lt_ 2 5),
 pr_ 39 (.bsl false 2 true 1 [.pl (.string .empty),.pl (.string .empty)] [(0,2,(.tmp 38))]),
 pr_ 40 (.app 2 (.tmp 37) (.tmp 39)),
 mv_ 3 40])
 .skip))))
 (.after (.after (.ops [mv_ 16 4,
 pr_ 17 (bk_ .add 16 .i64 1),
 mv_ 4 17]) (.clear [5,33])) (.keep 1)))))))
 (.seq (sq_ [mv_ 41 3,
 pr_ 42 (.lenv (.tmp 41)),
 pr_ 43 (bk_ .eql 42 .i64 0)]
 (.cond (.tmp 43)
 (.ops [mv_ 44 3,
 pr_ 45 (.build [.pl (.string .empty),.pl (.string .empty)] [(0,1,(.const (.string (ByteArray.mk #[115,101,118])))),(1,1,(.const (.string (ByteArray.mk #[97]))))]),
 pr_ 46 (.bsl false 2 true 1 [.pl (.string .empty),.pl (.string .empty)] [(0,2,(.tmp 45))]),
 pr_ 47 (.app 2 (.tmp 44) (.tmp 46)),
 mv_ 3 47])
 .skip))
 (.seq (.ghost (.shut 3) (.ops [mv_ 49 3,
 c1_ 50 135 49,
 mv_ 48 50,
 pr_ 51 (ex_ 0 48),
 pr_ 52 (ex_ 1 48),
 mv_ 6 51,
 mv_ 7 52]))
 (sq_ [mv_ 53 6,
 mv_ 2 53]
 (.ghost (.shut 2) .ret)))))))
def o101:List Tmp:=[]
def r101:List RV:=[.tmp 2]
theorem t101:Text Tryz.prog 101 o101 c101 r101 54:=.mk_ Tryz.f101 rfl
def c106:ACode :=
 (sq_ [pr_ 2 mf_]
 (.seq (sq_ [mv_ 5 0,
 pr_ 6 (.lenv (.tmp 5)),
 pr_ 7 (bk_ .gtr 6 .i64 5)]
 (.cond (.tmp 7)
 (sq_ [pr_ 2 mf_]
 .ret)
 .skip))
 (.seq (sq_ [mv_ 8 0,
 pr_ 9 (.lenv (.tmp 8)),
 pr_ 10 (mi_ .i64 0)]
 (.block 0 (.loop [1,2,3,4,5,6,7,11,12,13,14,15,16,17,18,19,20,21,22,23,24,25,26,27,28,29,30,31,32] (sq_ [pr_ 11 (bt_ .lss 10 9)]
 (.seq (.cond (.tmp 11)
 .skip
 (.exit 0))
 (.seq (.block 1 (sq_ [mv_ 12 10,
 pr_ 13 (.iadrs 3 (.tmp 8) (.tmp 10)),
 pr_ 14 (lt_ 3 13),
 pr_ 4 (.allocm [.pl (.int .i64 0),.pl (.string .empty),.pl (.string .empty)]),
 mv_ 3 12,
 st_ (so_ 3 4 14)]
 (.seq (.draw [⟨pr_ 15 (lt_ 3 4),[],false,0,0⟩,
 ⟨c1_ 16 142 15,[0],true,0,0⟩,
 ⟨pr_ 17 (no_ 16),[0,1],false,1,1⟩,
 ⟨mv_ 18 17,[0,1,2],false,1,1⟩,
 ⟨gp_ 19 18 false (mo_ 3),[0,1,2,3],false,1,1⟩,
 ⟨gp_ 20 18 false (bk_ .gtr 19 .i64 0),[0,1,2,3,4],false,1,1⟩,
 ⟨gp_ 21 18 false (mo_ 20),(List.range 6),false,1,1⟩,
 ⟨gp_ 22 21 true (mo_ 0),(List.range 7),false,1,1⟩,
 ⟨gp_ 23 21 true (mo_ 3),(List.range 7),false,1,1⟩,
 ⟨gp_ 24 21 true (bk_ .sub 23 .i64 1),[0,1,2,3,4,5,6,8],false,1,1⟩,
 ⟨gp_ 25 21 true (.iadrs 3 (.tmp 22) (.tmp 24)),(List.range 10),false,1,1⟩,
 ⟨gp_ 26 21 true (lt_ 3 25),(List.range 11),false,1,1⟩,
 ⟨gp_ 27 21 true (lt_ 3 4),(List.range 7),false,1,1⟩,
 ⟨gc_ 28 21 true 143 [(.tmp 26),(.tmp 27)],(List.range 13),true,0,0⟩,
 ⟨gp_ 29 21 true (bk_ .geq 28 .i64 0),(List.range 14),false,2,2⟩,
 ⟨gp_ 30 18 false (pa_ 21 29),(List.range 15),false,2,2⟩,
 ⟨pr_ 31 (po_ 18 30),(List.range 16),false,2,2⟩])
 (.cond (.tmp 31)
 (sq_ [pr_ 2 mf_]
 .ret)
 .skip))))
 (.after (.after (.ops [pr_ 32 (bk_ .add 10 .i64 1),
 mv_ 10 32]) (.clear [4])) (.keep 0))))))))
 (sq_ [pr_ 2 mt_]
 .ret))))
def o106:List Tmp:=[4]
def r106:List RV:=[.tmp 2]
theorem t106:Text Tryz.prog 106 o106 c106 r106 33:=.mk_ Tryz.f106 rfl
def c108:ACode :=
 (sq_ [pr_ 2 mf_]
 (.seq (sq_ [mv_ 4 0,
 pr_ 5 (.lens (.tmp 4)),
 pr_ 6 (bk_ .lss 5 .i64 1),
 mv_ 7 6,
 gp_ 8 7 false (mo_ 0),
 gp_ 9 7 false (.lens (.tmp 8)),
 gp_ 10 7 false (bk_ .gtr 9 .i64 12),
 pr_ 11 (po_ 7 10),
 mv_ 12 11,
 gp_ 13 12 false (mo_ 0),
 gp_ 14 12 false (.idxs (.tmp 13) (.const (.int .i64 0))),
 gc_ 15 12 false 144 [(.tmp 14)],
 gp_ 16 12 false (no_ 15),
 pr_ 17 (po_ 12 16)]
 (.cond (.tmp 17)
 (sq_ [pr_ 2 mf_]
 .ret)
 .skip))
 (.seq (sq_ [mv_ 18 0,
 pr_ 19 (.lens (.tmp 18)),
 pr_ 20 (mi_ .i64 0)]
 (.block 0 (.loop [1,2,3,4,5,6,7,8,9,10,11,12,13,14,15,16,17,18,21,22,23,24,25,26,27,28,29,30,31,32,33,34,35,36,37,38,39,40] (sq_ [pr_ 21 (bt_ .lss 20 19)]
 (.seq (.cond (.tmp 21)
 .skip
 (.exit 0))
 (.seq (.block 1 (sq_ [mv_ 22 20,
 mv_ 3 22]
 (sq_ [mv_ 23 0,
 mv_ 24 3,
 pr_ 25 (.idxs (.tmp 23) (.tmp 24)),
 c1_ 26 144 25,
 pr_ 27 (no_ 26),
 mv_ 28 27,
 gp_ 29 28 true (mo_ 0),
 gp_ 30 28 true (mo_ 3),
 gp_ 31 28 true (.idxs (.tmp 29) (.tmp 30)),
 gp_ 32 28 true (bk_ .lss 31 .u8 48),
 gp_ 33 28 true (mo_ 32),
 gp_ 34 33 false (mo_ 0),
 gp_ 35 33 false (mo_ 3),
 gp_ 36 33 false (.idxs (.tmp 34) (.tmp 35)),
 gp_ 37 33 false (bk_ .gtr 36 .u8 57),
 gp_ 38 28 true (po_ 33 37),
 pr_ 39 (pa_ 28 38)]
 (.cond (.tmp 39)
 (sq_ [pr_ 2 mf_]
 .ret)
 .skip))))
 (.ops [pr_ 40 (bk_ .add 20 .i64 1),
 mv_ 20 40])))))))
 (sq_ [pr_ 2 mt_]
 .ret))))
def o108:List Tmp:=[]
def r108:List RV:=[.tmp 2]
theorem t108:Text Tryz.prog 108 o108 c108 r108 41:=.mk_ Tryz.f108 rfl
def c121:ACode :=
 (sq_ [pr_ 2 mf_]
 (.seq (sq_ [pr_ 3 (mi_ .i64 0)]
 (.block 0 (.loop [1,2,4,5,6,7,8,9,10,11,12,13,14,15,16,17,18,19,20,21,22,23,24,25,26,27,28,29,30,31,32,33,34,35,36,37,38,39,40,41,42,43,44,45,46,47,48,49,50,51,52,53,54] (.seq (sq_ [mv_ 6 3,
 mv_ 7 0,
 pr_ 8 (.lens (.tmp 7)),
 pr_ 9 (bt_ .lss 6 8)]
 (.cond (.tmp 9)
 .skip
 (.exit 0)))
 (.seq (.block 1 (sq_ [mv_ 12 0,
 mv_ 13 3,
 pr_ 14 (.idxs (.tmp 12) (.tmp 13)),
 mv_ 4 14]
 (sq_ [mv_ 15 4,
 pr_ 16 (bk_ .geq 15 .u8 97),
 mv_ 17 16,
 gp_ 18 17 true (mo_ 4),
 gp_ 19 17 true (bk_ .leq 18 .u8 122),
 pr_ 20 (pa_ 17 19),
 mv_ 21 20,
 gp_ 22 21 false (mo_ 4),
 gp_ 23 21 false (bk_ .geq 22 .u8 65),
 gp_ 24 21 false (mo_ 23),
 gp_ 25 24 true (mo_ 4),
 gp_ 26 24 true (bk_ .leq 25 .u8 90),
 gp_ 27 21 false (pa_ 24 26),
 pr_ 28 (po_ 21 27),
 mv_ 29 28,
 gp_ 30 29 false (mo_ 4),
 gp_ 31 29 false (bk_ .eql 30 .u8 95),
 pr_ 32 (po_ 29 31),
 mv_ 5 32]
 (sq_ [mv_ 33 5,
 pr_ 34 (no_ 33),
 mv_ 35 34,
 gp_ 36 35 true (mo_ 3),
 gp_ 37 35 true (bk_ .eql 36 .i64 0),
 gp_ 38 35 true (mo_ 37),
 gp_ 39 38 false (mo_ 4),
 gp_ 40 38 false (bk_ .lss 39 .u8 48),
 gp_ 41 35 true (po_ 38 40),
 gp_ 42 35 true (mo_ 41),
 gp_ 43 42 false (mo_ 4),
 gp_ 44 42 false (bk_ .gtr 43 .u8 57),
 gp_ 45 35 true (po_ 42 44),
 pr_ 46 (pa_ 35 45)]
 (.cond (.tmp 46)
 (sq_ [pr_ 2 mf_]
 .ret)
 .skip)))))
 (.ops [mv_ 10 3,
 pr_ 11 (bk_ .add 10 .i64 1),
 mv_ 3 11]))))))
 (sq_ [mv_ 47 0,
 pr_ 48 (.lens (.tmp 47)),
 pr_ 49 (bk_ .geq 48 .i64 1),
 mv_ 50 49,
 gp_ 51 50 true (mo_ 0),
 gp_ 52 50 true (.lens (.tmp 51)),
 gp_ 53 50 true (bk_ .leq 52 .i64 12),
 pr_ 54 (pa_ 50 53),
 mv_ 2 54]
 .ret)))
def o121:List Tmp:=[]
def r121:List RV:=[.tmp 2]
theorem t121:Text Tryz.prog 121 o121 c121 r121 55:=.mk_ Tryz.f121 rfl
def c123:ACode :=
 (sq_ [pr_ 1 (.boxr (.tmp 0)),
 pr_ 2 (.allocm [.pl (.int .i64 0),.pl (.string .empty),.pl (.string .empty)])]
 (.seq (.draw [⟨pr_ 4 (fa_ 0 1),[],false,0,1⟩,
 ⟨pr_ 5 (lf_ 1 4),[0],false,0,1⟩,
 ⟨cl_ 6 99 [(.tmp 5),(.const (.int .i64 1)),(.const (.int .i64 4))],[0,1],false,0,1⟩,
 ⟨pr_ 7 (fa_ 1 1),[],false,0,1⟩,
 ⟨pr_ 8 (lf_ 1 7),[3],false,0,1⟩,
 ⟨c1_ 9 81 8,[0,1,2,3,4],false,0,1⟩,
 ⟨pr_ 10 (fa_ 2 1),[],false,0,1⟩,
 ⟨pr_ 11 (lf_ 1 10),[6],false,0,1⟩,
 ⟨c1_ 12 152 11,(List.range 8),false,0,1⟩,
 ⟨pr_ 13 (.build [.pl (.int .i64 0),.pl (.string .empty),.pl (.string .empty)] [(0,1,(.tmp 6)),(1,1,(.tmp 9)),(2,1,(.tmp 12))]),(List.range 9),false,0,1⟩,
 ⟨pr_ 3 (.allocm [.pl (.int .i64 0),.pl (.string .empty),.pl (.string .empty)]),[],true,0,0⟩,
 ⟨st_ (so_ 3 3 13),(List.range 11),true,0,0⟩])
 (.seq (sq_ [pr_ 14 (fa_ 0 3),
 pr_ 15 (lf_ 1 14),
 pr_ 16 (bk_ .lss 15 .i64 3)]
 (.cond (.tmp 16)
 (sq_ [pr_ 17 (fa_ 2 1),
 pr_ 18 (lf_ 1 17),
 c1_ 19 133 18,
 pr_ 20 (fa_ 2 3),
 st_ (so_ 1 20 19)]
 (sq_ [pr_ 21 (fa_ 2 1),
 pr_ 22 (lf_ 1 21),
 pr_ 23 (bk_ .lss 22 .i64 0)]
 (.cond (.tmp 23)
 (.ops [pr_ 24 (fa_ 2 3),
 st_ (.store 1 (.tmp 24) (.const (.string (ByteArray.mk #[]))))])
 .skip)))
 .skip))
 (sq_ [pr_ 25 (lt_ 3 3),
 st_ (so_ 3 2 25)]
 .ret))))
def o123:List Tmp:=[2,3]
def r123:List RV:=[.cell 2 3 true]
theorem t123:Text Tryz.prog 123 o123 c123 r123 26:=.mk_ Tryz.f123 rfl
def c124:ACode :=
 (sq_ [pr_ 2 (.boxr (.tmp 0)),
 pr_ 3 (.boxr (.tmp 1)),
 pr_ 4 mf_]
 (.seq (sq_ [pr_ 5 (fa_ 1 2),
 pr_ 6 (lf_ 1 5),
 pr_ 7 (fa_ 1 3),
 pr_ 8 (lf_ 1 7),
 pr_ 9 (bt_ .neq 6 8)]
 (.cond (.tmp 9)
 (sq_ [pr_ 10 (fa_ 1 2),
 pr_ 11 (lf_ 1 10),
 pr_ 12 (fa_ 1 3),
 pr_ 13 (lf_ 1 12),
 pr_ 14 (bt_ .lss 11 13),
 mv_ 4 14]
 .ret)
 .skip))
 (.seq (sq_ [pr_ 15 (fa_ 0 2),
 pr_ 16 (lf_ 1 15),
 pr_ 17 (fa_ 0 3),
 pr_ 18 (lf_ 1 17),
 pr_ 19 (bt_ .neq 16 18)]
 (.cond (.tmp 19)
 (sq_ [pr_ 20 (fa_ 0 2),
 pr_ 21 (lf_ 1 20),
 pr_ 22 (fa_ 0 3),
 pr_ 23 (lf_ 1 22),
 pr_ 24 (bt_ .lss 21 23),
 mv_ 4 24]
 .ret)
 .skip))
 (sq_ [pr_ 25 (fa_ 2 2),
 pr_ 26 (lf_ 1 25),
 pr_ 27 (fa_ 2 3),
 pr_ 28 (lf_ 1 27),
 pr_ 29 (bt_ .lss 26 28),
 mv_ 4 29]
 .ret))))
def o124:List Tmp:=[]
def r124:List RV:=[.tmp 4]
theorem t124:Text Tryz.prog 124 o124 c124 r124 30:=.mk_ Tryz.f124 rfl
def c130:ACode :=
 (sq_ [pr_ 2 mf_]
 (.seq (sq_ [mv_ 4 0,
 pr_ 5 (.lenv (.tmp 4)),
 pr_ 6 (bk_ .lss 5 .i64 1),
 mv_ 7 6,
 gp_ 8 7 false (mo_ 0),
 gp_ 9 7 false (.lenv (.tmp 8)),
 gp_ 10 7 false (bk_ .gtr 9 .i64 6),
 pr_ 11 (po_ 7 10)]
 (.cond (.tmp 11)
 (sq_ [pr_ 2 mf_]
 .ret)
 .skip))
 (.seq (sq_ [pr_ 3 (mi_ .i64 0)]
 (.block 0 (.loop [1,2,4,5,6,7,8,9,10,11,12,13,14,15,16,17,18,19,20,21,22,23,24,25,26,27,28,29,30,31,32,33,34,35,36,37,38,39,40,41,42,43,44,45,46,47,48,49,50,51] (.seq (sq_ [mv_ 12 3,
 mv_ 13 0,
 pr_ 14 (.lenv (.tmp 13)),
 pr_ 15 (bt_ .lss 12 14)]
 (.cond (.tmp 15)
 .skip
 (.exit 0)))
 (.seq (.block 1 (.seq (.draw [⟨mv_ 18 0,[],false,0,0⟩,
 ⟨mv_ 19 3,[],false,0,0⟩,
 ⟨pr_ 20 (.iadrs 2 (.tmp 18) (.tmp 19)),[0,1],false,0,0⟩,
 ⟨pr_ 21 (fa_ 0 20),[0,1,2],false,0,0⟩,
 ⟨pr_ 22 (lf_ 1 21),[0,1,2,3],false,0,0⟩,
 ⟨c1_ 23 121 22,[0,1,2,3,4],true,0,0⟩,
 ⟨pr_ 24 (no_ 23),(List.range 6),false,1,1⟩,
 ⟨mv_ 25 24,(List.range 7),false,1,1⟩,
 ⟨gp_ 26 25 false (mo_ 0),(List.range 8),false,1,1⟩,
 ⟨gp_ 27 25 false (mo_ 3),(List.range 8),false,1,1⟩,
 ⟨gp_ 28 25 false (.iadrs 2 (.tmp 26) (.tmp 27)),(List.range 10),false,1,1⟩,
 ⟨gp_ 29 25 false (fa_ 1 28),(List.range 11),false,1,1⟩,
 ⟨gp_ 30 25 false (lf_ 1 29),(List.range 12),false,1,1⟩,
 ⟨gc_ 31 25 false 156 [(.tmp 30)],(List.range 13),true,0,0⟩,
 ⟨gp_ 32 25 false (no_ 31),(List.range 14),false,2,2⟩,
 ⟨pr_ 33 (po_ 25 32),(List.range 15),false,2,2⟩,
 ⟨mv_ 34 33,(List.range 16),false,2,2⟩,
 ⟨gp_ 35 34 false (mo_ 3),(List.range 17),false,2,2⟩,
 ⟨gp_ 36 34 false (bk_ .gtr 35 .i64 0),(List.range 18),false,2,2⟩,
 ⟨gp_ 37 34 false (mo_ 36),(List.range 19),false,2,2⟩,
 ⟨gp_ 38 37 true (mo_ 0),(List.range 20),false,2,2⟩,
 ⟨gp_ 39 37 true (mo_ 3),(List.range 20),false,2,2⟩,
 ⟨gp_ 40 37 true (.iadrs 2 (.tmp 38) (.tmp 39)),(List.range 22),false,2,2⟩,
 ⟨gp_ 41 37 true (fa_ 0 40),(List.range 23),false,2,2⟩,
 ⟨gp_ 42 37 true (lf_ 1 41),(List.range 24),false,2,2⟩,
 ⟨gp_ 43 37 true (mo_ 0),(List.range 20),false,2,2⟩,
 ⟨gp_ 44 37 true (mo_ 3),(List.range 20),false,2,2⟩,
 ⟨gp_ 45 37 true (bk_ .sub 44 .i64 1),[0,1,2,3,4,5,6,7,8,9,10,11,12,13,14,15,16,17,18,19,26],false,2,2⟩,
 ⟨gp_ 46 37 true (.iadrs 2 (.tmp 43) (.tmp 45)),[0,1,2,3,4,5,6,7,8,9,10,11,12,13,14,15,16,17,18,19,25,26,27],false,2,2⟩,
 ⟨gp_ 47 37 true (fa_ 0 46),[0,1,2,3,4,5,6,7,8,9,10,11,12,13,14,15,16,17,18,19,25,26,27,28],false,2,2⟩,
 ⟨gp_ 48 37 true (lf_ 1 47),[0,1,2,3,4,5,6,7,8,9,10,11,12,13,14,15,16,17,18,19,25,26,27,28,29],false,2,2⟩,
 ⟨gp_ 49 37 true (bt_ .leq 42 48),(List.range 31),false,2,2⟩,
 ⟨gp_ 50 34 false (pa_ 37 49),(List.range 32),false,2,2⟩,
 ⟨pr_ 51 (po_ 34 50),(List.range 33),false,2,2⟩])
 (.cond (.tmp 51)
 (sq_ [pr_ 2 mf_]
 .ret)
 .skip)))
 (.ops [mv_ 16 3,
 pr_ 17 (bk_ .add 16 .i64 1),
 mv_ 3 17]))))))
 (sq_ [pr_ 2 mt_]
 .ret))))
def o130:List Tmp:=[]
def r130:List RV:=[.tmp 2]
theorem t130:Text Tryz.prog 130 o130 c130 r130 52:=.mk_ Tryz.f130 rfl
def c132:ACode :=
 (sq_ [pr_ 2 mf_]
 (sq_ [mv_ 3 0,
 mv_ 4 0,
 pr_ 5 (bt_ .neq 3 4),
 mv_ 2 5]
 .ret))
def o132:List Tmp:=[]
def r132:List RV:=[.tmp 2]
theorem t132:Text Tryz.prog 132 o132 c132 r132 6:=.mk_ Tryz.f132 rfl
def c133:ACode :=
 (sq_ [pr_ 2 (.mov (.const (.string (ByteArray.mk #[]))))]
 (sq_ [pr_ 3 (.build [.pl (.string .empty),.pl (.string .empty),.pl (.string .empty),.pl (.string .empty),.pl (.string .empty),.pl (.string .empty),.pl (.string .empty)] [(0,1,(.const (.string (ByteArray.mk #[97])))),(1,1,(.const (.string (ByteArray.mk #[98])))),(2,1,(.const (.string (ByteArray.mk #[99,114,105,116])))),(3,1,(.const (.string (ByteArray.mk #[119,97,114,110])))),(4,1,(.const (.string (ByteArray.mk #[97,98])))),(5,1,(.const (.string (ByteArray.mk #[0,255])))),(6,1,(.const (.string (ByteArray.mk #[97,98,97,98,97,98,97,98,97,98,97,98,97,98,97,98,97,98,97,98,97,98,97,98]))))]),
 mv_ 4 0,
 cl_ 5 99 [(.tmp 4),(.const (.int .i64 0)),(.const (.int .i64 6))],
 pr_ 6 (.idxa 1 7 false (.tmp 3) (.tmp 5)),
 mv_ 2 6]
 .ret))
def o133:List Tmp:=[]
def r133:List RV:=[.tmp 2]
theorem t133:Text Tryz.prog 133 o133 c133 r133 7:=.mk_ Tryz.f133 rfl
def c134:ACode :=
 (sq_ [pr_ 4 (.mov (.const (.string (ByteArray.mk #[]))))]
 (.seq (sq_ [pr_ 5 (mi_ .i64 0)]
 (.block 0 (.loop [2,3,4,6,7,8,9,10,11,12,13,14,15,16,17,18,19,20,21,22,23] (.seq (sq_ [mv_ 6 5,
 mv_ 7 0,
 pr_ 8 (.lenv (.tmp 7)),
 pr_ 9 (bt_ .lss 6 8)]
 (.cond (.tmp 9)
 .skip
 (.exit 0)))
 (.seq (.block 1 (sq_ [mv_ 12 0,
 mv_ 13 5,
 pr_ 14 (.iadrs 2 (.tmp 12) (.tmp 13)),
 pr_ 15 (fa_ 0 14),
 pr_ 16 (lf_ 1 15),
 mv_ 17 1,
 pr_ 18 (bt_ .eql 16 17)]
 (.cond (.tmp 18)
 (sq_ [mv_ 19 0,
 mv_ 20 5,
 pr_ 21 (.iadrs 2 (.tmp 19) (.tmp 20)),
 pr_ 22 (fa_ 1 21),
 pr_ 23 (lf_ 1 22),
 mv_ 4 23]
 .ret)
 .skip)))
 (.ops [mv_ 10 5,
 pr_ 11 (bk_ .add 10 .i64 1),
 mv_ 5 11]))))))
 (sq_ [pr_ 4 (.mov (.const (.string (ByteArray.mk #[]))))]
 .ret)))
def o134:List Tmp:=[]
def r134:List RV:=[.tmp 4]
theorem t134:Text Tryz.prog 134 o134 c134 r134 24:=.mk_ Tryz.f134 rfl
def c135:ACode :=
 (sq_ [pr_ 2 (.mov (.const (.slice none 0 0))),
 pr_ 3 mf_]
 (.seq (.after (.after (.after (.ops [pr_ 4 (.mov (.const (.slice none 0 0)))]) (.own 4 2)) (.shut 4)) (.keep 0))
 (.seq (sq_ [pr_ 5 (mi_ .i64 0)]
 (.block 0 (.loop [1,2,3,6,7,8,9,10,11,12,13,14,15,16,17,18,19,20,21,22,23,24,25,26,27,28,29,30,31,32,33,34,35,36,37,38,39,40,41,42,43,44,45,46,47,48,49,50] (.seq (sq_ [mv_ 7 5,
 mv_ 8 0,
 pr_ 9 (.lenv (.tmp 8)),
 pr_ 10 (bt_ .lss 7 9)]
 (.cond (.tmp 10)
 .skip
 (.exit 0)))
 (.seq (.block 1 (sq_ [mv_ 13 4,
 pr_ 14 (.lenv (.tmp 13)),
 mv_ 6 14]
 (.seq (.block 2 (.loop [1,2,3,7,8,9,10,11,12,13,14,15,16,17,18,19,20,21,22,23,24,25,26,27,28,29,30,31,32,33,34,35,36,37,38,39,40,41,42,43,44,45,46,47,48,49,50] (.seq (.seq (.draw [⟨mv_ 15 6,[],false,0,0⟩,
 ⟨pr_ 16 (bk_ .gtr 15 .i64 0),[0],false,0,0⟩,
 ⟨mv_ 17 16,[0,1],false,0,0⟩,
 ⟨gp_ 18 17 true (mo_ 0),[0,1,2],false,0,0⟩,
 ⟨gp_ 19 17 true (mo_ 5),[0,1,2],false,0,0⟩,
 ⟨gp_ 20 17 true (.iadrs 2 (.tmp 18) (.tmp 19)),[0,1,2,3,4],false,0,0⟩,
 ⟨gp_ 21 17 true (fa_ 0 20),(List.range 6),false,0,0⟩,
 ⟨gp_ 22 17 true (lf_ 1 21),(List.range 7),false,0,0⟩,
 ⟨gp_ 23 17 true (mo_ 4),[0,1,2],false,0,0⟩,
 ⟨gp_ 24 17 true (mo_ 6),[0,1,2],false,0,0⟩,
 ⟨gp_ 25 17 true (bk_ .sub 24 .i64 1),[0,1,2,9],false,0,0⟩,
 ⟨gp_ 26 17 true (.iadrs 2 (.tmp 23) (.tmp 25)),[0,1,2,8,9,10],false,0,0⟩,
 ⟨gp_ 27 17 true (fa_ 0 26),[0,1,2,8,9,10,11],false,0,0⟩,
 ⟨gp_ 28 17 true (lf_ 1 27),[0,1,2,8,9,10,11,12],false,0,0⟩,
 ⟨gp_ 29 17 true (bt_ .lss 22 28),(List.range 14),false,0,0⟩,
 ⟨pr_ 30 (pa_ 17 29),(List.range 15),false,0,0⟩])
 (.cond (.tmp 30)
 .skip
 (.exit 2)))
 (.block 3 (.ops [mv_ 31 6,
 pr_ 32 (bk_ .sub 31 .i64 1),
 mv_ 6 32])))))
 (.after (.after (.after (.draw [⟨mv_ 33 4,[],false,0,0⟩,
 ⟨mv_ 34 6,[],false,0,0⟩,
 ⟨pr_ 35 (.slcv 2 (.tmp 33) none (some (.tmp 34))),[0,1],false,0,0⟩,
 ⟨pr_ 36 (.app 2 (.const (.slice none 0 0)) (.tmp 35)),[0,1,2],true,0,0⟩,
 ⟨mv_ 37 0,[],false,0,1⟩,
 ⟨mv_ 38 5,[],false,0,1⟩,
 ⟨pr_ 39 (.iadrs 2 (.tmp 37) (.tmp 38)),[4,5],false,0,1⟩,
 ⟨pr_ 40 (lt_ 2 39),[4,5,6],false,0,1⟩,
 ⟨pr_ 41 (.bsl false 2 true 1 [.pl (.string .empty),.pl (.string .empty)] [(0,2,(.tmp 40))]),[4,5,6,7],false,0,1⟩,
 ⟨pr_ 42 (.app 2 (.tmp 36) (.tmp 41)),(List.range 9),true,0,0⟩,
 ⟨mv_ 43 4,[],false,0,2⟩,
 ⟨mv_ 44 6,[],false,0,2⟩,
 ⟨pr_ 45 (.slcv 2 (.tmp 43) (some (.tmp 44)) none),[10,11],false,0,2⟩,
 ⟨pr_ 46 (.app 2 (.tmp 42) (.tmp 45)),(List.range 13),true,0,0⟩,
 ⟨mv_ 4 46,(List.range 14),false,3,3⟩]) (.shut 4)) (.clear [36,42,46])) (.keep 0)))))
 (.ops [mv_ 11 5,
 pr_ 12 (bk_ .add 11 .i64 1),
 mv_ 5 12]))))))
 (.seq (sq_ [mv_ 47 4,
 c1_ 48 130 47,
 pr_ 49 (no_ 48)]
 (.cond (.tmp 49)
 (sq_ [pr_ 2 (.mov (.const (.slice none 0 0))),
 pr_ 3 mf_]
 (.ghost (.shut 2) .ret))
 .skip))
 (sq_ [mv_ 50 4,
 mv_ 2 50,
 pr_ 3 mt_]
 (.ghost (.shut 2) .ret))))))
def o135:List Tmp:=[]
def r135:List RV:=[.tmp 2,.tmp 3]
theorem t135:Text Tryz.prog 135 o135 c135 r135 51:=.mk_ Tryz.f135 rfl
def c142:ACode :=
 (sq_ [pr_ 1 (.boxr (.tmp 0)),
 pr_ 2 mf_]
 (.seq (sq_ [pr_ 5 (fa_ 1 1),
 pr_ 6 (lf_ 1 5),
 c1_ 7 108 6,
 pr_ 8 (no_ 7)]
 (.cond (.tmp 8)
 (sq_ [pr_ 2 mf_]
 .ret)
 .skip))
 (.seq (sq_ [pr_ 9 (lt_ 3 1),
 c1_ 10 159 9]
 (.cond (.tmp 10)
 (sq_ [pr_ 12 (fa_ 2 1),
 pr_ 13 (lf_ 1 12),
 c1_ 14 160 13,
 mv_ 11 14,
 pr_ 15 (ex_ 0 11),
 pr_ 16 (ex_ 1 11),
 ⟨some 3,none,.fresh 6 3 (.tmp 15)⟩,
 mv_ 4 16]
 (sq_ [mv_ 17 4,
 mv_ 2 17]
 .ret))
 .skip))
 (sq_ [pr_ 18 (fa_ 0 1),
 pr_ 19 (lf_ 1 18),
 pr_ 20 (bk_ .eql 19 .i64 1),
 mv_ 21 20,
 gp_ 22 21 false (fa_ 0 1),
 gp_ 23 21 false (lf_ 1 22),
 gp_ 24 21 false (bk_ .eql 23 .i64 2),
 pr_ 25 (po_ 21 24),
 mv_ 26 25,
 gp_ 27 26 true (fa_ 2 1),
 gp_ 28 26 true (lf_ 1 27),
 gp_ 29 26 true (.lens (.tmp 28)),
 gp_ 30 26 true (bk_ .leq 29 .i64 24),
 pr_ 31 (pa_ 26 30),
 mv_ 2 31]
 .ret))))
def o142:List Tmp:=[]
def r142:List RV:=[.tmp 2]
theorem t142:Text Tryz.prog 142 o142 c142 r142 32:=.mk_ Tryz.f142 rfl
def c143:ACode :=
 (sq_ [pr_ 2 (.boxr (.tmp 0)),
 pr_ 3 (.boxr (.tmp 1)),
 pr_ 4 (mi_ .i64 0)]
 (.seq (.draw [⟨pr_ 5 (fa_ 1 2),[],false,0,0⟩,
 ⟨pr_ 6 (lf_ 1 5),[0],false,0,0⟩,
 ⟨pr_ 7 (fa_ 1 3),[],false,0,0⟩,
 ⟨pr_ 8 (lf_ 1 7),[2],false,0,0⟩,
 ⟨cl_ 9 162 [(.tmp 6),(.tmp 8)],[0,1,2,3],true,0,0⟩,
 ⟨pr_ 10 (fa_ 0 2),[],false,0,1⟩,
 ⟨pr_ 11 (lf_ 1 10),[5],false,0,1⟩,
 ⟨pr_ 12 (fa_ 0 3),[],false,0,1⟩,
 ⟨pr_ 13 (lf_ 1 12),[7],false,0,1⟩,
 ⟨cl_ 14 163 [(.tmp 11),(.tmp 13)],(List.range 9),true,0,0⟩,
 ⟨pr_ 15 (fa_ 2 2),[],false,0,2⟩,
 ⟨pr_ 16 (lf_ 1 15),[10],false,0,2⟩,
 ⟨pr_ 17 (fa_ 2 3),[],false,0,2⟩,
 ⟨pr_ 18 (lf_ 1 17),[12],false,0,2⟩,
 ⟨cl_ 19 162 [(.tmp 16),(.tmp 18)],(List.range 14),true,0,0⟩,
 ⟨pr_ 20 (.bsl false 1 false 3 [.pl (.int .i64 0)] [(0,1,(.tmp 9)),(1,1,(.tmp 14)),(2,1,(.tmp 19))]),(List.range 15),false,3,3⟩,
 ⟨c1_ 21 161 20,(List.range 16),true,0,0⟩,
 ⟨mv_ 4 21,(List.range 17),false,4,4⟩])
 .ret))
def o143:List Tmp:=[]
def r143:List RV:=[.tmp 4]
theorem t143:Text Tryz.prog 143 o143 c143 r143 22:=.mk_ Tryz.f143 rfl
def c144:ACode :=
 (sq_ [pr_ 2 mf_]
 (sq_ [mv_ 3 0,
 pr_ 4 (bk_ .geq 3 .u8 97),
 mv_ 5 4,
 gp_ 6 5 true (mo_ 0),
 gp_ 7 5 true (bk_ .leq 6 .u8 122),
 pr_ 8 (pa_ 5 7),
 mv_ 9 8,
 gp_ 10 9 false (mo_ 0),
 gp_ 11 9 false (bk_ .geq 10 .u8 65),
 gp_ 12 9 false (mo_ 11),
 gp_ 13 12 true (mo_ 0),
 gp_ 14 12 true (bk_ .leq 13 .u8 90),
 gp_ 15 9 false (pa_ 12 14),
 pr_ 16 (po_ 9 15),
 mv_ 17 16,
 gp_ 18 17 false (mo_ 0),
 gp_ 19 17 false (bk_ .eql 18 .u8 95),
 pr_ 20 (po_ 17 19),
 mv_ 2 20]
 .ret))
def o144:List Tmp:=[]
def r144:List RV:=[.tmp 2]
theorem t144:Text Tryz.prog 144 o144 c144 r144 21:=.mk_ Tryz.f144 rfl
def c152:ACode :=
 (sq_ [pr_ 2 (.mov (.const (.string (ByteArray.mk #[]))))]
 (sq_ [pr_ 3 (.build [.pl (.string .empty),.pl (.string .empty),.pl (.string .empty),.pl (.string .empty),.pl (.string .empty),.pl (.string .empty),.pl (.string .empty),.pl (.string .empty),.pl (.string .empty)] [(0,1,(.const (.string (ByteArray.mk #[97,124,98])))),(1,1,(.const (.string (ByteArray.mk #[])))),(2,1,(.const (.string (ByteArray.mk #[40,99,114,105,116,124,119,97,114,110,41])))),(3,1,(.const (.string (ByteArray.mk #[91,97,45,99,93,43,46,42])))),(4,1,(.const (.string (ByteArray.mk #[46,43])))),(5,1,(.const (.string (ByteArray.mk #[40,97,98,41,42])))),(6,1,(.const (.string (ByteArray.mk #[97,63,98,63])))),(7,1,(.const (.string (ByteArray.mk #[91,94,97,93,42])))),(8,1,(.const (.string (ByteArray.mk #[97,42,97,42,97,42,97,42,97,42,97,42,97,42,97,42,97,42,97,42,97,42,97,42,97,42,97,42]))))]),
 mv_ 4 0,
 cl_ 5 99 [(.tmp 4),(.const (.int .i64 0)),(.const (.int .i64 8))],
 pr_ 6 (.idxa 1 9 false (.tmp 3) (.tmp 5)),
 mv_ 2 6]
 .ret))
def o152:List Tmp:=[]
def r152:List RV:=[.tmp 2]
theorem t152:Text Tryz.prog 152 o152 c152 r152 7:=.mk_ Tryz.f152 rfl
def c156:ACode :=
 (sq_ [pr_ 2 mf_]
 (sq_ [mv_ 3 0,
 pr_ 4 (.lens (.tmp 3)),
 pr_ 5 (bk_ .geq 4 .i64 1),
 mv_ 6 5,
 gp_ 7 6 true (mo_ 0),
 gp_ 8 6 true (.lens (.tmp 7)),
 gp_ 9 6 true (bk_ .leq 8 .i64 24),
 pr_ 10 (pa_ 6 9),
 mv_ 2 10]
 .ret))
def o156:List Tmp:=[]
def r156:List RV:=[.tmp 2]
theorem t156:Text Tryz.prog 156 o156 c156 r156 11:=.mk_ Tryz.f156 rfl
def c159:ACode :=
 (sq_ [pr_ 1 (.boxr (.tmp 0)),
 pr_ 2 mf_]
 (sq_ [pr_ 3 (fa_ 0 1),
 pr_ 4 (lf_ 1 3),
 pr_ 5 (bk_ .eql 4 .i64 3),
 mv_ 6 5,
 gp_ 7 6 false (fa_ 0 1),
 gp_ 8 6 false (lf_ 1 7),
 gp_ 9 6 false (bk_ .eql 8 .i64 4),
 pr_ 10 (po_ 6 9),
 mv_ 2 10]
 .ret))
def o159:List Tmp:=[]
def r159:List RV:=[.tmp 2]
theorem t159:Text Tryz.prog 159 o159 c159 r159 11:=.mk_ Tryz.f159 rfl
def c160:ACode :=
 (sq_ [pr_ 2 (.allocm z6_),
 pr_ 3 mf_]
 (sq_ [mv_ 6 0,
 mv_ 7 0,
 pr_ 8 (.lens (.tmp 7)),
 pr_ 9 (bk_ .gtr 8 .i64 40),
 pr_ 10 (.build [.pl (.string .empty),.pl (.int .i64 0),.pl (.bool false)] [(0,1,(.tmp 6)),(2,1,(.tmp 9))]),
 pr_ 11 (.boxm (.tmp 10)),
 mv_ 4 11]
 (sq_ [mv_ 12 4,
 cl_ 13 171 [(.tmp 12),(.const (.int .i64 0))],
 ⟨some 5,none,.fresh 6 5 (.tmp 13)⟩]
 (.seq (sq_ [mv_ 14 4,
 pr_ 15 (nc_ 14),
 pr_ 16 (fa_ 2 15),
 pr_ 17 (lf_ 1 16),
 mv_ 18 17,
 gp_ 19 18 false (mo_ 4),
 gp_ 20 18 false (nc_ 19),
 gp_ 21 18 false (fa_ 1 20),
 gp_ 22 18 false (lf_ 1 21),
 gp_ 23 18 false (mo_ 0),
 gp_ 24 18 false (.lens (.tmp 23)),
 gp_ 25 18 false (bt_ .lss 22 24),
 pr_ 26 (po_ 18 25)]
 (.cond (.tmp 26)
 (sq_ [pr_ 27 (.build z6_ []),
 st_ (so_ 6 2 27),
 pr_ 3 mf_]
 .ret)
 .skip))
 (sq_ [pr_ 28 (lt_ 6 5),
 st_ (so_ 6 2 28),
 pr_ 3 mt_]
 .ret)))))
def o160:List Tmp:=[2,11]
def r160:List RV:=[.cell 2 6 true,.tmp 3]
theorem t160:Text Tryz.prog 160 o160 c160 r160 29:=.mk_ Tryz.f160 rfl
def c161:ACode :=
 (sq_ [pr_ 2 (mi_ .i64 0)]
 (sq_ [pr_ 3 (mi_ .i64 0)]
 (.seq (sq_ [mv_ 6 0,
 pr_ 7 (.lenv (.tmp 6)),
 pr_ 8 (mi_ .i64 0)]
 (.block 0 (.loop [0,1,2,4,5,9,10,11,12,13,14,15,16,17] (sq_ [pr_ 9 (bt_ .lss 8 7)]
 (.seq (.cond (.tmp 9)
 .skip
 (.exit 0))
 (.seq (.block 1 (sq_ [pr_ 10 (.iadrs 1 (.tmp 6) (.tmp 8)),
 pr_ 11 (lf_ 1 10),
 mv_ 5 11]
 (sq_ [mv_ 12 5,
 mv_ 13 3,
 pr_ 14 (bt_ .neq 12 13)]
 (.cond (.tmp 14)
 (sq_ [mv_ 15 5,
 mv_ 2 15]
 .ret)
 .skip))))
 (.ops [pr_ 16 (bk_ .add 8 .i64 1),
 mv_ 8 16])))))))
 (sq_ [mv_ 17 3,
 mv_ 2 17]
 .ret))))
def o161:List Tmp:=[]
def r161:List RV:=[.tmp 2]
theorem t161:Text Tryz.prog 161 o161 c161 r161 18:=.mk_ Tryz.f161 rfl
def c162:ACode :=
 (sq_ [pr_ 4 (mi_ .i64 0)]
 (sq_ [mv_ 5 0,
 mv_ 6 1,
 cl_ 7 172 [(.tmp 5),(.tmp 6)],
 mv_ 4 7]
 .ret))
def o162:List Tmp:=[]
def r162:List RV:=[.tmp 4]
theorem t162:Text Tryz.prog 162 o162 c162 r162 8:=.mk_ Tryz.f162 rfl
def c163:ACode :=
 (sq_ [pr_ 4 (mi_ .i64 0)]
 (sq_ [mv_ 7 0,
 c1_ 8 173 7,
 mv_ 5 8]
 (sq_ [mv_ 9 1,
 c1_ 10 173 9,
 mv_ 6 10]
 (.seq (sq_ [mv_ 11 5]
 (.cond (.tmp 11)
 (.seq (sq_ [mv_ 12 6]
 (.cond (.tmp 12)
 (sq_ [pr_ 4 (mi_ .i64 0)]
 .ret)
 .skip))
 (sq_ [pr_ 4 (.mov (.const (.int .i64 (-1))))]
 .ret))
 .skip))
 (.seq (sq_ [mv_ 13 6]
 (.cond (.tmp 13)
 (sq_ [pr_ 4 (mi_ .i64 1)]
 .ret)
 .skip))
 (.seq (sq_ [mv_ 14 0,
 mv_ 15 1,
 pr_ 16 (bt_ .lss 14 15)]
 (.cond (.tmp 16)
 (sq_ [pr_ 4 (.mov (.const (.int .i64 (-1))))]
 .ret)
 .skip))
 (.seq (sq_ [mv_ 17 0,
 mv_ 18 1,
 pr_ 19 (bt_ .gtr 17 18)]
 (.cond (.tmp 19)
 (sq_ [pr_ 4 (mi_ .i64 1)]
 .ret)
 .skip))
 (sq_ [pr_ 4 (mi_ .i64 0)]
 .ret))))))))
def o163:List Tmp:=[]
def r163:List RV:=[.tmp 4]
theorem t163:Text Tryz.prog 163 o163 c163 r163 20:=.mk_ Tryz.f163 rfl
def c171:ACode :=
 (sq_ [pr_ 4 (.allocm z6_)]
 (sq_ [mv_ 6 0,
 mv_ 7 1,
 cl_ 8 181 [(.tmp 6),(.tmp 7)],
 pr_ 9 (.bsl true 6 true 1 z6_ [(0,6,(.tmp 8))]),
 mv_ 5 9]
 (.seq (.block 0 (.loop [2,3,6,7,8,9,10,11,12,13,14,15,16,17,18,19,20,21,22,23,24,25] (.seq (sq_ [mv_ 10 0,
 cl_ 11 182 [(.tmp 10),(.const (.int .u8 124))]]
 (.cond (.tmp 11)
 .skip
 (.exit 0)))
 (.block 1 (.ops [mv_ 12 5,
 mv_ 13 0,
 mv_ 14 1,
 cl_ 15 181 [(.tmp 13),(.tmp 14)],
 pr_ 16 (.bsl false 6 true 1 z6_ [(0,6,(.tmp 15))]),
 pr_ 17 (.app 6 (.tmp 12) (.tmp 16)),
 mv_ 5 17])))))
 (.seq (sq_ [mv_ 18 5,
 pr_ 19 (.lenv (.tmp 18)),
 pr_ 20 (bk_ .eql 19 .i64 1)]
 (.cond (.tmp 20)
 (sq_ [mv_ 21 5,
 pr_ 22 (.iadrs 6 (.tmp 21) (.const (.int .i64 0))),
 pr_ 23 (lt_ 6 22),
 st_ (so_ 6 4 23)]
 .ret)
 .skip))
 (.seq (.ghost (.shut 5) (.ops [mv_ 24 5,
 pr_ 25 (.build z6_ [(0,1,(.const (.int .i64 3))),(5,1,(.tmp 24))]),
 st_ (so_ 6 4 25)]))
 .ret)))))
def o171:List Tmp:=[4,9]
def r171:List RV:=[.cell 4 6 true]
theorem t171:Text Tryz.prog 171 o171 c171 r171 26:=.mk_ Tryz.f171 rfl
def c172:ACode :=
 (sq_ [pr_ 4 (mi_ .i64 0)]
 (sq_ [mv_ 5 0,
 mv_ 6 1,
 cl_ 7 183 [(.tmp 5),(.tmp 6)],
 mv_ 4 7]
 .ret))
def o172:List Tmp:=[]
def r172:List RV:=[.tmp 4]
theorem t172:Text Tryz.prog 172 o172 c172 r172 8:=.mk_ Tryz.f172 rfl
def c173:ACode :=
 (sq_ [pr_ 2 mf_]
 (sq_ [mv_ 3 0,
 mv_ 4 0,
 pr_ 5 (bt_ .neq 3 4),
 mv_ 2 5]
 .ret))
def o173:List Tmp:=[]
def r173:List RV:=[.tmp 2]
theorem t173:Text Tryz.prog 173 o173 c173 r173 6:=.mk_ Tryz.f173 rfl
def c181:ACode :=
 (sq_ [pr_ 4 (.allocm z6_)]
 (sq_ [pr_ 5 (.mov (.const (.slice none 0 0)))]
 (.seq (.block 0 (.loop [2,3,6,7,8,9,10,11,12,13,14,15,16,17,18,19,20,21,22,23,24,25,26,27,28,29,30,31,32] (.seq (sq_ [mv_ 6 0,
 c1_ 7 191 6,
 pr_ 8 (no_ 7),
 mv_ 9 8,
 gp_ 10 9 true (mo_ 0),
 gc_ 11 9 true 192 [(.tmp 10),(.const (.int .u8 124))],
 gp_ 12 9 true (no_ 11),
 pr_ 13 (pa_ 9 12),
 mv_ 14 13,
 gp_ 15 14 true (mo_ 0),
 gc_ 16 14 true 192 [(.tmp 15),(.const (.int .u8 41))],
 gp_ 17 14 true (no_ 16),
 pr_ 18 (pa_ 14 17)]
 (.cond (.tmp 18)
 .skip
 (.exit 0)))
 (.block 1 (.ops [mv_ 19 5,
 mv_ 20 0,
 mv_ 21 1,
 cl_ 22 193 [(.tmp 20),(.tmp 21)],
 pr_ 23 (.bsl false 6 true 1 z6_ [(0,6,(.tmp 22))]),
 pr_ 24 (.app 6 (.tmp 19) (.tmp 23)),
 mv_ 5 24])))))
 (.seq (sq_ [mv_ 25 5,
 pr_ 26 (.lenv (.tmp 25)),
 pr_ 27 (bk_ .eql 26 .i64 1)]
 (.cond (.tmp 27)
 (sq_ [mv_ 28 5,
 pr_ 29 (.iadrs 6 (.tmp 28) (.const (.int .i64 0))),
 pr_ 30 (lt_ 6 29),
 st_ (so_ 6 4 30)]
 .ret)
 .skip))
 (.seq (.ghost (.shut 5) (.ops [mv_ 31 5,
 pr_ 32 (.build z6_ [(0,1,(.const (.int .i64 2))),(5,1,(.tmp 31))]),
 st_ (so_ 6 4 32)]))
 .ret)))))
def o181:List Tmp:=[4]
def r181:List RV:=[.cell 4 6 true]
theorem t181:Text Tryz.prog 181 o181 c181 r181 33:=.mk_ Tryz.f181 rfl
def c182:ACode :=
 (sq_ [pr_ 4 mf_]
 (.seq (sq_ [mv_ 5 0,
 mv_ 6 1,
 cl_ 7 192 [(.tmp 5),(.tmp 6)],
 pr_ 8 (no_ 7)]
 (.cond (.tmp 8)
 (sq_ [pr_ 4 mf_]
 .ret)
 .skip))
 (sq_ [mv_ 9 0,
 pr_ 10 (nc_ 9),
 pr_ 11 (fa_ 1 10),
 pr_ 12 (lf_ 1 11),
 pr_ 13 (bk_ .add 12 .i64 1),
 pr_ 14 (nc_ 9),
 pr_ 15 (fa_ 1 14),
 st_ (so_ 1 15 13)]
 (sq_ [pr_ 4 mt_]
 .ret))))
def o182:List Tmp:=[]
def r182:List RV:=[.tmp 4]
theorem t182:Text Tryz.prog 182 o182 c182 r182 16:=.mk_ Tryz.f182 rfl
def c191:ACode :=
 (sq_ [pr_ 2 mf_]
 (.seq (.draw [⟨mv_ 3 0,[],false,0,0⟩,
 ⟨pr_ 4 (nc_ 3),[0],false,0,0⟩,
 ⟨pr_ 5 (fa_ 2 4),[0,1],false,0,0⟩,
 ⟨pr_ 6 (lf_ 1 5),[0,1,2],false,0,0⟩,
 ⟨mv_ 7 6,[0,1,2,3],false,0,0⟩,
 ⟨gp_ 8 7 false (mo_ 0),[0,1,2,3,4],false,0,0⟩,
 ⟨gp_ 9 7 false (nc_ 8),(List.range 6),false,0,0⟩,
 ⟨gp_ 10 7 false (fa_ 1 9),(List.range 7),false,0,0⟩,
 ⟨gp_ 11 7 false (lf_ 1 10),(List.range 8),false,0,0⟩,
 ⟨gp_ 12 7 false (mo_ 0),[0,1,2,3,4],false,0,0⟩,
 ⟨gp_ 13 7 false (nc_ 12),[0,1,2,3,4,9],false,0,0⟩,
 ⟨gp_ 14 7 false (fa_ 0 13),[0,1,2,3,4,9,10],false,0,0⟩,
 ⟨gp_ 15 7 false (lf_ 1 14),[0,1,2,3,4,9,10,11],false,0,0⟩,
 ⟨gp_ 16 7 false (.lens (.tmp 15)),[0,1,2,3,4,9,10,11,12],false,0,0⟩,
 ⟨gp_ 17 7 false (bt_ .geq 11 16),(List.range 14),false,0,0⟩,
 ⟨pr_ 18 (po_ 7 17),(List.range 15),false,0,0⟩,
 ⟨mv_ 2 18,(List.range 16),false,0,0⟩])
 .ret))
def o191:List Tmp:=[]
def r191:List RV:=[.tmp 2]
theorem t191:Text Tryz.prog 191 o191 c191 r191 19:=.mk_ Tryz.f191 rfl
def c192:ACode :=
 (sq_ [pr_ 4 mf_]
 (.seq (.draw [⟨mv_ 5 0,[],false,0,0⟩,
 ⟨c1_ 6 191 5,[0],true,0,0⟩,
 ⟨pr_ 7 (no_ 6),[0,1],false,1,1⟩,
 ⟨mv_ 8 7,[0,1,2],false,1,1⟩,
 ⟨gp_ 9 8 true (mo_ 0),[0,1,2,3],false,1,1⟩,
 ⟨gp_ 10 8 true (nc_ 9),[0,1,2,3,4],false,1,1⟩,
 ⟨gp_ 11 8 true (fa_ 0 10),(List.range 6),false,1,1⟩,
 ⟨gp_ 12 8 true (lf_ 1 11),(List.range 7),false,1,1⟩,
 ⟨gp_ 13 8 true (mo_ 0),[0,1,2,3],false,1,1⟩,
 ⟨gp_ 14 8 true (nc_ 13),[0,1,2,3,8],false,1,1⟩,
 ⟨gp_ 15 8 true (fa_ 1 14),[0,1,2,3,8,9],false,1,1⟩,
 ⟨gp_ 16 8 true (lf_ 1 15),[0,1,2,3,8,9,10],false,1,1⟩,
 ⟨gp_ 17 8 true (.idxs (.tmp 12) (.tmp 16)),(List.range 12),false,1,1⟩,
 ⟨gp_ 18 8 true (mo_ 1),[0,1,2,3],false,1,1⟩,
 ⟨gp_ 19 8 true (bt_ .eql 17 18),(List.range 14),false,1,1⟩,
 ⟨pr_ 20 (pa_ 8 19),(List.range 15),false,1,1⟩,
 ⟨mv_ 4 20,(List.range 16),false,1,1⟩])
 .ret))
def o192:List Tmp:=[]
def r192:List RV:=[.tmp 4]
theorem t192:Text Tryz.prog 192 o192 c192 r192 21:=.mk_ Tryz.f192 rfl
def c193:ACode :=
 (sq_ [pr_ 4 (.allocm z6_)]
 (sq_ [mv_ 6 0,
 mv_ 7 1,
 cl_ 8 201 [(.tmp 6),(.tmp 7)],
 ⟨some 5,none,.fresh 6 5 (.tmp 8)⟩]
 (.seq (.block 0 (sq_ [mv_ 10 0,
 cl_ 11 182 [(.tmp 10),(.const (.int .u8 42))],
 mv_ 9 11]
 (.cond (.tmp 9)
 (sq_ [pr_ 12 (lt_ 6 5),
 pr_ 13 (.bsl false 6 true 1 z6_ [(0,6,(.tmp 12))]),
 pr_ 14 (.build z6_ [(0,1,(.const (.int .i64 4))),(5,1,(.tmp 13))]),
 st_ (so_ 6 4 14)]
 .ret)
 (sq_ [mv_ 16 0,
 cl_ 17 182 [(.tmp 16),(.const (.int .u8 43))],
 mv_ 15 17]
 (.cond (.tmp 15)
 (sq_ [pr_ 18 (lt_ 6 5),
 pr_ 19 (.bsl false 6 true 1 z6_ [(0,6,(.tmp 18))]),
 pr_ 20 (.build z6_ [(0,1,(.const (.int .i64 5))),(5,1,(.tmp 19))]),
 st_ (so_ 6 4 20)]
 .ret)
 (sq_ [mv_ 22 0,
 cl_ 23 182 [(.tmp 22),(.const (.int .u8 63))],
 mv_ 21 23]
 (.cond (.tmp 21)
 (sq_ [pr_ 24 (lt_ 6 5),
 pr_ 25 (.bsl false 6 true 1 z6_ [(0,6,(.tmp 24))]),
 pr_ 26 (.build z6_ [(0,1,(.const (.int .i64 6))),(5,1,(.tmp 25))]),
 st_ (so_ 6 4 26)]
 .ret)
 .skip)))))))
 (sq_ [pr_ 27 (lt_ 6 5),
 st_ (so_ 6 4 27)]
 .ret))))
def o193:List Tmp:=[4]
def r193:List RV:=[.cell 4 6 true]
theorem t193:Text Tryz.prog 193 o193 c193 r193 28:=.mk_ Tryz.f193 rfl
def c201:ACode :=
 (sq_ [pr_ 4 (.allocm z6_)]
 (sq_ [pr_ 7 (.build z6_ [(0,1,(.const (.int .i64 1)))]),
 pr_ 5 (.allocm z6_),
 st_ (so_ 6 5 7)]
 (.seq (sq_ [mv_ 8 0,
 c1_ 9 208 8,
 mv_ 6 9]
 (sq_ [mv_ 10 6]
 (.block 0 (sq_ [pr_ 27 (bk_ .eql 10 .u8 40),
 mv_ 26 27]
 (.cond (.tmp 26)
 (sq_ [mv_ 28 0,
 mv_ 29 0,
 pr_ 30 (nc_ 29),
 pr_ 31 (fa_ 2 30),
 pr_ 32 (lf_ 1 31),
 mv_ 33 32,
 gp_ 34 33 false (mo_ 1),
 gp_ 35 33 false (bk_ .eql 34 .i64 8),
 pr_ 36 (po_ 33 35),
 pr_ 37 (nc_ 28),
 pr_ 38 (fa_ 2 37),
 st_ (so_ 1 38 36)]
 (.seq (sq_ [mv_ 39 0,
 pr_ 40 (nc_ 39),
 pr_ 41 (fa_ 2 40),
 pr_ 42 (lf_ 1 41),
 pr_ 43 (no_ 42)]
 (.cond (.tmp 43)
 (.ops [mv_ 44 0,
 mv_ 45 1,
 pr_ 46 (bk_ .add 45 .i64 1),
 cl_ 47 171 [(.tmp 44),(.tmp 46)],
 st_ (so_ 6 5 47)])
 .skip))
 (.ops [mv_ 48 0,
 mv_ 49 0,
 cl_ 50 182 [(.tmp 49),(.const (.int .u8 41))],
 pr_ 51 (no_ 50),
 mv_ 52 51,
 gp_ 53 52 false (mo_ 0),
 gp_ 54 52 false (nc_ 53),
 gp_ 55 52 false (fa_ 2 54),
 gp_ 56 52 false (lf_ 1 55),
 pr_ 57 (po_ 52 56),
 pr_ 58 (nc_ 48),
 pr_ 59 (fa_ 2 58),
 st_ (so_ 1 59 57)])))
 (sq_ [pr_ 61 (bk_ .eql 10 .u8 91),
 mv_ 60 61]
 (.cond (.tmp 60)
 (.ops [mv_ 62 0,
 c1_ 63 209 62,
 pr_ 64 (fa_ 1 5),
 st_ (so_ 4 64 63)])
 (sq_ [pr_ 66 (bk_ .eql 10 .u8 46),
 mv_ 65 66]
 (.cond (.tmp 65)
 (.ops [pr_ 67 (fa_ 1 5),
 pr_ 68 (lt_ 4 67),
 c1_ 69 210 68,
 pr_ 70 (fa_ 1 5),
 st_ (so_ 4 70 69)])
 (sq_ [pr_ 72 (bk_ .eql 10 .u8 92),
 mv_ 71 72]
 (.cond (.tmp 71)
 (.ops [pr_ 73 (fa_ 1 5),
 mv_ 74 0,
 c1_ 75 212 74,
 cl_ 76 211 [(.tmp 73),(.tmp 75)]])
 (sq_ [mv_ 11 0,
 mv_ 12 0,
 pr_ 13 (nc_ 12),
 pr_ 14 (fa_ 2 13),
 pr_ 15 (lf_ 1 14),
 mv_ 16 15,
 gp_ 17 16 false (mo_ 6),
 gc_ 18 16 false 213 [(.const (.string (ByteArray.mk #[42,43,63,93]))),(.tmp 17)],
 gp_ 19 16 false (bk_ .geq 18 .i64 0),
 pr_ 20 (po_ 16 19),
 pr_ 21 (nc_ 11),
 pr_ 22 (fa_ 2 21),
 st_ (so_ 1 22 20)]
 (.ops [pr_ 23 (fa_ 1 5),
 mv_ 24 6,
 cl_ 25 211 [(.tmp 23),(.tmp 24)]])))))))))))))
 (sq_ [pr_ 77 (lt_ 6 5),
 st_ (so_ 6 4 77)]
 .ret))))
def o201:List Tmp:=[4,5]
def r201:List RV:=[.cell 4 6 true]
theorem t201:Text Tryz.prog 201 o201 c201 r201 78:=.mk_ Tryz.f201 rfl
def c208:ACode :=
 (sq_ [pr_ 2 (mi_ .u8 0)]
 (.seq (sq_ [mv_ 3 0,
 c1_ 4 191 3]
 (.cond (.tmp 4)
 (sq_ [mv_ 5 0,
 pr_ 6 (nc_ 5),
 pr_ 7 (fa_ 2 6),
 st_ (.store 1 (.tmp 7) (.const (.bool true)))]
 (sq_ [pr_ 2 (mi_ .u8 0)]
 .ret))
 .skip))
 (sq_ [mv_ 8 0,
 pr_ 9 (nc_ 8),
 pr_ 10 (fa_ 1 9),
 pr_ 11 (lf_ 1 10),
 pr_ 12 (bk_ .add 11 .i64 1),
 pr_ 13 (nc_ 8),
 pr_ 14 (fa_ 1 13),
 st_ (so_ 1 14 12)]
 (.seq (.draw [⟨mv_ 15 0,[],false,0,0⟩,
 ⟨pr_ 16 (nc_ 15),[0],false,0,0⟩,
 ⟨pr_ 17 (fa_ 0 16),[0,1],false,0,0⟩,
 ⟨pr_ 18 (lf_ 1 17),[0,1,2],false,0,0⟩,
 ⟨mv_ 19 0,[],false,0,0⟩,
 ⟨pr_ 20 (nc_ 19),[4],false,0,0⟩,
 ⟨pr_ 21 (fa_ 1 20),[4,5],false,0,0⟩,
 ⟨pr_ 22 (lf_ 1 21),[4,5,6],false,0,0⟩,
 ⟨pr_ 23 (bk_ .sub 22 .i64 1),[4,5,6,7],false,0,0⟩,
 ⟨pr_ 24 (.idxs (.tmp 18) (.tmp 23)),(List.range 9),false,0,0⟩,
 ⟨mv_ 2 24,(List.range 10),false,0,0⟩])
 .ret))))
def o208:List Tmp:=[]
def r208:List RV:=[.tmp 2]
theorem t208:Text Tryz.prog 208 o208 c208 r208 25:=.mk_ Tryz.f208 rfl
def c209:ACode :=
 (sq_ [pr_ 2 (.allocm [.pl (.int .u64 0),.pl (.int .u64 0),.pl (.int .u64 0),.pl (.int .u64 0)])]
 (sq_ [pr_ 3 (.allocm [.pl (.int .u64 0),.pl (.int .u64 0),.pl (.int .u64 0),.pl (.int .u64 0)])]
 (sq_ [mv_ 9 0,
 cl_ 10 182 [(.tmp 9),(.const (.int .u8 94))],
 mv_ 4 10]
 (.seq (sq_ [pr_ 5 mt_]
 (.block 0 (.loop [1,6,7,8,9,10,11,12,13,14,15,16,17,18,19,20,21,22,23,24,25,26,27,28,29,30,31,32,33,34,35,36,37,38,39,40,41,42,43,44,45,46,47,48,49,50,51,52,53,54,55,56,57,58,59,60,61,62,63,64,65,66,67] (.seq (sq_ [mv_ 11 5,
 mv_ 12 11,
 gp_ 13 12 false (mo_ 0),
 gc_ 14 12 false 191 [(.tmp 13)],
 gp_ 15 12 false (no_ 14),
 gp_ 16 12 false (mo_ 15),
 gp_ 17 16 true (mo_ 0),
 gc_ 18 16 true 192 [(.tmp 17),(.const (.int .u8 93))],
 gp_ 19 16 true (no_ 18),
 gp_ 20 12 false (pa_ 16 19),
 pr_ 21 (po_ 12 20)]
 (.cond (.tmp 21)
 .skip
 (.exit 0)))
 (.seq (.block 1 (sq_ [mv_ 22 0,
 c1_ 23 221 22,
 mv_ 6 23]
 (sq_ [mv_ 24 6,
 mv_ 7 24]
 (.seq (sq_ [mv_ 25 0,
 cl_ 26 182 [(.tmp 25),(.const (.int .u8 45))]]
 (.cond (.tmp 26)
 (.ops [mv_ 27 0,
 c1_ 28 221 27,
 mv_ 7 28])
 .skip))
 (sq_ [mv_ 29 0,
 mv_ 30 0,
 pr_ 31 (nc_ 30),
 pr_ 32 (fa_ 2 31),
 pr_ 33 (lf_ 1 32),
 mv_ 34 33,
 gp_ 35 34 false (mo_ 7),
 gp_ 36 34 false (mo_ 6),
 gp_ 37 34 false (bt_ .lss 35 36),
 pr_ 38 (po_ 34 37),
 pr_ 39 (nc_ 29),
 pr_ 40 (fa_ 2 39),
 st_ (so_ 1 40 38)]
 (sq_ [mv_ 41 6,
 pr_ 42 (.convi .i64 (.tmp 41)),
 mv_ 8 42]
 (.block 2 (.loop [1,5,6,9,10,11,12,13,14,15,16,17,18,19,20,21,22,23,24,25,26,27,28,29,30,31,32,33,34,35,36,37,38,39,40,41,42,43,44,45,46,47,48,49,50,51,52,53,54,55,56,57,58,59,60,61,62,63,64,65,66,67] (.seq (sq_ [mv_ 43 8,
 mv_ 44 7,
 pr_ 45 (.convi .i64 (.tmp 44)),
 pr_ 46 (bt_ .leq 43 45)]
 (.cond (.tmp 46)
 .skip
 (.exit 2)))
 (.seq (.block 3 (.ops [mv_ 49 8,
 pr_ 50 (.convi .u8 (.tmp 49)),
 cl_ 51 211 [(.tmp 3),(.tmp 50)]]))
 (.ops [mv_ 47 8,
 pr_ 48 (bk_ .add 47 .i64 1),
 mv_ 8 48])))))))))))
 (.ops [pr_ 5 mf_]))))))
 (sq_ [mv_ 52 0,
 mv_ 53 0,
 cl_ 54 182 [(.tmp 53),(.const (.int .u8 93))],
 pr_ 55 (no_ 54),
 mv_ 56 55,
 gp_ 57 56 false (mo_ 0),
 gp_ 58 56 false (nc_ 57),
 gp_ 59 56 false (fa_ 2 58),
 gp_ 60 56 false (lf_ 1 59),
 pr_ 61 (po_ 56 60),
 pr_ 62 (nc_ 52),
 pr_ 63 (fa_ 2 62),
 st_ (so_ 1 63 61)]
 (.seq (sq_ [mv_ 64 4]
 (.cond (.tmp 64)
 (sq_ [pr_ 65 (lt_ 4 3),
 c1_ 66 210 65,
 st_ (so_ 4 2 66)]
 .ret)
 .skip))
 (sq_ [pr_ 67 (lt_ 4 3),
 st_ (so_ 4 2 67)]
 .ret)))))))
def o209:List Tmp:=[2,3]
def r209:List RV:=[.cell 2 4 true]
theorem t209:Text Tryz.prog 209 o209 c209 r209 68:=.mk_ Tryz.f209 rfl
def c210:ACode :=
 (sq_ [pr_ 1 (.boxm (.tmp 0)),
 pr_ 2 (.allocm [.pl (.int .u64 0),.pl (.int .u64 0),.pl (.int .u64 0),.pl (.int .u64 0)])]
 (.seq (sq_ [pr_ 4 (mi_ .i64 0)]
 (.block 0 (.loop [0,3,5,6,7,8,9,10,11,12,13,14] (sq_ [pr_ 5 (bk_ .lss 4 .i64 4)]
 (.seq (.cond (.tmp 5)
 .skip
 (.exit 0))
 (.seq (.block 1 (sq_ [mv_ 6 4,
 mv_ 3 6]
 (.ops [mv_ 7 3,
 mv_ 8 3,
 pr_ 9 (.iadra 1 4 (.tmp 1) (.tmp 8)),
 pr_ 10 (lf_ 1 9),
 pr_ 11 (.un .xor (.tmp 10)),
 pr_ 12 (.iadra 1 4 (.tmp 1) (.tmp 7)),
 st_ (so_ 1 12 11)])))
 (.ops [pr_ 13 (bk_ .add 4 .i64 1),
 mv_ 4 13])))))))
 (sq_ [pr_ 14 (lt_ 4 1),
 st_ (so_ 4 2 14)]
 .ret)))
def o210:List Tmp:=[1,2]
def r210:List RV:=[.cell 2 4 true]
theorem t210:Text Tryz.prog 210 o210 c210 r210 15:=.mk_ Tryz.f210 rfl
def c211:ACode :=
 (.draw [⟨mv_ 4 0,[],false,0,0⟩,
 ⟨mv_ 5 1,[],false,0,0⟩,
 ⟨pr_ 6 (bk_ .quo 5 .u8 64),[1],false,0,0⟩,
 ⟨pr_ 7 (nc_ 4),[0],false,0,0⟩,
 ⟨pr_ 8 (.iadra 1 4 (.tmp 7) (.tmp 6)),[0,1,2,3],false,0,0⟩,
 ⟨pr_ 9 (lf_ 1 8),[0,1,2,3,4],false,0,0⟩,
 ⟨mv_ 10 1,[],false,0,0⟩,
 ⟨pr_ 11 (bk_ .rem 10 .u8 64),[6],false,0,0⟩,
 ⟨pr_ 12 (.bin false .shl (.const (.int .u64 1)) (.tmp 11)),[6,7],false,0,0⟩,
 ⟨pr_ 13 (bt_ .or 9 12),(List.range 9),false,0,0⟩,
 ⟨pr_ 14 (nc_ 4),[0],false,0,0⟩,
 ⟨pr_ 15 (.iadra 1 4 (.tmp 14) (.tmp 6)),(List.range 11),false,0,0⟩,
 ⟨st_ (so_ 1 15 13),(List.range 12),true,0,0⟩])
def o211:List Tmp:=[]
def r211:List RV:=[]
theorem t211:Text Tryz.prog 211 o211 c211 r211 16:=.mk_ Tryz.f211 rfl
def c212:ACode :=
 (sq_ [pr_ 2 (mi_ .u8 0)]
 (sq_ [mv_ 4 0,
 c1_ 5 208 4,
 mv_ 3 5]
 (sq_ [mv_ 6 0,
 mv_ 7 0,
 pr_ 8 (nc_ 7),
 pr_ 9 (fa_ 2 8),
 pr_ 10 (lf_ 1 9),
 mv_ 11 10,
 gp_ 12 11 false (mo_ 3),
 gc_ 13 11 false 213 [(.const (.string (ByteArray.mk #[124,42,43,63,40,41,91,93,46,92,94,45]))),(.tmp 12)],
 gp_ 14 11 false (bk_ .lss 13 .i64 0),
 pr_ 15 (po_ 11 14),
 pr_ 16 (nc_ 6),
 pr_ 17 (fa_ 2 16),
 st_ (so_ 1 17 15)]
 (sq_ [mv_ 18 3,
 mv_ 2 18]
 .ret))))
def o212:List Tmp:=[]
def r212:List RV:=[.tmp 2]
theorem t212:Text Tryz.prog 212 o212 c212 r212 19:=.mk_ Tryz.f212 rfl
def c213:ACode :=
 (sq_ [pr_ 4 (mi_ .i64 0)]
 (sq_ [mv_ 5 0,
 mv_ 6 1,
 cl_ 7 222 [(.tmp 5),(.tmp 6)],
 mv_ 4 7]
 .ret))
def o213:List Tmp:=[]
def r213:List RV:=[.tmp 4]
theorem t213:Text Tryz.prog 213 o213 c213 r213 8:=.mk_ Tryz.f213 rfl
def c221:ACode :=
 (sq_ [pr_ 2 (mi_ .u8 0)]
 (sq_ [mv_ 4 0,
 c1_ 5 208 4,
 mv_ 3 5]
 (.seq (sq_ [mv_ 6 3,
 pr_ 7 (bk_ .eql 6 .u8 92)]
 (.cond (.tmp 7)
 (sq_ [mv_ 8 0,
 c1_ 9 212 8,
 mv_ 2 9]
 .ret)
 .skip))
 (sq_ [mv_ 10 0,
 mv_ 11 0,
 pr_ 12 (nc_ 11),
 pr_ 13 (fa_ 2 12),
 pr_ 14 (lf_ 1 13),
 mv_ 15 14,
 gp_ 16 15 false (mo_ 3),
 gc_ 17 15 false 213 [(.const (.string (ByteArray.mk #[92,93,91,94,45]))),(.tmp 16)],
 gp_ 18 15 false (bk_ .geq 17 .i64 0),
 pr_ 19 (po_ 15 18),
 pr_ 20 (nc_ 10),
 pr_ 21 (fa_ 2 20),
 st_ (so_ 1 21 19)]
 (sq_ [mv_ 22 3,
 mv_ 2 22]
 .ret)))))
def o221:List Tmp:=[]
def r221:List RV:=[.tmp 2]
theorem t221:Text Tryz.prog 221 o221 c221 r221 23:=.mk_ Tryz.f221 rfl
def c222:ACode :=
 (sq_ [pr_ 4 (mi_ .i64 0)]
 (sq_ [mv_ 5 0,
 mv_ 6 1,
 cl_ 7 225 [(.tmp 5),(.tmp 6)],
 mv_ 4 7]
 .ret))
def o222:List Tmp:=[]
def r222:List RV:=[.tmp 4]
theorem t222:Text Tryz.prog 222 o222 c222 r222 8:=.mk_ Tryz.f222 rfl
theorem Lstep {P:Program} {n0:Nat} {clr:List Tmp} {x:ACode} {k:List Fr} {B:Bs} {env:Env} {σ:St}
  (h:∀J:Env→St→Prop,(∀env σ,L P n0 clr x k B env σ→J env σ)→R P n0 x (.loop J clr::k) B env σ):L P n0 clr x k B env σ:=by
 unfold L;intro I hI;refine hI _ _ (h I fun env' σ' hl=>?_)
 unfold L at hl;exact hl I hI
theorem rn0_ok:Ans Tryz.prog 121 [.pl (.string ⟨#[115,101,118]⟩)] [] (.pl (.bool true)) []:=by
 have hs:(⟨#[115,101,118]⟩:ByteArray).size=3:=rfl;have d0:decide ((0:Int)<((3:Nat):Int))=true:=rfl;have l0:((0:Int)<((3:Nat):Int))=True:=eq_true (by decide)
 have b0:((((([115,101,118]:List UInt8).getD (Int.toNat 0) 0).toNat:Nat)):Int)=115:=rfl;have w0:IntKind.i64.wrap (1:Int)=1:=rfl;have d1:decide ((1:Int)<((3:Nat):Int))=true:=rfl;have l1:((1:Int)<((3:Nat):Int))=True:=eq_true (by decide)
 have b1:((((([115,101,118]:List UInt8).getD (Int.toNat 1) 0).toNat:Nat)):Int)=101:=rfl;have w1:IntKind.i64.wrap (2:Int)=2:=rfl;have d2:decide ((2:Int)<((3:Nat):Int))=true:=rfl;have l2:((2:Int)<((3:Nat):Int))=True:=eq_true (by decide)
 have b2:((((([115,101,118]:List UInt8).getD (Int.toNat 2) 0).toNat:Nat)):Int)=118:=rfl;have w2:IntKind.i64.wrap (3:Int)=3:=rfl;have d3:decide ((3:Int)<((3:Nat):Int))=false:=rfl;have e1:decide ((1:Int)≤((3:Nat):Int))=true:=rfl;have e2:decide (((3:Nat):Int)≤12)=true:=rfl;refine Ans.of_run t121 ?_;simp -implicitDefEqProofs only[c121,r121,go_sem];refine Lstep fun J0 hJ0=>?_
 simp -implicitDefEqProofs only[go_sem,Int.reduceLE,Int.reduceLT,decide_true,decide_false,hs,d0,l0,b0,w0,d1,l1,b1,w1,d2,l2,b2,w2,d3,e1,e2];refine hJ0 _ _ ?_;refine Lstep fun J1 hJ1=>?_
 simp -implicitDefEqProofs only[go_sem,Int.reduceLE,Int.reduceLT,decide_true,decide_false,hs,d0,l0,b0,w0,d1,l1,b1,w1,d2,l2,b2,w2,d3,e1,e2];refine hJ1 _ _ ?_;refine Lstep fun J2 hJ2=>?_
 simp -implicitDefEqProofs only[go_sem,Int.reduceLE,Int.reduceLT,decide_true,decide_false,hs,d0,l0,b0,w0,d1,l1,b1,w1,d2,l2,b2,w2,d3,e1,e2];refine hJ2 _ _ ?_;refine Lstep fun J3 hJ3=>?_
 simp -implicitDefEqProofs only[go_sem,Int.reduceLE,Int.reduceLT,decide_true,decide_false,hs,d0,l0,b0,w0,d1,l1,b1,w1,d2,l2,b2,w2,d3,e1,e2];exact Fini.ret rfl
theorem rn1_ok:Ans Tryz.prog 121 [.pl (.string ⟨#[106,111,98]⟩)] [] (.pl (.bool true)) []:=by
 have hs:(⟨#[106,111,98]⟩:ByteArray).size=3:=rfl;have d0:decide ((0:Int)<((3:Nat):Int))=true:=rfl;have l0:((0:Int)<((3:Nat):Int))=True:=eq_true (by decide)
 have b0:((((([106,111,98]:List UInt8).getD (Int.toNat 0) 0).toNat:Nat)):Int)=106:=rfl;have w0:IntKind.i64.wrap (1:Int)=1:=rfl;have d1:decide ((1:Int)<((3:Nat):Int))=true:=rfl;have l1:((1:Int)<((3:Nat):Int))=True:=eq_true (by decide)
 have b1:((((([106,111,98]:List UInt8).getD (Int.toNat 1) 0).toNat:Nat)):Int)=111:=rfl;have w1:IntKind.i64.wrap (2:Int)=2:=rfl;have d2:decide ((2:Int)<((3:Nat):Int))=true:=rfl;have l2:((2:Int)<((3:Nat):Int))=True:=eq_true (by decide)
 have b2:((((([106,111,98]:List UInt8).getD (Int.toNat 2) 0).toNat:Nat)):Int)=98:=rfl;have w2:IntKind.i64.wrap (3:Int)=3:=rfl;have d3:decide ((3:Int)<((3:Nat):Int))=false:=rfl;have e1:decide ((1:Int)≤((3:Nat):Int))=true:=rfl;have e2:decide (((3:Nat):Int)≤12)=true:=rfl;refine Ans.of_run t121 ?_;simp -implicitDefEqProofs only[c121,r121,go_sem];refine Lstep fun J0 hJ0=>?_
 simp -implicitDefEqProofs only[go_sem,Int.reduceLE,Int.reduceLT,decide_true,decide_false,hs,d0,l0,b0,w0,d1,l1,b1,w1,d2,l2,b2,w2,d3,e1,e2];refine hJ0 _ _ ?_;refine Lstep fun J1 hJ1=>?_
 simp -implicitDefEqProofs only[go_sem,Int.reduceLE,Int.reduceLT,decide_true,decide_false,hs,d0,l0,b0,w0,d1,l1,b1,w1,d2,l2,b2,w2,d3,e1,e2];refine hJ1 _ _ ?_;refine Lstep fun J2 hJ2=>?_
 simp -implicitDefEqProofs only[go_sem,Int.reduceLE,Int.reduceLT,decide_true,decide_false,hs,d0,l0,b0,w0,d1,l1,b1,w1,d2,l2,b2,w2,d3,e1,e2];refine hJ2 _ _ ?_;refine Lstep fun J3 hJ3=>?_
 simp -implicitDefEqProofs only[go_sem,Int.reduceLE,Int.reduceLT,decide_true,decide_false,hs,d0,l0,b0,w0,d1,l1,b1,w1,d2,l2,b2,w2,d3,e1,e2];exact Fini.ret rfl
theorem rn2_ok:Ans Tryz.prog 121 [.pl (.string ⟨#[104,111,115,116]⟩)] [] (.pl (.bool true)) []:=by
 have hs:(⟨#[104,111,115,116]⟩:ByteArray).size=4:=rfl;have d0:decide ((0:Int)<((4:Nat):Int))=true:=rfl;have l0:((0:Int)<((4:Nat):Int))=True:=eq_true (by decide)
 have b0:((((([104,111,115,116]:List UInt8).getD (Int.toNat 0) 0).toNat:Nat)):Int)=104:=rfl;have w0:IntKind.i64.wrap (1:Int)=1:=rfl;have d1:decide ((1:Int)<((4:Nat):Int))=true:=rfl;have l1:((1:Int)<((4:Nat):Int))=True:=eq_true (by decide)
 have b1:((((([104,111,115,116]:List UInt8).getD (Int.toNat 1) 0).toNat:Nat)):Int)=111:=rfl;have w1:IntKind.i64.wrap (2:Int)=2:=rfl;have d2:decide ((2:Int)<((4:Nat):Int))=true:=rfl;have l2:((2:Int)<((4:Nat):Int))=True:=eq_true (by decide)
 have b2:((((([104,111,115,116]:List UInt8).getD (Int.toNat 2) 0).toNat:Nat)):Int)=115:=rfl;have w2:IntKind.i64.wrap (3:Int)=3:=rfl;have d3:decide ((3:Int)<((4:Nat):Int))=true:=rfl;have l3:((3:Int)<((4:Nat):Int))=True:=eq_true (by decide)
 have b3:((((([104,111,115,116]:List UInt8).getD (Int.toNat 3) 0).toNat:Nat)):Int)=116:=rfl;have w3:IntKind.i64.wrap (4:Int)=4:=rfl;have d4:decide ((4:Int)<((4:Nat):Int))=false:=rfl;have e1:decide ((1:Int)≤((4:Nat):Int))=true:=rfl;have e2:decide (((4:Nat):Int)≤12)=true:=rfl;refine Ans.of_run t121 ?_;simp -implicitDefEqProofs only[c121,r121,go_sem];refine Lstep fun J0 hJ0=>?_
 simp -implicitDefEqProofs only[go_sem,Int.reduceLE,Int.reduceLT,decide_true,decide_false,hs,d0,l0,b0,w0,d1,l1,b1,w1,d2,l2,b2,w2,d3,l3,b3,w3,d4,e1,e2];refine hJ0 _ _ ?_;refine Lstep fun J1 hJ1=>?_
 simp -implicitDefEqProofs only[go_sem,Int.reduceLE,Int.reduceLT,decide_true,decide_false,hs,d0,l0,b0,w0,d1,l1,b1,w1,d2,l2,b2,w2,d3,l3,b3,w3,d4,e1,e2];refine hJ1 _ _ ?_;refine Lstep fun J2 hJ2=>?_
 simp -implicitDefEqProofs only[go_sem,Int.reduceLE,Int.reduceLT,decide_true,decide_false,hs,d0,l0,b0,w0,d1,l1,b1,w1,d2,l2,b2,w2,d3,l3,b3,w3,d4,e1,e2];refine hJ2 _ _ ?_;refine Lstep fun J3 hJ3=>?_
 simp -implicitDefEqProofs only[go_sem,Int.reduceLE,Int.reduceLT,decide_true,decide_false,hs,d0,l0,b0,w0,d1,l1,b1,w1,d2,l2,b2,w2,d3,l3,b3,w3,d4,e1,e2];refine hJ3 _ _ ?_;refine Lstep fun J4 hJ4=>?_
 simp -implicitDefEqProofs only[go_sem,Int.reduceLE,Int.reduceLT,decide_true,decide_false,hs,d0,l0,b0,w0,d1,l1,b1,w1,d2,l2,b2,w2,d3,l3,b3,w3,d4,e1,e2];exact Fini.ret rfl
theorem rn3_ok:Ans Tryz.prog 121 [.pl (.string ⟨#[95,120]⟩)] [] (.pl (.bool true)) []:=by
 have hs:(⟨#[95,120]⟩:ByteArray).size=2:=rfl;have d0:decide ((0:Int)<((2:Nat):Int))=true:=rfl;have l0:((0:Int)<((2:Nat):Int))=True:=eq_true (by decide)
 have b0:((((([95,120]:List UInt8).getD (Int.toNat 0) 0).toNat:Nat)):Int)=95:=rfl;have w0:IntKind.i64.wrap (1:Int)=1:=rfl;have d1:decide ((1:Int)<((2:Nat):Int))=true:=rfl;have l1:((1:Int)<((2:Nat):Int))=True:=eq_true (by decide)
 have b1:((((([95,120]:List UInt8).getD (Int.toNat 1) 0).toNat:Nat)):Int)=120:=rfl;have w1:IntKind.i64.wrap (2:Int)=2:=rfl;have d2:decide ((2:Int)<((2:Nat):Int))=false:=rfl;have e1:decide ((1:Int)≤((2:Nat):Int))=true:=rfl;have e2:decide (((2:Nat):Int)≤12)=true:=rfl;refine Ans.of_run t121 ?_;simp -implicitDefEqProofs only[c121,r121,go_sem];refine Lstep fun J0 hJ0=>?_
 simp -implicitDefEqProofs only[go_sem,Int.reduceLE,Int.reduceLT,decide_true,decide_false,hs,d0,l0,b0,w0,d1,l1,b1,w1,d2,e1,e2];refine hJ0 _ _ ?_;refine Lstep fun J1 hJ1=>?_
 simp -implicitDefEqProofs only[go_sem,Int.reduceLE,Int.reduceLT,decide_true,decide_false,hs,d0,l0,b0,w0,d1,l1,b1,w1,d2,e1,e2];refine hJ1 _ _ ?_;refine Lstep fun J2 hJ2=>?_
 simp -implicitDefEqProofs only[go_sem,Int.reduceLE,Int.reduceLT,decide_true,decide_false,hs,d0,l0,b0,w0,d1,l1,b1,w1,d2,e1,e2];exact Fini.ret rfl
theorem rn4_ok:Ans Tryz.prog 121 [.pl (.string ⟨#[90,111,110,101,57]⟩)] [] (.pl (.bool true)) []:=by
 have hs:(⟨#[90,111,110,101,57]⟩:ByteArray).size=5:=rfl;have d0:decide ((0:Int)<((5:Nat):Int))=true:=rfl;have l0:((0:Int)<((5:Nat):Int))=True:=eq_true (by decide)
 have b0:((((([90,111,110,101,57]:List UInt8).getD (Int.toNat 0) 0).toNat:Nat)):Int)=90:=rfl;have w0:IntKind.i64.wrap (1:Int)=1:=rfl;have d1:decide ((1:Int)<((5:Nat):Int))=true:=rfl;have l1:((1:Int)<((5:Nat):Int))=True:=eq_true (by decide)
 have b1:((((([90,111,110,101,57]:List UInt8).getD (Int.toNat 1) 0).toNat:Nat)):Int)=111:=rfl;have w1:IntKind.i64.wrap (2:Int)=2:=rfl;have d2:decide ((2:Int)<((5:Nat):Int))=true:=rfl;have l2:((2:Int)<((5:Nat):Int))=True:=eq_true (by decide)
 have b2:((((([90,111,110,101,57]:List UInt8).getD (Int.toNat 2) 0).toNat:Nat)):Int)=110:=rfl;have w2:IntKind.i64.wrap (3:Int)=3:=rfl;have d3:decide ((3:Int)<((5:Nat):Int))=true:=rfl;have l3:((3:Int)<((5:Nat):Int))=True:=eq_true (by decide)
 have b3:((((([90,111,110,101,57]:List UInt8).getD (Int.toNat 3) 0).toNat:Nat)):Int)=101:=rfl;have w3:IntKind.i64.wrap (4:Int)=4:=rfl;have d4:decide ((4:Int)<((5:Nat):Int))=true:=rfl;have l4:((4:Int)<((5:Nat):Int))=True:=eq_true (by decide)
 have b4:((((([90,111,110,101,57]:List UInt8).getD (Int.toNat 4) 0).toNat:Nat)):Int)=57:=rfl;have w4:IntKind.i64.wrap (5:Int)=5:=rfl;have d5:decide ((5:Int)<((5:Nat):Int))=false:=rfl;have e1:decide ((1:Int)≤((5:Nat):Int))=true:=rfl;have e2:decide (((5:Nat):Int)≤12)=true:=rfl;refine Ans.of_run t121 ?_;simp -implicitDefEqProofs only[c121,r121,go_sem];refine Lstep fun J0 hJ0=>?_
 simp -implicitDefEqProofs only[go_sem,Int.reduceLE,Int.reduceLT,decide_true,decide_false,hs,d0,l0,b0,w0,d1,l1,b1,w1,d2,l2,b2,w2,d3,l3,b3,w3,d4,l4,b4,w4,d5,e1,e2];refine hJ0 _ _ ?_;refine Lstep fun J1 hJ1=>?_
 simp -implicitDefEqProofs only[go_sem,Int.reduceLE,Int.reduceLT,decide_true,decide_false,hs,d0,l0,b0,w0,d1,l1,b1,w1,d2,l2,b2,w2,d3,l3,b3,w3,d4,l4,b4,w4,d5,e1,e2];refine hJ1 _ _ ?_;refine Lstep fun J2 hJ2=>?_
 simp -implicitDefEqProofs only[go_sem,Int.reduceLE,Int.reduceLT,decide_true,decide_false,hs,d0,l0,b0,w0,d1,l1,b1,w1,d2,l2,b2,w2,d3,l3,b3,w3,d4,l4,b4,w4,d5,e1,e2];refine hJ2 _ _ ?_;refine Lstep fun J3 hJ3=>?_
 simp -implicitDefEqProofs only[go_sem,Int.reduceLE,Int.reduceLT,decide_true,decide_false,hs,d0,l0,b0,w0,d1,l1,b1,w1,d2,l2,b2,w2,d3,l3,b3,w3,d4,l4,b4,w4,d5,e1,e2];refine hJ3 _ _ ?_;refine Lstep fun J4 hJ4=>?_
 simp -implicitDefEqProofs only[go_sem,Int.reduceLE,Int.reduceLT,decide_true,decide_false,hs,d0,l0,b0,w0,d1,l1,b1,w1,d2,l2,b2,w2,d3,l3,b3,w3,d4,l4,b4,w4,d5,e1,e2];refine hJ4 _ _ ?_;refine Lstep fun J5 hJ5=>?_
 simp -implicitDefEqProofs only[go_sem,Int.reduceLE,Int.reduceLT,decide_true,decide_false,hs,d0,l0,b0,w0,d1,l1,b1,w1,d2,l2,b2,w2,d3,l3,b3,w3,d4,l4,b4,w4,d5,e1,e2];exact Fini.ret rfl
abbrev I (n:Int):AV:=.pl (.int .i64 n)
abbrev Bo (b:Bool):AV:=.pl (.bool b)
abbrev Sx (s:ByteArray):AV:=.pl (.string s)
theorem wrapN {n:Int} (h: -9223372036854775808≤n) (h':n<9223372036854775808):IntKind.i64.wrap n=n:=by
 simp only[IntKind.wrap,IntKind.bits,IntKind.signed];simp;omega
theorem z4G {args:List AV} (h:belL 0 args=true):∀a∈args,Bel 0 a:=fun a ha=>by
 obtain⟨i,hi,rfl⟩:=List.getElem_of_mem ha;exact Bel.of_mem (z2N 0 args h) i hi
theorem Fini.ret2 {n m:Nat} {rvs:List RV} {r r':AV} {σ σ':St} {env:Env} (h:resA env σ rvs=some r') (e:r'=r) (e':σ=σ'):Fini m rvs r σ' .ret env σ:=by
 subst e;subst e';exact Fini.ret h
theorem Fini.trim2 {m:Nat} {rvs:List RV} {r:AV} {σ σ' ex:St} {env:Env} (h:resA env σ rvs=some r) (he:σ=σ'++ex) (hl:m≤σ'.length) (hb:Bel σ'.length r) (ho:∀o∈σ',BelO σ'.length o):Fini m rvs r σ' .ret env σ:=by
 subst he;exact⟨r,σ'++ex,h,rfl,rfl,.inr ⟨hl,by simp,hb,ho⟩⟩
def names:List ByteArray:=[⟨#[115,101,118]⟩,⟨#[106,111,98]⟩,⟨#[104,111,115,116]⟩,⟨#[95,120]⟩,⟨#[90,111,110,101,57]⟩]
def values:List ByteArray:=[⟨#[97]⟩,⟨#[98]⟩,⟨#[99,114,105,116]⟩,⟨#[119,97,114,110]⟩,⟨#[97,98]⟩,⟨#[0,255]⟩,⟨#[97,98,97,98,97,98,97,98,97,98,97,98,97,98,97,98,97,98,97,98,97,98,97,98]⟩]
def pats:List ByteArray:=[⟨#[97,124,98]⟩,⟨#[]⟩,⟨#[40,99,114,105,116,124,119,97,114,110,41]⟩,⟨#[91,97,45,99,93,43,46,42]⟩,⟨#[46,43]⟩,⟨#[40,97,98,41,42]⟩,⟨#[97,63,98,63]⟩,⟨#[91,94,97,93,42]⟩,⟨#[97,42,97,42,97,42,97,42,97,42,97,42,97,42,97,42,97,42,97,42,97,42,97,42,97,42,97,42]⟩]
def emodW (n lo hi:Int):Int:=lo+n%(hi-lo+1)
def inD (n lo hi:Int):Int:=if lo≤n∧n≤hi then n else emodW n lo hi
theorem zce (n lo hi:Int) (h:lo≤hi):lo≤emodW n lo hi∧emodW n lo hi≤hi:=by
 unfold emodW;have h1:=Int.emod_nonneg n (show hi-lo+1≠0 by omega)
 have h2:=Int.emod_lt_of_pos n (show 0<hi-lo+1 by omega)
 omega
theorem z4a (n lo hi:Int) (h:lo≤hi):lo≤inD n lo hi∧inD n lo hi≤hi:=by
 unfold inD;split
 · assumption
 · exact zce n lo hi h
def nameOf (n:Int):ByteArray:=names.getD (inD n 0 4).toNat ⟨#[]⟩
def valueOf (n:Int):ByteArray:=values.getD (inD n 0 6).toNat ⟨#[]⟩
def patOf (n:Int):ByteArray:=pats.getD (inD n 0 8).toNat ⟨#[]⟩
theorem getD_mem {l:List ByteArray} {k:Nat} (h:k<l.length) (d:ByteArray):l.getD k d∈l:=by
 rw[List.getD_eq_getElem?_getD,List.getElem?_eq_getElem h];exact List.getElem_mem h
theorem z5w (n:Int):nameOf n∈names:=by
 have h:=z4a n 0 4 (by omega)
 unfold nameOf;have:(inD n 0 4).toNat<5:=by omega
 exact getD_mem this _
theorem z4H (n:Int):valueOf n∈values:=by
 have h:=z4a n 0 6 (by omega)
 unfold valueOf;have:(inD n 0 6).toNat<7:=by omega
 exact getD_mem this _
theorem zaw (n:Int):patOf n∈pats:=by
 have h:=z4a n 0 8 (by omega)
 unfold patOf;have:(inD n 0 8).toNat<9:=by omega
 exact getD_mem this _
section
variable (σ:St)
theorem z2i (n lo hi:Int) (h0:0≤lo) (h1:lo≤hi) (h2:hi≤100):Ans Tryz.prog 100 [I n,I lo,I hi] σ (I (emodW n lo hi)) σ:=by
 have e1:IntKind.i64.wrap (hi-lo)=hi-lo:=wrapN (by omega) (by omega)
 have e2:IntKind.i64.wrap (hi-lo+1)=hi-lo+1:=wrapN (by omega) (by omega)
 have e3:((hi-lo+1)=0)=False:=by simp;omega
 have h3:=Int.emod_nonneg n (show hi-lo+1≠0 by omega)
 have h4:=Int.emod_lt_of_pos n (show 0<hi-lo+1 by omega)
 have h5:=Int.tmod_eq_emod (a:=n) (b:=hi-lo+1);unfold emodW;generalize hm:n%(hi-lo+1)=m at h3 h4 h5
 have h6:n.tmod (hi-lo+1)=m∨n.tmod (hi-lo+1)=m-(hi-lo+1):=by
  rw[h5];split
  · left;omega
  · right;omega
 refine Ans.of_run t100 ?_;simp -implicitDefEqProofs only[c100,r100,go_sem,e1,e2,e3];generalize n.tmod (hi-lo+1)=r at h6;rcases h6 with rfl|rfl
 · have d1:decide (r<0)=false:=by simp;omega
   have e4:IntKind.i64.wrap (lo+r)=lo+r:=wrapN (by omega) (by omega)
   simp -implicitDefEqProofs only[go_sem,d1,e4];exact Fini.ret rfl
 · have d1:decide (m-(hi-lo+1)<0)=true:=by simp;omega
   have e4:IntKind.i64.wrap (m-(hi-lo+1)+hi)=m-(hi-lo+1)+hi:=wrapN (by omega) (by omega)
   have e5:IntKind.i64.wrap (m-(hi-lo+1)+hi-lo)=m-(hi-lo+1)+hi-lo:=wrapN (by omega) (by omega)
   have e6:IntKind.i64.wrap (m-(hi-lo+1)+hi-lo+1)=m:=by rw[wrapN (by omega) (by omega)];omega
   have e7:IntKind.i64.wrap (lo+m)=lo+m:=wrapN (by omega) (by omega)
   simp -implicitDefEqProofs only[go_sem,d1,e4,e5,e6,e7];exact Fini.ret rfl
theorem z0a (n lo hi:Int) (h0:0≤lo) (h1:lo≤hi) (h2:hi≤100):Ans Tryz.prog 99 [I n,I lo,I hi] σ (I (inD n lo hi)) σ:=by
 have hw:=z2i σ n lo hi h0 h1 h2;unfold inD;refine Ans.of_run t99 ?_;simp -implicitDefEqProofs only[c99,r99,go_sem];by_cases d1:lo≤n
 · by_cases d2:n≤hi
   · have d1':decide (lo≤n)=true:=by simpa using d1
     have d2':decide (n≤hi)=true:=by simpa using d2
     simp -implicitDefEqProofs only[go_sem,d1',d2'];rw[if_pos ⟨d1,d2⟩];exact Fini.ret rfl
   · have d1':decide (lo≤n)=true:=by simpa using d1
     have d2':decide (n≤hi)=false:=by simpa using d2
     simp -implicitDefEqProofs only[go_sem,d1',d2'];refine CO.intro hw ?_;simp -implicitDefEqProofs only[go_sem];rw[if_neg (fun h=>d2 h.2)]
     exact Fini.ret rfl
 · have d1':decide (lo≤n)=false:=by simpa using d1
   simp -implicitDefEqProofs only[go_sem,d1'];refine CO.intro hw ?_;simp -implicitDefEqProofs only[go_sem];rw[if_neg (fun h=>d1 h.1)]
   exact Fini.ret rfl
theorem z4l (n:Int):Ans Tryz.prog 81 [I n] σ (Sx (nameOf n)) σ:=by
 have h:=z4a n 0 4 (by omega)
 have hi:=z0a σ n 0 4 (by omega) (by omega) (by omega)
 unfold nameOf;generalize inD n 0 4=r at h hi⊢;refine Ans.of_run t81 ?_;simp -implicitDefEqProofs only[c81,r81,go_sem];refine CO.intro hi ?_;have h5:r=0∨r=1∨r=2∨r=3∨r=4:=by omega
 rcases h5 with rfl|rfl|rfl|rfl|rfl
 all_goals (
  simp -implicitDefEqProofs only[go_sem]
  exact Fini.ret rfl)
theorem z6M (n:Int):Ans Tryz.prog 133 [I n] σ (Sx (valueOf n)) σ:=by
 have h:=z4a n 0 6 (by omega)
 have hi:=z0a σ n 0 6 (by omega) (by omega) (by omega)
 unfold valueOf;generalize inD n 0 6=r at h hi⊢;refine Ans.of_run t133 ?_;simp -implicitDefEqProofs only[c133,r133,go_sem];refine CO.intro hi ?_;have h5:r=0∨r=1∨r=2∨r=3∨r=4∨r=5∨r=6:=by omega
 rcases h5 with rfl|rfl|rfl|rfl|rfl|rfl|rfl
 all_goals (
  simp -implicitDefEqProofs only[go_sem]
  exact Fini.ret rfl)
theorem z7X (n:Int):Ans Tryz.prog 152 [I n] σ (Sx (patOf n)) σ:=by
 have h:=z4a n 0 8 (by omega)
 have hi:=z0a σ n 0 8 (by omega) (by omega) (by omega)
 unfold patOf;generalize inD n 0 8=r at h hi⊢;refine Ans.of_run t152 ?_;simp -implicitDefEqProofs only[c152,r152,go_sem];refine CO.intro hi ?_;have h5:r=0∨r=1∨r=2∨r=3∨r=4∨r=5∨r=6∨r=7∨r=8:=by omega
 rcases h5 with rfl|rfl|rfl|rfl|rfl|rfl|rfl|rfl|rfl
 all_goals (
  simp -implicitDefEqProofs only[go_sem]
  exact Fini.ret rfl)
abbrev mat (k:Int) (n v:ByteArray):AV:=.agg [I k,Sx n,Sx v]
def z2j (k v:Int):ByteArray:=if inD k 1 4<3 then(if v<0 then⟨#[]⟩ else valueOf v) else patOf v
theorem z7Y (m:Nat) (k:Int) (n v:ByteArray):Bel m (mat k n v):=by
 refine .agg _ fun i hi=>?_
 have:∀y∈[I k,Sx n,Sx v],Bel m y:=by
  intro y hy;simp only[List.mem_cons,List.not_mem_nil,or_false]at hy;rcases hy with rfl|rfl|rfl<;>exact .pl _
 exact this _ (List.getElem_mem hi)
theorem z4I (k n v:Int):Ans Tryz.prog 123 [.agg [I k,I n,I v]] σ (mat (inD k 1 4) (nameOf n) (z2j k v)) σ:=by
 have k0:∀(x y:Ob),(σ++[x,y])[σ.length]?=some x:=fun x y=>by rw[List.getElem?_append_right (by simp)];simp
 have k0':∀(x:Ob),(σ++[x])[σ.length]?=some x:=fun x=>by rw[List.getElem?_append_right (by simp)];simp
 have k1:∀(x y:Ob),(σ++[x,y])[σ.length+1]?=some y:=fun x y=>by rw[List.getElem?_append_right (by simp)];simp
 have s0:∀(x y z:Ob),(σ++[x,y]).set σ.length z=σ++[z,y]:=fun x y z=>by rw[List.set_append_right _ _ (by simp)];simp
 have s1:∀(x y z:Ob),(σ++[x,y]).set (σ.length+1) z=σ++[x,z]:=fun x y z=>by rw[List.set_append_right _ _ (by simp)];simp
 have hb:=z7Y σ.length (inD k 1 4) (nameOf n) (z2j k v);refine Ans.of_run' t123 (fun hbel _=>?_)
 simp -implicitDefEqProofs only[c123,r123,go_sem,z00,List.append_assoc,List.length_append];refine CS.intro (fun s=>z0a s k 1 4 (by omega) (by omega) (by omega)) ?_
 simp -implicitDefEqProofs only[go_sem,z00,List.append_assoc,List.length_append];refine CS.intro (fun s=>z4l s n) ?_
 simp -implicitDefEqProofs only[go_sem,z00,List.append_assoc,List.length_append];refine CS.intro (fun s=>z7X s v) ?_
 simp -implicitDefEqProofs only[go_sem,z00,List.append_assoc,List.length_append,k0,k1,s0,s1];unfold z2j at hb⊢;by_cases h3:inD k 1 4<3
 · have h3':decide (inD k 1 4<3)=true:=by simpa using h3
   rw[if_pos h3]at hb⊢;simp -implicitDefEqProofs only[go_sem,h3'];refine CO.intro (z6M _ v) ?_;by_cases h0:v<0
   · have h0':decide (v<0)=true:=by simpa using h0
     rw[if_pos h0]at hb⊢;simp -implicitDefEqProofs only[go_sem,h0',k0,k1,s0,s1];exact Fini.trim2 (σ':=σ) (ex:=[_,_]) (by simp -implicitDefEqProofs only[go_sem,resA,z04,rvA,oneOf,k0]) rfl (Nat.le_refl _) hb hbel
   · have h0':decide (v<0)=false:=by simpa using h0
     rw[if_neg h0]at hb⊢;simp -implicitDefEqProofs only[go_sem,h0',k0,k1,s0,s1];exact Fini.trim2 (σ':=σ) (ex:=[_,_]) (by simp -implicitDefEqProofs only[go_sem,resA,z04,rvA,oneOf,k0]) rfl (Nat.le_refl _) hb hbel
 · have h3':decide (inD k 1 4<3)=false:=by simpa using h3
   rw[if_neg h3]at hb⊢;simp -implicitDefEqProofs only[go_sem,h3',k0,k1,s0,s1];exact Fini.trim2 (σ':=σ) (ex:=[_,_]) (by simp -implicitDefEqProofs only[go_sem,resA,z04,rvA,oneOf,k0]) rfl (Nat.le_refl _) hb hbel
end
abbrev Lab:=ByteArray×ByteArray
abbrev lv (x:Lab):AV:=.agg [Sx x.1,Sx x.2]
def lvs (L:List Lab):List AV:=L.map lv
theorem z0g (L:List Lab):(lvs L).length=L.length:=List.length_map ..
theorem z3X (L:List Lab) (i:Nat) (h:i<L.length):(lvs L)[i]?=some (lv L[i]):=by simp[lvs,h]
def getL:List Lab→ByteArray→ByteArray
 |[],_=>⟨#[]⟩
 |x::xs,nm=>if x.1.toList==nm.toList then x.2 else getL xs nm
section
variable (σ:St)
theorem z0j {i n:Nat} (h:i<n):((i:Int)<(n:Nat))=True:=by simp;omega
theorem z2u {i n:Nat} (h:¬i<n):((i:Int)<(n:Nat))=False:=by simp;omega
theorem dec_lt {i n:Nat} (h:i<n):decide ((i:Int)<(n:Nat))=true:=by simp;omega
theorem z2v {i n:Nat} (h:¬i<n):decide ((i:Int)<(n:Nat))=false:=by simp;omega
theorem wrap_succ {i:Nat} (h:i≤100000):IntKind.i64.wrap ((i:Int)+1)=((i+1:Nat):Int):=by rw[wrapN (by omega) (by omega)];rfl
theorem z6N (l:Nat) (L:List Lab) (nm:ByteArray) (h:σ[l]?=some (.row 2 (lvs L))) (hl:L.length≤1000):Ans Tryz.prog 134 [.osl l L.length,Sx nm] σ (Sx (getL L nm)) σ:=by
 refine Ans.of_run t134 ?_;simp -implicitDefEqProofs only[c134,r134,go_sem];generalize hres:getL L nm=res
 refine Go.Ab.L.intro (α:={ i:Nat // i≤L.length∧getL (L.drop i) nm=res }) (fun x=>L.length-x.1)
  (fun x=>mkE 24 [(0,.osl l L.length),(1,Sx nm),(5,I x.1)]) (fun _=>σ) (fun x J hJ=>?_) ⟨0,Nat.zero_le _,hres⟩ rfl rfl
 obtain⟨i,hi,hg⟩:=x;simp only at hJ⊢;by_cases hlt:i<L.length
 · rw[List.drop_eq_getElem_cons hlt,getL]at hg;have hx:=z3X L i hlt;cases he:L[i].1.toList==nm.toList
   · rw[he,if_neg Bool.false_ne_true]at hg;have hJ':=hJ ⟨i+1,hlt,hg⟩ (by simp only;omega)
     simp only at hJ';simp -implicitDefEqProofs only[mkE,go_sem,z0j hlt,dec_lt hlt,h,hx,z0g,he,wrap_succ (show i≤100000 by omega)]
     exact hJ'
   · rw[he,if_pos rfl]at hg;simp -implicitDefEqProofs only[mkE,go_sem,z0j hlt,dec_lt hlt,h,hx,z0g,he];rw[hg];exact Fini.ret rfl
 · have:i=L.length:=by omega
   subst this;rw[List.drop_length,getL]at hg;simp -implicitDefEqProofs only[mkE,go_sem,z2u hlt,z2v hlt,h,z0g];rw[←hg];exact Fini.ret rfl
def z1M (L:List Lab):Prop:=∀x∈L,x.1∈names∧x.2∈values
def leS (a b:ByteArray):Bool:=Op.bytesLess a.toList b.toList||a.toList==b.toList
def badAt (L:List Lab) (i:Nat):Bool:=decide (0<i)&&leS (L.getD i (⟨#[]⟩,⟨#[]⟩)).1 (L.getD (i-1) (⟨#[]⟩,⟨#[]⟩)).1
def isGo (L:List Lab):Nat→Nat→Bool
 |0,_=>true
 |k+1,i=>if badAt L i then false else isGo L k (i+1)
def z2J (L:List Lab):Bool:=if decide (L.length<1)||decide (6<L.length) then false else isGo L L.length 0
theorem z6O (n:ByteArray) (h:n∈names):Ans Tryz.prog 121 [Sx n] σ (Bo true) σ:=by
 simp only[names,List.mem_cons,List.not_mem_nil,or_false]at h;rcases h with rfl|rfl|rfl|rfl|rfl
 · exact rn0_ok.frame (z4G rfl) σ
 · exact rn1_ok.frame (z4G rfl) σ
 · exact rn2_ok.frame (z4G rfl) σ
 · exact rn3_ok.frame (z4G rfl) σ
 · exact rn4_ok.frame (z4G rfl) σ
theorem z4J (v:ByteArray) (h:v∈values):1≤v.size∧v.size≤24:=by
 simp only[values,List.mem_cons,List.not_mem_nil,or_false]at h;rcases h with rfl|rfl|rfl|rfl|rfl|rfl|rfl<;>exact⟨by decide,by decide⟩
theorem z5x (v:ByteArray) (h:v∈values):Ans Tryz.prog 156 [Sx v] σ (Bo true) σ:=by
 obtain⟨h1,h2⟩:=z4J v h;have d1:decide ((1:Int)≤(v.size:Nat))=true:=by simp;omega
 have d2:decide (((v.size:Nat):Int)≤24)=true:=by simp;omega
 refine Ans.of_run t156 ?_;simp -implicitDefEqProofs only[c156,r156,go_sem,d1,d2];exact Fini.ret rfl
theorem zax (L:List Lab) (hd:z1M L) (hl:L.length≤1000):Ans Tryz.prog 130 [.sl 2 (lvs L)] σ (Bo (z2J L)) σ:=by
 refine Ans.of_run t130 ?_;unfold z2J;have e1:decide ((((lvs L).length:Nat):Int)<1)=decide (L.length<1):=by rw[z0g,Bool.eq_iff_iff];simp only[decide_eq_true_eq];omega
 have e2:decide ((6:Int)<(((lvs L).length:Nat):Int))=decide (6<L.length):=by rw[z0g,Bool.eq_iff_iff];simp only[decide_eq_true_eq];omega
 simp -implicitDefEqProofs only[c130,r130,go_sem,e1];cases h1:decide (L.length<1)
 case true =>
  simp -implicitDefEqProofs only[go_sem,Bool.true_or];exact Fini.ret rfl
 simp -implicitDefEqProofs only[go_sem,e2,Bool.false_or];cases h2:decide (6<L.length)
 case true =>
  simp -implicitDefEqProofs only[go_sem];exact Fini.ret rfl
 simp -implicitDefEqProofs only[go_sem];generalize hres:isGo L L.length 0=res
 refine Go.Ab.L.intro (α:={ x:Nat×Nat // x.2+x.1=L.length∧isGo L x.1 x.2=res }) (fun x=>x.1.1)
  (fun x=>mkE 52 [(0,.sl 2 (lvs L)),(3,I x.1.2)]) (fun _=>σ) (fun x J hJ=>?_) ⟨(L.length,0),by simp,hres⟩ rfl rfl
 obtain⟨⟨k,i⟩,hi,hg⟩:=x;simp only at hi hg hJ⊢
 cases k with
 |zero =>
  have hlt:¬i<L.length:=by omega
  rw[isGo]at hg;simp -implicitDefEqProofs only[mkE,go_sem,z0g,z2u hlt,z2v hlt];rw[←hg];exact Fini.ret rfl
 |succ k =>
  have hlt:i<L.length:=by omega
  have hx:=z3X L i hlt;obtain⟨d1,d2⟩:=hd L[i] (List.getElem_mem hlt);have hgd:L.getD i (⟨#[]⟩,⟨#[]⟩)=L[i]:=by rw[List.getD_eq_getElem?_getD,List.getElem?_eq_getElem hlt];rfl
  rw[isGo]at hg;simp -implicitDefEqProofs only[mkE,go_sem,z0g,z0j hlt,dec_lt hlt,hx,z00]
  first
  |refine CD.intro (z6O _ _ d1) ?_
  |refine CS.intro (fun s=>z6O s _ d1) ?_
  simp -implicitDefEqProofs only[go_sem,z0g,z0j hlt,dec_lt hlt,hx,z00]
  first
  |refine CD.intro (z5x _ _ d2) ?_
  |refine CS.intro (fun s=>z5x s _ d2) ?_
  have e0:decide ((0:Int)<(i:Nat))=decide (0<i):=by rw[Bool.eq_iff_iff];simp
  unfold badAt at hg;rw[hgd]at hg;simp -implicitDefEqProofs only[go_sem,e0];cases h0:decide (0<i)
  · rw[h0,Bool.false_and,if_neg Bool.false_ne_true]at hg;have hJ':=hJ ⟨(k,i+1),by simp only;omega,hg⟩ (Nat.lt_succ_self k)
    simp only at hJ';simp -implicitDefEqProofs only[go_sem,wrap_succ (show i≤100000 by omega)]
    exact hJ'
  · have hi0:0<i:=by simpa using h0
    have hlt2:i-1<L.length:=by omega
    have hx2:=z3X L (i-1) hlt2;have hgd2:L.getD (i-1) (⟨#[]⟩,⟨#[]⟩)=L[i-1]:=by rw[List.getD_eq_getElem?_getD,List.getElem?_eq_getElem hlt2];rfl
    have e3:IntKind.i64.wrap ((i:Int)-1)=((i-1:Nat):Int):=by rw[wrapN (by omega) (by omega)];omega
    rw[h0,Bool.true_and,hgd2]at hg;cases hb:leS L[i].1 L[i-1].1
    · rw[hb,if_neg Bool.false_ne_true]at hg;have hb':(Op.bytesLess L[i].1.toList L[i-1].1.toList||L[i].1.toList==L[i-1].1.toList)=false:=hb;have hJ':=hJ ⟨(k,i+1),by simp only;omega,hg⟩ (Nat.lt_succ_self k)
      simp only at hJ';simp -implicitDefEqProofs only[go_sem,e3,hx,hx2,z0g,z0j hlt2,z0j hlt,hb',wrap_succ (show i≤100000 by omega)]
      exact hJ'
    · rw[hb,if_pos rfl]at hg;have hb':(Op.bytesLess L[i].1.toList L[i-1].1.toList||L[i].1.toList==L[i-1].1.toList)=true:=hb;simp -implicitDefEqProofs only[go_sem,e3,hx,hx2,z0g,z0j hlt2,z0j hlt,hb'];rw[←hg];exact Fini.ret rfl
end
abbrev noL:Lab:=(⟨#[]⟩,⟨#[]⟩)
def pos (out:List Lab) (x:Lab):Nat→Nat
 |0=>0
 |n+1=>if Op.bytesLess x.1.toList (out.getD n noL).1.toList then pos out x n else n+1
def insL (out:List Lab) (x:Lab):List Lab:=out.take (pos out x out.length)++[x]++out.drop (pos out x out.length)
def setL (L:List Lab):List Lab:=L.foldl insL []
theorem zay (out:List Lab) (x:Lab):∀n,pos out x n≤n
 |0=>Nat.le_refl _
 |n+1=>by
  rw[pos];split
  · exact Nat.le_succ_of_le (zay out x n)
  · exact Nat.le_refl _
theorem zcf (out:List Lab) (x:Lab):(insL out x).length=out.length+1:=by
 have:=zay out x out.length;simp only[insL,List.length_append,List.length_take,List.length_drop,List.length_cons,List.length_nil];omega
theorem zaz (L:List Lab) (x:Lab):setL (L++[x])=insL (setL L) x:=by simp[setL]
theorem zaA (L:List Lab):∀acc:List Lab,(L.foldl insL acc).length=acc.length+L.length:=by
 induction L with
 |nil=>intro acc;rfl
 |cons x L ih=>intro acc;rw[List.foldl_cons,ih,zcf];simp;omega
theorem z5X (L:List Lab):(setL L).length=L.length:=by rw[setL,zaA];simp
theorem z5Y {out:List Lab} {x y:Lab} (h:y∈insL out x):y=x∨y∈out:=by
 simp only[insL,List.mem_append,List.mem_cons,List.not_mem_nil,or_false]at h;rcases h with(h|h)|h
 · exact .inr (List.mem_of_mem_take h)
 · exact .inl h
 · exact .inr (List.mem_of_mem_drop h)
theorem zaB (L:List Lab):∀(acc:List Lab),∀y∈L.foldl insL acc,y∈acc∨y∈L:=by
 induction L with
 |nil=>intro acc y hy;exact .inl hy
 |cons x L ih =>
  intro acc y hy;rcases ih _ y hy with h|h
  · rcases z5Y h with rfl|h
    · exact .inr List.mem_cons_self
    · exact .inl h
  · exact .inr (List.mem_cons_of_mem _ h)
theorem z8J (L:List Lab):∀y∈setL L,y∈L:=fun y hy=>by
 rcases zaB L [] y hy with h|h
 · cases h
 · exact h
theorem z8K (L:List Lab) (k:Nat):(lvs L).take k=lvs (L.take k):=by simp[lvs]
theorem z8L (L:List Lab) (k:Nat):(lvs L).drop k=lvs (L.drop k):=by simp[lvs]
theorem zaC (L:List Lab) (f:AV→Bool) (h:∀x:Lab,f (lv x)=true):(lvs L).all f=true:=by
 simp only[lvs,List.all_map,List.all_eq_true];exact fun x _=>h x
theorem z5Z:lvs []=[]:=rfl
theorem z6P (L:List Lab):(lvs L).isEmpty=L.isEmpty:=by simp[lvs]
theorem z8M (n:Nat) (x:Lab):Bel n (lv x):=by
 refine .agg _ fun i hi=>?_
 have:∀y∈[Sx x.1,Sx x.2],Bel n y:=by
  intro y hy;simp only[List.mem_cons,List.not_mem_nil,or_false]at hy;rcases hy with rfl|rfl<;>exact .pl _
 exact this _ (List.getElem_mem hi)
theorem z3Y (n:Nat) (L:List Lab):Bel n (.sl 2 (lvs L)):=by
 refine .sl 2 _ fun i hi=>?_
 have:∀y∈lvs L,Bel n y:=by
  intro y hy;simp only[lvs,List.mem_map]at hy;obtain⟨x,_,rfl⟩:=hy;exact z8M n x
 exact this _ (List.getElem_mem hi)
theorem B_pl (n:Nat) (v:Value):Bel n (.pl v)=True:=eq_true (.pl v)
theorem B_any (n:Nat):Bel n .any=True:=eq_true .any
theorem z1R (n:Nat):Bel n .nils=True:=eq_true .nils
theorem B_tup (n:Nat):Bel n (.tup [])=True:=eq_true (.tup _ fun i hi=>absurd hi (Nat.not_lt_zero _))
theorem B_lv (n:Nat) (x:Lab):Bel n (lv x)=True:=eq_true (z8M n x)
theorem B_lvs (n:Nat) (L:List Lab):Bel n (.sl 2 (lvs L))=True:=eq_true (z3Y n L)
theorem B_sl1 (n:Nat) (x:Lab):Bel n (.sl 2 [lv x])=True:=eq_true (z3Y n [x])
theorem z7Z (A B:List Lab) (x:Lab):lvs (A++[x]++B)=lvs A++lv x::lvs B:=by simp[lvs]
theorem B_mid (n:Nat) (A B:List Lab) (a b:ByteArray):Bel n (.sl 2 (lvs A++.agg [Sx a,Sx b]::lvs B))=True:=eq_true (by have:=z3Y n (A++[(a,b)]++B);rwa [z7Z]at this)
theorem zd7 (n:Nat) (B:List Lab) (a b:ByteArray):Bel n (.sl 2 (.agg [Sx a,Sx b]::lvs B))=True:=eq_true (z3Y n ((a,b)::B))
theorem B_rp2 (n:Nat) (a b:ByteArray):Bel n (.rp [Sx a,Sx b])=True:=eq_true (.rp _ fun i hi=>by
 have:∀y∈[Sx a,Sx b],Bel n y:=by
  intro y hy;simp only[List.mem_cons,List.not_mem_nil,or_false]at hy;rcases hy with rfl|rfl<;>exact .pl _
 exact this _ (List.getElem_mem hi))
theorem B_sl0 (n k:Nat):Bel n (.sl k [])=True:=eq_true (.sl k [] fun i hi=>absurd hi (Nat.not_lt_zero _))
theorem B_osl (n l k:Nat):Bel n (.osl l k)=(l<n):=by
 apply propext;constructor
 · intro h;cases h;assumption
 · intro h;exact .osl l k h
theorem B_ptr (n l k:Nat):Bel n (.ptr l k)=(l<n):=by
 apply propext;constructor
 · intro h;cases h;assumption
 · intro h;exact .ptr l k h
theorem z6Q (n:Nat) (a b:ByteArray):Bel n (.agg [Sx a,Sx b])=True:=eq_true (z8M n (a,b))
section
variable (σ:St)
theorem g0 (x:Ob) (ex:St):(σ++x::ex)[σ.length]?=some x:=by rw[List.getElem?_append_right (by simp)];simp
theorem s0 (x y:Ob) (ex:St):(σ++x::ex).set σ.length y=σ++y::ex:=by rw[List.set_append_right _ _ (by simp)];simp
theorem tr_ {rvs:List RV} {r:AV} {σ σ' ex:St} {env:Env} (he:σ=σ'++ex) (hb:Bel σ'.length r) (ho:∀o∈σ',BelO σ'.length o) (h:resA env σ rvs=some r:=by simp -implicitDefEqProofs only[go_sem,resA,z04,rvA,oneOf,g0]<;>rfl):Fini σ'.length rvs r σ' .ret env σ:=Fini.trim2 h he (Nat.le_refl _) hb ho
def setV (L:List Lab):AV:=if z2J (setL L) then .sl 2 (lvs (setL L)) else .nils
theorem z80 (L:List Lab) (hd:z1M L) (hl:L.length≤100):Ans Tryz.prog 135 [.sl 2 (lvs L)] σ (.tup [setV L,Bo (z2J (setL L))]) σ:=by
 refine Ans.of_run' t135 (fun hbel _=>?_)
 have hbel':(∀o∈σ,BelO σ.length o)=True:=eq_true hbel;simp -implicitDefEqProofs only[c135,r135,go_sem,B_pl,B_any,z1R,B_tup,B_lv,B_lvs,B_sl1,B_osl,B_ptr,z6Q,B_sl0,List.take_left,hbel',g0,s0,List.length_append,Nat.le_add_right];refine Go.Ab.L.count L.length (fun i=>mkE 51 [(0,.sl 2 (lvs L)),(4,.sl 2 (lvs (setL (L.take i)))),(5,I i)]) (fun _=>σ) ?_ ?_ rfl rfl
 · intro i hi Q hQ;have hx:=z3X L i hi;have hol:(setL (L.take i)).length=i:=by rw[z5X];simp;omega
   rw[List.take_succ_eq_append_getElem hi,zaz]at hQ;generalize setL (L.take i)=out at hol hQ⊢;simp -implicitDefEqProofs only[mkE,go_sem,z0g,z0j hi,dec_lt hi];unfold insL at hQ;generalize hp:pos out L[i] out.length=p at hQ
   refine Go.Ab.L.intro (α:={ n:Nat // n≤out.length∧pos out L[i] n=p }) (fun x=>x.1) (fun x=>mkE 51 [(0,.sl 2 (lvs L)),(4,.sl 2 (lvs out)),(5,I i),(6,I x.1)]) (fun _=>σ)
    (fun x J hJ=>?_) ⟨out.length,Nat.le_refl _,hp⟩ rfl rfl
   obtain⟨n,hn,hpn⟩:=x;simp only at hJ⊢
   cases n with
   |zero =>
    rw[pos]at hpn;subst hpn;have d00:decide ((0:Int)<((0:Nat):Int))=false:=by decide
    have h1:(1≤2^32)=True:=by simp
    have hp32:(1+out.length≤2^32)=True:=by simp;omega
    have q1:(1+out.length=out.length+1)=True:=by simp;omega
    rw[z7Z]at hQ;simp -implicitDefEqProofs only[mkE,go_sem,q1,d00,z0g,z0j hi,hx,Int.natCast_zero,Int.le_refl,Int.toNat_zero,List.take_length,List.drop_zero,List.drop_nil,z5Z,z8K,z8L,zaC,z6P,z0g,g0,s0,B_pl,B_any,z1R,B_tup,B_lv,B_lvs,B_sl1,B_osl,B_ptr,z6Q,B_sl0,hp32,h1,zd7,B_mid,B_rp2,List.take_left,hbel',List.length_append,List.append_assoc,Nat.le_add_right,wrap_succ (show i≤100000 by omega)]
    exact hQ
   |succ n =>
    have hx2:=z3X out n hn;have hgd:out.getD n noL=out[n]:=by rw[List.getD_eq_getElem?_getD,List.getElem?_eq_getElem hn];rfl
    have d0:decide ((0:Int)<((n+1:Nat):Int))=true:=by simp
    have e1:IntKind.i64.wrap (((n+1:Nat):Int)-1)=(n:Int):=by rw[wrapN (by omega) (by omega)];omega
    rw[pos,hgd]at hpn;cases hb:Op.bytesLess L[i].1.toList out[n].1.toList
    · rw[hb,if_neg Bool.false_ne_true]at hpn;subst hpn;have p1:(((n+1:Nat):Int)≤(out.length:Nat))=True:=by simp;omega
      have p2:(out.take (n+1)).isEmpty=false:=by
       cases h:out.take (n+1) with
       |nil =>
        have:(out.take (n+1)).length=0:=by rw[h];rfl
        rw[List.length_take]at this;omega
       |cons _ _=>rfl
      have p3:(out.take (n+1)).length=n+1:=by simp;omega
      have p4:(out.drop (n+1)).length=out.length-(n+1):=by simp
      have p5:(n+1≤2^32)=True:=by simp;omega
      have p6:(n+1+1≤2^32)=True:=by simp;omega
      have p7:(n+1+1+(out.length-(n+1))≤2^32)=True:=by simp;omega
      have q2:(n+1+1+(out.length-(n+1))=n+1+(out.length-(n+1)+1))=True:=by simp;omega
      rw[z7Z]at hQ;simp -implicitDefEqProofs only[mkE,go_sem,q2,d0,e1,z0g,z0j hi,z0j hn,hx,hx2,hb,Int.natCast_zero,Int.le_refl,Int.toNat_zero,List.take_length,List.drop_zero,List.drop_nil,z5Z,z8K,z8L,zaC,z6P,z0g,g0,s0,B_pl,B_any,z1R,B_tup,B_lv,B_lvs,B_sl1,B_osl,B_ptr,z6Q,B_sl0,zd7,B_mid,B_rp2,List.take_left,hbel',List.length_append,List.append_assoc,Nat.le_add_right,wrap_succ (show i≤100000 by omega),p1,p2,p3,p4,p5,p6,p7]
      exact hQ
    · rw[hb,if_pos rfl]at hpn;have hJ':=hJ ⟨n,by omega,hpn⟩ (Nat.lt_succ_self n)
      simp only at hJ';simp -implicitDefEqProofs only[mkE,go_sem,d0,e1,z0g,z0j hi,z0j hn,hx,hx2,hb];exact hJ'
 · intro Q;have hlt:¬L.length<L.length:=Nat.lt_irrefl _;have hdr:z1M (setL L):=fun x hx=>hd x (z8J L x hx)
   rw[List.take_length];simp -implicitDefEqProofs only[mkE,go_sem,z0g,z2u hlt,z2v hlt];refine CO.intro (zax σ (setL L) hdr (by rw[z5X];omega)) ?_
   unfold setV;cases hs:z2J (setL L)
   · simp -implicitDefEqProofs only[go_sem];exact Fini.ret rfl
   · simp -implicitDefEqProofs only[go_sem];exact Fini.ret rfl
end
end Go.Proofs.YtmkmhhjkdaklbaaGreat
