/- What the functions do, over abstract values: printed by a program, checked by the kernel. No condition. -/
import Derived.Test.YtmkmhhjkdaklbaaGreatProg
import Derived.Test.YtmkmhhjkdaklbaaGreatAbStepx
set_option linter.unusedSimpArgs false
set_option linter.unusedVariables false
set_option linter.unusedSectionVars false
namespace Go.Proofs.YtmkmhhjkdaklbaaGreat
open Go Go.Ab
set_option maxRecDepth 100000
def c54:ACode :=
 (sq_ [pr_ 2 (.mov (.const (.pointer none)))]
 (sq_ [mv_ 3 0,
 pr_ 4 (.build [.nils,.pl (.int .i64 0),.pl (.bool false)] [(0,1,(.tmp 3))]),
 pr_ 5 (.boxm (.tmp 4)),
 mv_ 2 5]
 .ret))
def o54:List Tmp:=[5]
def r54:List RV:=[.tmp 2]
theorem t54:Text Tryz.prog 54 o54 c54 r54 6:=.mk_ Tryz.f54 rfl
def c56:ACode :=
 (sq_ [pr_ 2 (.mov (.const (.slice none 0 0))),
 pr_ 3 (mi_ .i64 0),
 pr_ 4 mf_]
 (sq_ [mv_ 9 0,
 c1_ 10 54 9,
 mv_ 5 10]
 (.seq (.after (.ops [pr_ 6 (.mov (.const (.slice none 0 0)))]) (.own 6 3))
 (.seq (sq_ [mv_ 11 5,
 cl_ 12 59 [(.tmp 11),(.const (.int .u64 5))],
 pr_ 13 (mi_ .u64 0)]
 (.block 0 (.loop [0,1,2,3,4,7,8,9,10,11,14,15,16,17,18,19,20,21,22,23,24,25,26,27,28,29,30,31,32,33,34,35,36,37,38,39] (sq_ [pr_ 14 (bt_ .lss 13 12)]
 (.seq (.cond (.tmp 14)
 .skip
 (.exit 0))
 (.seq (.block 1 (.ops [mv_ 15 6,
 mv_ 16 5,
 c1_ 17 83 16,
 pr_ 18 (.convi .i64 (.tmp 17)),
 mv_ 19 5,
 cl_ 20 60 [(.tmp 19),(.const (.int .i64 12))],
 mv_ 21 5,
 cl_ 22 60 [(.tmp 21),(.const (.int .i64 40))],
 pr_ 23 (.build [.pl (.int .i64 0),.pl (.string .empty),.pl (.string .empty)] [(0,1,(.tmp 18)),(1,1,(.tmp 20)),(2,1,(.tmp 22))]),
 pr_ 24 (.bsl false 3 true 1 [.pl (.int .i64 0),.pl (.string .empty),.pl (.string .empty)] [(0,3,(.tmp 23))]),
 pr_ 25 (.app 3 (.tmp 15) (.tmp 24)),
 mv_ 6 25]))
 (.ops [pr_ 26 (bk_ .add 13 .u64 1),
 mv_ 13 26])))))))
 (.seq (.ghost (.shut 6) (.ops [mv_ 27 5,
 mv_ 28 6,
 c1_ 29 106 28,
 cl_ 30 61 [(.tmp 27),(.tmp 29)]]))
 (sq_ [mv_ 32 5,
 c1_ 33 62 32,
 mv_ 31 33,
 pr_ 34 (ex_ 0 31),
 pr_ 35 (ex_ 1 31),
 mv_ 7 34,
 mv_ 8 35]
 (.seq (sq_ [mv_ 36 8,
 pr_ 37 (no_ 36)]
 (.cond (.tmp 37)
 (sq_ [pr_ 2 (.mov (.const (.slice none 0 0))),
 pr_ 3 (mi_ .i64 0),
 pr_ 4 mf_]
 (.ghost (.shut 2) .ret))
 .skip))
 (sq_ [mv_ 38 6,
 mv_ 39 7,
 mv_ 2 38,
 mv_ 3 39,
 pr_ 4 mt_]
 (.ghost (.shut 2) .ret)))))))))
def o56:List Tmp:=[]
def r56:List RV:=[.tmp 2,.tmp 3,.tmp 4]
theorem t56:Text Tryz.prog 56 o56 c56 r56 40:=.mk_ Tryz.f56 rfl
def c59:ACode :=
 (sq_ [pr_ 4 (mi_ .u64 0)]
 (sq_ [mv_ 9 0,
 c1_ 10 112 9,
 c1_ 11 115 10,
 mv_ 8 11,
 pr_ 12 (ex_ 0 8),
 pr_ 13 (ex_ 1 8),
 pr_ 14 (ex_ 2 8),
 mv_ 5 12,
 mv_ 6 13,
 mv_ 7 14]
 (.seq (sq_ [mv_ 15 0,
 mv_ 16 6,
 mv_ 17 7,
 mv_ 18 17,
 gp_ 19 18 true (mo_ 5),
 gp_ 20 18 true (mo_ 1),
 gp_ 21 18 true (bt_ .leq 19 20),
 pr_ 22 (pa_ 18 21),
 cl_ 23 113 [(.tmp 15),(.tmp 16),(.tmp 22)],
 pr_ 24 (no_ 23)]
 (.cond (.tmp 24)
 (sq_ [pr_ 4 (mi_ .u64 0)]
 .ret)
 .skip))
 (sq_ [mv_ 25 5,
 mv_ 4 25]
 .ret))))
def o59:List Tmp:=[]
def r59:List RV:=[.tmp 4]
theorem t59:Text Tryz.prog 59 o59 c59 r59 26:=.mk_ Tryz.f59 rfl
def c60:ACode :=
 (sq_ [pr_ 4 (.mov (.const (.string (ByteArray.mk #[]))))]
 (sq_ [mv_ 9 0,
 c1_ 10 112 9,
 mv_ 11 1,
 cl_ 12 116 [(.tmp 10),(.tmp 11)],
 mv_ 8 12,
 pr_ 13 (ex_ 0 8),
 pr_ 14 (ex_ 1 8),
 pr_ 15 (ex_ 2 8),
 mv_ 5 13,
 mv_ 6 14,
 mv_ 7 15]
 (.seq (sq_ [mv_ 16 0,
 mv_ 17 6,
 mv_ 18 7,
 cl_ 19 113 [(.tmp 16),(.tmp 17),(.tmp 18)],
 pr_ 20 (no_ 19)]
 (.cond (.tmp 20)
 (sq_ [pr_ 4 (.mov (.const (.string (ByteArray.mk #[]))))]
 .ret)
 .skip))
 (sq_ [mv_ 21 5,
 mv_ 4 21]
 .ret))))
def o60:List Tmp:=[]
def r60:List RV:=[.tmp 4]
theorem t60:Text Tryz.prog 60 o60 c60 r60 22:=.mk_ Tryz.f60 rfl
def c61:ACode :=
 (.ops [mv_ 4 0,
 mv_ 5 1,
 cl_ 6 113 [(.tmp 4),(.const (.int .i64 0)),(.tmp 5)]])
def o61:List Tmp:=[]
def r61:List RV:=[]
theorem t61:Text Tryz.prog 61 o61 c61 r61 7:=.mk_ Tryz.f61 rfl
def c62:ACode :=
 (sq_ [pr_ 2 (mi_ .i64 0),
 pr_ 3 mf_]
 (.seq (sq_ [mv_ 4 0,
 pr_ 5 (nc_ 4),
 pr_ 6 (fa_ 2 5),
 pr_ 7 (lf_ 1 6)]
 (.cond (.tmp 7)
 (sq_ [pr_ 2 (mi_ .i64 0),
 pr_ 3 mf_]
 .ret)
 .skip))
 (sq_ [mv_ 8 0,
 pr_ 9 (nc_ 8),
 pr_ 10 (fa_ 1 9),
 pr_ 11 (lf_ 1 10),
 mv_ 2 11,
 pr_ 3 mt_]
 .ret)))
def o62:List Tmp:=[]
def r62:List RV:=[.tmp 2,.tmp 3]
theorem t62:Text Tryz.prog 62 o62 c62 r62 12:=.mk_ Tryz.f62 rfl
def c71:ACode :=
 (sq_ [pr_ 2 (.mov (.const (.slice none 0 0)))]
 (.seq (.after (.ops [pr_ 3 (.mov (.const (.slice none 0 0)))]) (.own 3 1))
 (.seq (.block 0 (.loop [1,2,4,5,6,7,8,9,10,11,12,13,14,15,16,17,18] (.seq (sq_ [mv_ 4 0,
 pr_ 5 (bk_ .geq 4 .u64 128)]
 (.cond (.tmp 5)
 .skip
 (.exit 0)))
 (.block 1 (sq_ [mv_ 6 3,
 mv_ 7 0,
 pr_ 8 (.convi .u8 (.tmp 7)),
 pr_ 9 (bk_ .or 8 .u8 128),
 pr_ 10 (.bsl false 1 false 1 [.pl (.int .u8 0)] [(0,1,(.tmp 9))]),
 pr_ 11 (.app 1 (.tmp 6) (.tmp 10)),
 mv_ 3 11]
 (.ops [mv_ 12 0,
 pr_ 13 (bk_ .shr 12 .u64 7),
 mv_ 0 13]))))))
 (sq_ [mv_ 14 3,
 mv_ 15 0,
 pr_ 16 (.convi .u8 (.tmp 15)),
 pr_ 17 (.bsl false 1 false 1 [.pl (.int .u8 0)] [(0,1,(.tmp 16))]),
 pr_ 18 (.app 1 (.tmp 14) (.tmp 17)),
 mv_ 2 18]
 .ret))))
def o71:List Tmp:=[]
def r71:List RV:=[.tmp 2]
theorem t71:Text Tryz.prog 71 o71 c71 r71 19:=.mk_ Tryz.f71 rfl
def c72:ACode :=
 (sq_ [pr_ 2 (.mov (.const (.slice none 0 0)))]
 (sq_ [mv_ 3 0,
 pr_ 4 (.lens (.tmp 3)),
 pr_ 5 (.convi .u64 (.tmp 4)),
 c1_ 6 71 5,
 mv_ 7 0,
 pr_ 8 (.app 1 (.tmp 6) (.tmp 7)),
 mv_ 2 8]
 .ret))
def o72:List Tmp:=[]
def r72:List RV:=[.tmp 2]
theorem t72:Text Tryz.prog 72 o72 c72 r72 9:=.mk_ Tryz.f72 rfl
def c73:ACode :=
 (sq_ [pr_ 2 (.mov (.const (.slice none 0 0)))]
 (.seq (sq_ [mv_ 5 0,
 c1_ 6 117 5,
 pr_ 7 (no_ 6)]
 (.cond (.tmp 7)
 (sq_ [pr_ 2 (.mov (.const (.slice none 0 0)))]
 .ret)
 .skip))
 (sq_ [mv_ 8 0,
 pr_ 9 (.lenv (.tmp 8)),
 pr_ 10 (.convi .u64 (.tmp 9)),
 c1_ 11 75 10,
 mv_ 3 11]
 (.seq (sq_ [pr_ 4 (mi_ .i64 0)]
 (.block 0 (.loop [1,2,5,6,7,8,9,10,11,12,13,14,15,16,17,18,19,20,21,22,23,24,25,26,27,28,29,30,31,32,33,34,35,36,37,38,39,40,41,42] (.seq (sq_ [mv_ 12 4,
 mv_ 13 0,
 pr_ 14 (.lenv (.tmp 13)),
 pr_ 15 (bt_ .lss 12 14)]
 (.cond (.tmp 15)
 .skip
 (.exit 0)))
 (.seq (.block 1 (sq_ [mv_ 18 3,
 mv_ 19 0,
 mv_ 20 4,
 pr_ 21 (.iadrs 3 (.tmp 19) (.tmp 20)),
 pr_ 22 (fa_ 0 21),
 pr_ 23 (lf_ 1 22),
 pr_ 24 (.convi .u8 (.tmp 23)),
 pr_ 25 (.bsl false 1 false 1 [.pl (.int .u8 0)] [(0,1,(.tmp 24))]),
 pr_ 26 (.app 1 (.tmp 18) (.tmp 25)),
 mv_ 3 26]
 (.draw [⟨mv_ 27 3,[],false,0,1⟩,
 ⟨mv_ 28 0,[],false,0,0⟩,
 ⟨mv_ 29 4,[],false,0,0⟩,
 ⟨pr_ 30 (.iadrs 3 (.tmp 28) (.tmp 29)),[1,2],false,0,0⟩,
 ⟨pr_ 31 (fa_ 1 30),[1,2,3],false,0,0⟩,
 ⟨pr_ 32 (lf_ 1 31),[1,2,3,4],false,0,0⟩,
 ⟨c1_ 33 76 32,[1,2,3,4,5],true,0,0⟩,
 ⟨pr_ 34 (.app 1 (.tmp 27) (.tmp 33)),(List.range 7),true,0,0⟩,
 ⟨mv_ 35 0,[],false,0,2⟩,
 ⟨mv_ 36 4,[],false,0,2⟩,
 ⟨pr_ 37 (.iadrs 3 (.tmp 35) (.tmp 36)),[8,9],false,0,2⟩,
 ⟨pr_ 38 (fa_ 2 37),[8,9,10],false,0,2⟩,
 ⟨pr_ 39 (lf_ 1 38),[8,9,10,11],false,0,2⟩,
 ⟨c1_ 40 76 39,(List.range 13),true,0,0⟩,
 ⟨pr_ 41 (.app 1 (.tmp 34) (.tmp 40)),(List.range 14),true,0,0⟩,
 ⟨mv_ 3 41,(List.range 15),false,4,4⟩])))
 (.ops [mv_ 16 4,
 pr_ 17 (bk_ .add 16 .i64 1),
 mv_ 4 17]))))))
 (sq_ [mv_ 42 3,
 mv_ 2 42]
 .ret)))))
def o73:List Tmp:=[]
def r73:List RV:=[.tmp 2]
theorem t73:Text Tryz.prog 73 o73 c73 r73 43:=.mk_ Tryz.f73 rfl
def c75:ACode :=
 (sq_ [pr_ 2 (.mov (.const (.slice none 0 0)))]
 (.seq (.after (.ops [pr_ 3 (.mov (.const (.slice none 0 0)))]) (.own 3 1))
 (.seq (.block 0 (.loop [1,2,4,5,6,7,8,9,10,11,12,13,14,15,16,17,18,19] (.seq (sq_ [mv_ 4 0,
 pr_ 5 (bk_ .geq 4 .u64 128)]
 (.cond (.tmp 5)
 .skip
 (.exit 0)))
 (.block 1 (sq_ [mv_ 6 3,
 mv_ 7 0,
 pr_ 8 (bk_ .rem 7 .u64 128),
 pr_ 9 (.convi .u8 (.tmp 8)),
 pr_ 10 (bk_ .add 9 .u8 128),
 pr_ 11 (.bsl false 1 false 1 [.pl (.int .u8 0)] [(0,1,(.tmp 10))]),
 pr_ 12 (.app 1 (.tmp 6) (.tmp 11)),
 mv_ 3 12]
 (.ops [mv_ 13 0,
 pr_ 14 (bk_ .quo 13 .u64 128),
 mv_ 0 14]))))))
 (sq_ [mv_ 15 3,
 mv_ 16 0,
 pr_ 17 (.convi .u8 (.tmp 16)),
 pr_ 18 (.bsl false 1 false 1 [.pl (.int .u8 0)] [(0,1,(.tmp 17))]),
 pr_ 19 (.app 1 (.tmp 15) (.tmp 18)),
 mv_ 2 19]
 .ret))))
def o75:List Tmp:=[]
def r75:List RV:=[.tmp 2]
theorem t75:Text Tryz.prog 75 o75 c75 r75 20:=.mk_ Tryz.f75 rfl
def c76:ACode :=
 (sq_ [pr_ 2 (.mov (.const (.slice none 0 0)))]
 (sq_ [mv_ 3 0,
 pr_ 4 (.lens (.tmp 3)),
 pr_ 5 (.convi .u64 (.tmp 4)),
 c1_ 6 75 5,
 mv_ 7 0,
 pr_ 8 (.app 1 (.tmp 6) (.tmp 7)),
 mv_ 2 8]
 .ret))
def o76:List Tmp:=[]
def r76:List RV:=[.tmp 2]
theorem t76:Text Tryz.prog 76 o76 c76 r76 9:=.mk_ Tryz.f76 rfl
def c83:ACode :=
 (sq_ [pr_ 2 (mi_ .u8 0)]
 (sq_ [mv_ 4 0,
 c1_ 5 112 4,
 mv_ 3 5]
 (.seq (sq_ [mv_ 6 0,
 mv_ 7 3,
 pr_ 8 (.lenv (.tmp 7)),
 pr_ 9 (bk_ .gtr 8 .i64 0),
 cl_ 10 113 [(.tmp 6),(.const (.int .i64 1)),(.tmp 9)],
 pr_ 11 (no_ 10)]
 (.cond (.tmp 11)
 (sq_ [pr_ 2 (mi_ .u8 0)]
 .ret)
 .skip))
 (sq_ [mv_ 12 3,
 pr_ 13 (.iadrs 1 (.tmp 12) (.const (.int .i64 0))),
 pr_ 14 (lf_ 1 13),
 mv_ 2 14]
 .ret))))
def o83:List Tmp:=[]
def r83:List RV:=[.tmp 2]
theorem t83:Text Tryz.prog 83 o83 c83 r83 15:=.mk_ Tryz.f83 rfl
def c112:ACode :=
 (sq_ [pr_ 2 (.mov (.const (.slice none 0 0)))]
 (.seq (.draw [⟨mv_ 3 0,[],false,0,0⟩,
 ⟨pr_ 4 (nc_ 3),[0],false,0,0⟩,
 ⟨pr_ 5 (fa_ 0 4),[0,1],false,0,0⟩,
 ⟨pr_ 6 (lf_ 1 5),[0,1,2],false,0,0⟩,
 ⟨mv_ 7 0,[],false,0,0⟩,
 ⟨pr_ 8 (nc_ 7),[4],false,0,0⟩,
 ⟨pr_ 9 (fa_ 1 8),[4,5],false,0,0⟩,
 ⟨pr_ 10 (lf_ 1 9),[4,5,6],false,0,0⟩,
 ⟨pr_ 11 (.slcv 1 (.tmp 6) (some (.tmp 10)) none),(List.range 8),false,0,0⟩,
 ⟨mv_ 2 11,(List.range 9),false,0,0⟩])
 (.ghost (.shut 2) .ret)))
def o112:List Tmp:=[]
def r112:List RV:=[.tmp 2]
theorem t112:Text Tryz.prog 112 o112 c112 r112 12:=.mk_ Tryz.f112 rfl
def c113:ACode :=
 (sq_ [pr_ 6 mf_]
 (sq_ [mv_ 7 0,
 mv_ 8 0,
 pr_ 9 (nc_ 8),
 pr_ 10 (fa_ 2 9),
 pr_ 11 (lf_ 1 10),
 mv_ 12 11,
 gp_ 13 12 false (mo_ 2),
 gp_ 14 12 false (no_ 13),
 pr_ 15 (po_ 12 14),
 pr_ 16 (nc_ 7),
 pr_ 17 (fa_ 2 16),
 st_ (so_ 1 17 15)]
 (.seq (sq_ [mv_ 18 0,
 pr_ 19 (nc_ 18),
 pr_ 20 (fa_ 2 19),
 pr_ 21 (lf_ 1 20),
 pr_ 22 (no_ 21)]
 (.cond (.tmp 22)
 (.ops [mv_ 23 0,
 pr_ 24 (nc_ 23),
 pr_ 25 (fa_ 1 24),
 pr_ 26 (lf_ 1 25),
 mv_ 27 1,
 pr_ 28 (bt_ .add 26 27),
 pr_ 29 (nc_ 23),
 pr_ 30 (fa_ 1 29),
 st_ (so_ 1 30 28)])
 .skip))
 (sq_ [mv_ 31 0,
 pr_ 32 (nc_ 31),
 pr_ 33 (fa_ 2 32),
 pr_ 34 (lf_ 1 33),
 pr_ 35 (no_ 34),
 mv_ 6 35]
 .ret))))
def o113:List Tmp:=[]
def r113:List RV:=[.tmp 6]
theorem t113:Text Tryz.prog 113 o113 c113 r113 36:=.mk_ Tryz.f113 rfl
def c115:ACode :=
 (sq_ [pr_ 2 (mi_ .u64 0),
 pr_ 3 (mi_ .i64 0),
 pr_ 4 mf_]
 (sq_ [pr_ 5 (mi_ .u64 0)]
 (.seq (sq_ [mv_ 8 0,
 pr_ 9 (.lenv (.tmp 8)),
 pr_ 10 (mi_ .i64 0)]
 (.block 0 (.loop [0,1,2,3,4,6,7,11,12,13,14,15,16,17,18,19,20,21,22,23,24,25,26,27,28,29,30,31,32,33,34,35,36,37,38,39,40,41,42] (sq_ [pr_ 11 (bt_ .lss 10 9)]
 (.seq (.cond (.tmp 11)
 .skip
 (.exit 0))
 (.seq (.block 1 (sq_ [mv_ 12 10,
 pr_ 13 (.iadrs 1 (.tmp 8) (.tmp 10)),
 pr_ 14 (lf_ 1 13),
 mv_ 6 12,
 mv_ 7 14]
 (.seq (sq_ [mv_ 15 6,
 pr_ 16 (bk_ .eql 15 .i64 9),
 mv_ 17 16,
 gp_ 18 17 true (mo_ 7),
 gp_ 19 17 true (bk_ .gtr 18 .u8 1),
 pr_ 20 (pa_ 17 19),
 mv_ 21 20,
 gp_ 22 21 false (mo_ 6),
 gp_ 23 21 false (bk_ .gtr 22 .i64 0),
 gp_ 24 21 false (mo_ 23),
 gp_ 25 24 true (mo_ 7),
 gp_ 26 24 true (bk_ .eql 25 .u8 0),
 gp_ 27 21 false (pa_ 24 26),
 pr_ 28 (po_ 21 27)]
 (.cond (.tmp 28)
 (.exit 0)
 .skip))
 (sq_ [mv_ 29 5,
 mv_ 30 7,
 pr_ 31 (bk_ .and 30 .u8 127),
 pr_ 32 (.convi .u64 (.tmp 31)),
 mv_ 33 6,
 pr_ 34 (.bin false .mul (.const (.int .i64 7)) (.tmp 33)),
 pr_ 35 (bt_ .shl 32 34),
 pr_ 36 (bt_ .or 29 35),
 mv_ 5 36]
 (sq_ [mv_ 37 7,
 pr_ 38 (bk_ .lss 37 .u8 128)]
 (.cond (.tmp 38)
 (sq_ [mv_ 39 5,
 mv_ 40 6,
 pr_ 41 (bk_ .add 40 .i64 1),
 mv_ 2 39,
 mv_ 3 41,
 pr_ 4 mt_]
 .ret)
 .skip))))))
 (.ops [pr_ 42 (bk_ .add 10 .i64 1),
 mv_ 10 42])))))))
 (sq_ [pr_ 2 (mi_ .u64 0),
 pr_ 3 (mi_ .i64 0),
 pr_ 4 mf_]
 .ret))))
def o115:List Tmp:=[]
def r115:List RV:=[.tmp 2,.tmp 3,.tmp 4]
theorem t115:Text Tryz.prog 115 o115 c115 r115 43:=.mk_ Tryz.f115 rfl
def c116:ACode :=
 (sq_ [pr_ 4 (.mov (.const (.string (ByteArray.mk #[])))),
 pr_ 5 (mi_ .i64 0),
 pr_ 6 mf_]
 (sq_ [mv_ 12 0,
 c1_ 13 115 12,
 mv_ 11 13,
 pr_ 14 (ex_ 0 11),
 pr_ 15 (ex_ 1 11),
 pr_ 16 (ex_ 2 11),
 mv_ 7 14,
 mv_ 8 15,
 mv_ 9 16]
 (.seq (sq_ [mv_ 17 9,
 pr_ 18 (no_ 17),
 mv_ 19 18,
 gp_ 20 19 false (mo_ 1),
 gp_ 21 19 false (bk_ .lss 20 .i64 0),
 pr_ 22 (po_ 19 21),
 mv_ 23 22,
 gp_ 24 23 false (mo_ 7),
 gp_ 25 23 false (mo_ 1),
 gp_ 26 23 false (.convi .u64 (.tmp 25)),
 gp_ 27 23 false (bt_ .gtr 24 26),
 pr_ 28 (po_ 23 27),
 mv_ 29 28,
 gp_ 30 29 false (mo_ 7),
 gp_ 31 29 false (mo_ 0),
 gp_ 32 29 false (.lenv (.tmp 31)),
 gp_ 33 29 false (mo_ 8),
 gp_ 34 29 false (bt_ .sub 32 33),
 gp_ 35 29 false (.convi .u64 (.tmp 34)),
 gp_ 36 29 false (bt_ .gtr 30 35),
 pr_ 37 (po_ 29 36)]
 (.cond (.tmp 37)
 (sq_ [pr_ 4 (.mov (.const (.string (ByteArray.mk #[])))),
 pr_ 5 (mi_ .i64 0),
 pr_ 6 mf_]
 .ret)
 .skip))
 (sq_ [mv_ 38 8,
 mv_ 39 7,
 pr_ 40 (.convi .i64 (.tmp 39)),
 pr_ 41 (bt_ .add 38 40),
 mv_ 10 41]
 (sq_ [mv_ 42 0,
 mv_ 43 8,
 mv_ 44 10,
 pr_ 45 (.slcv 1 (.tmp 42) (some (.tmp 43)) (some (.tmp 44))),
 pr_ 46 (.b2s (.tmp 45)),
 mv_ 47 10,
 mv_ 4 46,
 mv_ 5 47,
 pr_ 6 mt_]
 .ret)))))
def o116:List Tmp:=[]
def r116:List RV:=[.tmp 4,.tmp 5,.tmp 6]
theorem t116:Text Tryz.prog 116 o116 c116 r116 48:=.mk_ Tryz.f116 rfl
def c79:ACode :=
 (sq_ [pr_ 4 (.mov (.const (.slice none 0 0)))]
 (sq_ [pr_ 5 (.mov (.const (.slice none 0 0)))]
 (.seq (sq_ [pr_ 6 (mi_ .i64 0)]
 (.block 0 (.loop [2,3,4,7,8,9,10,11,12,13,14,15,16,17,18,19,20,21,22,23,24,25,26,27,28,29,30,31,32,33,34,35,36,37,38,39,40,41,42,43,44,45,46,47,48,49,50,51,52,53,54,55,56,57,58,59,60,61,62,63,64,65,66,67,68,69,70,71,72] (.seq (sq_ [mv_ 9 6,
 mv_ 10 0,
 pr_ 11 (.lenv (.tmp 10)),
 pr_ 12 (bt_ .lss 9 11),
 mv_ 13 12,
 gp_ 14 13 true (mo_ 5),
 gp_ 15 13 true (.lenv (.tmp 14)),
 gp_ 16 13 true (bk_ .lss 15 .i64 5),
 pr_ 17 (pa_ 13 16)]
 (.cond (.tmp 17)
 .skip
 (.exit 0)))
 (.seq (.block 1 (.seq (.ghost (.weak 5 3) (.ops [mv_ 20 0,
 mv_ 21 6,
 pr_ 22 (.iadrs 3 (.tmp 20) (.tmp 21)),
 pr_ 23 (lt_ 3 22),
 c1_ 24 123 23,
 ⟨some 7,none,.fresh 3 7 (.tmp 24)⟩]))
 (sq_ [mv_ 25 5,
 pr_ 26 (.lenv (.tmp 25)),
 mv_ 8 26]
 (.seq (.block 2 (.loop [2,3,4,9,10,11,12,13,14,15,16,17,18,19,20,21,22,23,24,25,26,27,28,29,30,31,32,33,34,35,36,37,38,39,40,41,42,43,44,45,46,47,48,49,50,51,52,53,54,55,56,57,58,59,60,61,62,63,64,65,66,67,68,69,70,71,72] (.seq (.seq (.draw [⟨mv_ 27 8,[],false,0,0⟩,
 ⟨pr_ 28 (bk_ .gtr 27 .i64 0),[0],false,0,0⟩,
 ⟨mv_ 29 28,[0,1],false,0,0⟩,
 ⟨gp_ 30 29 true (lt_ 3 7),[0,1,2],false,0,0⟩,
 ⟨gp_ 31 29 true (mo_ 5),[0,1,2],false,0,0⟩,
 ⟨gp_ 32 29 true (mo_ 8),[0,1,2],false,0,0⟩,
 ⟨gp_ 33 29 true (bk_ .sub 32 .i64 1),[0,1,2,5],false,0,0⟩,
 ⟨gp_ 34 29 true (.iadrs 3 (.tmp 31) (.tmp 33)),[0,1,2,4,5,6],false,0,0⟩,
 ⟨gp_ 35 29 true (lt_ 3 34),[0,1,2,4,5,6,7],false,0,0⟩,
 ⟨gc_ 36 29 true 124 [(.tmp 30),(.tmp 35)],(List.range 9),true,0,0⟩,
 ⟨pr_ 37 (pa_ 29 36),(List.range 10),false,1,1⟩])
 (.cond (.tmp 37)
 .skip
 (.exit 2)))
 (.block 3 (.ops [mv_ 38 8,
 pr_ 39 (bk_ .sub 38 .i64 1),
 mv_ 8 39])))))
 (.seq (.seq (.draw [⟨mv_ 40 8,[],false,0,0⟩,
 ⟨pr_ 41 (bk_ .gtr 40 .i64 0),[0],false,0,0⟩,
 ⟨mv_ 42 41,[0,1],false,0,0⟩,
 ⟨gp_ 43 42 true (mo_ 5),[0,1,2],false,0,0⟩,
 ⟨gp_ 44 42 true (mo_ 8),[0,1,2],false,0,0⟩,
 ⟨gp_ 45 42 true (bk_ .sub 44 .i64 1),[0,1,2,4],false,0,0⟩,
 ⟨gp_ 46 42 true (.iadrs 3 (.tmp 43) (.tmp 45)),(List.range 6),false,0,0⟩,
 ⟨gp_ 47 42 true (lt_ 3 46),(List.range 7),false,0,0⟩,
 ⟨gp_ 48 42 true (lt_ 3 7),[0,1,2],false,0,0⟩,
 ⟨gp_ 49 42 true (.eqa false [.int,.str,.str] (.tmp 47) (.tmp 48)),(List.range 9),false,0,0⟩,
 ⟨pr_ 50 (pa_ 42 49),(List.range 10),false,0,0⟩])
 (.cond (.tmp 50)
 (.exit 1)
 .skip))
 (.after (.after (.after (.draw [⟨mv_ 51 5,[],false,0,0⟩,
 ⟨mv_ 52 8,[],false,0,0⟩,
 ⟨pr_ 53 (.slcv 3 (.tmp 51) none (some (.tmp 52))),[0,1],false,0,0⟩,
 ⟨pr_ 54 (.app 3 (.const (.slice none 0 0)) (.tmp 53)),[0,1,2],true,0,0⟩,
 ⟨pr_ 55 (lt_ 3 7),[],false,0,1⟩,
 ⟨pr_ 56 (.bsl false 3 true 1 [.pl (.int .i64 0),.pl (.string .empty),.pl (.string .empty)] [(0,3,(.tmp 55))]),[4],false,0,1⟩,
 ⟨pr_ 57 (.app 3 (.tmp 54) (.tmp 56)),(List.range 6),true,0,0⟩,
 ⟨mv_ 58 5,[],false,0,2⟩,
 ⟨mv_ 59 8,[],false,0,2⟩,
 ⟨pr_ 60 (.slcv 3 (.tmp 58) (some (.tmp 59)) none),[7,8],false,0,2⟩,
 ⟨pr_ 61 (.app 3 (.tmp 57) (.tmp 60)),(List.range 10),true,0,0⟩,
 ⟨mv_ 5 61,(List.range 11),false,3,3⟩]) (.shut 5)) (.clear [54,57,61])) (.keep 0)))))))
 (.ops [mv_ 18 6,
 pr_ 19 (bk_ .add 18 .i64 1),
 mv_ 6 19]))))))
 (.seq (sq_ [mv_ 62 1,
 mv_ 63 62,
 gp_ 64 63 true (mo_ 5),
 gp_ 65 63 true (.lenv (.tmp 64)),
 gp_ 66 63 true (bk_ .eql 65 .i64 0),
 pr_ 67 (pa_ 63 66)]
 (.cond (.tmp 67)
 (.ops [mv_ 68 5,
 pr_ 69 (.build [.pl (.int .i64 0),.pl (.string .empty),.pl (.string .empty)] [(0,1,(.const (.int .i64 1))),(1,1,(.const (.string (ByteArray.mk #[115,101,118])))),(2,1,(.const (.string (ByteArray.mk #[97]))))]),
 pr_ 70 (.bsl false 3 true 1 [.pl (.int .i64 0),.pl (.string .empty),.pl (.string .empty)] [(0,3,(.tmp 69))]),
 pr_ 71 (.app 3 (.tmp 68) (.tmp 70)),
 mv_ 5 71])
 .skip))
 (sq_ [mv_ 72 5,
 mv_ 4 72]
 (.ghost (.shut 4) .ret))))))
def o79:List Tmp:=[]
def r79:List RV:=[.tmp 4]
theorem t79:Text Tryz.prog 79 o79 c79 r79 73:=.mk_ Tryz.f79 rfl
def c81:ACode :=
 (sq_ [pr_ 2 (.mov (.const (.string (ByteArray.mk #[]))))]
 (sq_ [pr_ 3 (.build [.pl (.string .empty),.pl (.string .empty),.pl (.string .empty),.pl (.string .empty),.pl (.string .empty)] [(0,1,(.const (.string (ByteArray.mk #[115,101,118])))),(1,1,(.const (.string (ByteArray.mk #[106,111,98])))),(2,1,(.const (.string (ByteArray.mk #[104,111,115,116])))),(3,1,(.const (.string (ByteArray.mk #[95,120])))),(4,1,(.const (.string (ByteArray.mk #[90,111,110,101,57]))))]),
 mv_ 4 0,
 cl_ 5 99 [(.tmp 4),(.const (.int .i64 0)),(.const (.int .i64 4))],
 pr_ 6 (.idxa 1 5 false (.tmp 3) (.tmp 5)),
 mv_ 2 6]
 .ret))
def o81:List Tmp:=[]
def r81:List RV:=[.tmp 2]
theorem t81:Text Tryz.prog 81 o81 c81 r81 7:=.mk_ Tryz.f81 rfl
def c99:ACode :=
 (sq_ [pr_ 6 (mi_ .i64 0)]
 (.seq (sq_ [mv_ 7 0,
 mv_ 8 1,
 pr_ 9 (bt_ .geq 7 8),
 mv_ 10 9,
 gp_ 11 10 true (mo_ 0),
 gp_ 12 10 true (mo_ 2),
 gp_ 13 10 true (bt_ .leq 11 12),
 pr_ 14 (pa_ 10 13)]
 (.cond (.tmp 14)
 (sq_ [mv_ 15 0,
 mv_ 6 15]
 .ret)
 .skip))
 (sq_ [mv_ 16 0,
 mv_ 17 1,
 mv_ 18 2,
 cl_ 19 100 [(.tmp 16),(.tmp 17),(.tmp 18)],
 mv_ 6 19]
 .ret)))
def o99:List Tmp:=[]
def r99:List RV:=[.tmp 6]
theorem t99:Text Tryz.prog 99 o99 c99 r99 20:=.mk_ Tryz.f99 rfl
def c100:ACode :=
 (sq_ [pr_ 6 (mi_ .i64 0)]
 (sq_ [mv_ 7 0,
 mv_ 8 2,
 mv_ 9 1,
 pr_ 10 (bt_ .sub 8 9),
 pr_ 11 (bk_ .add 10 .i64 1),
 pr_ 12 (bt_ .rem 7 11),
 mv_ 0 12]
 (.seq (sq_ [mv_ 13 0,
 pr_ 14 (bk_ .lss 13 .i64 0)]
 (.cond (.tmp 14)
 (.ops [mv_ 15 0,
 mv_ 16 2,
 pr_ 17 (bt_ .add 15 16),
 mv_ 18 1,
 pr_ 19 (bt_ .sub 17 18),
 pr_ 20 (bk_ .add 19 .i64 1),
 mv_ 0 20])
 .skip))
 (sq_ [mv_ 21 1,
 mv_ 22 0,
 pr_ 23 (bt_ .add 21 22),
 mv_ 6 23]
 .ret))))
def o100:List Tmp:=[]
def r100:List RV:=[.tmp 6]
theorem t100:Text Tryz.prog 100 o100 c100 r100 24:=.mk_ Tryz.f100 rfl
def c101:ACode :=
 (sq_ [pr_ 2 (.mov (.const (.slice none 0 0)))]
 (.seq (.after (.ops [pr_ 3 (.mov (.const (.slice none 0 0)))]) (.own 3 2))
 (.seq (sq_ [pr_ 4 (mi_ .i64 0)]
 (.block 0 (.loop [1,2,5,6,7,8,9,10,11,12,13,14,15,16,17,18,19,20,21,22,23,24,25,26,27,28,29,30,31,32,33,34,35,36,37,38,39,40,41,42,43,44,45,46,47,48,49,50,51,52,53] (.seq (sq_ [mv_ 8 4,
 mv_ 9 0,
 pr_ 10 (.lenv (.tmp 9)),
 pr_ 11 (bt_ .lss 8 10),
 mv_ 12 11,
 gp_ 13 12 true (mo_ 4),
 gp_ 14 12 true (bk_ .lss 13 .i64 5),
 pr_ 15 (pa_ 12 14)]
 (.cond (.tmp 15)
 .skip
 (.exit 0)))
 (.seq (.block 1 (.seq (.draw [⟨mv_ 18 0,[],false,0,1⟩,
 ⟨mv_ 19 4,[],false,0,1⟩,
 ⟨pr_ 20 (.iadrs 1 (.tmp 18) (.tmp 19)),[0,1],false,0,1⟩,
 ⟨pr_ 21 (lf_ 1 20),[0,1,2],false,0,1⟩,
 ⟨cl_ 22 100 [(.tmp 21),(.const (.int .i64 0)),(.const (.int .i64 4))],[0,1,2,3],false,0,1⟩,
 ⟨c1_ 23 81 22,[0,1,2,3,4],false,0,1⟩,
 ⟨mv_ 24 0,[],false,0,1⟩,
 ⟨mv_ 25 4,[],false,0,1⟩,
 ⟨pr_ 26 (.iadrs 1 (.tmp 24) (.tmp 25)),[6,7],false,0,1⟩,
 ⟨pr_ 27 (lf_ 1 26),[6,7,8],false,0,1⟩,
 ⟨pr_ 28 (bk_ .quo 27 .i64 5),[6,7,8,9],false,0,1⟩,
 ⟨cl_ 29 100 [(.tmp 28),(.const (.int .i64 0)),(.const (.int .i64 6))],(List.range 11),false,0,1⟩,
 ⟨c1_ 30 133 29,(List.range 12),false,0,1⟩,
 ⟨pr_ 31 (.build [.pl (.string .empty),.pl (.string .empty)] [(0,1,(.tmp 23)),(1,1,(.tmp 30))]),(List.range 13),false,0,1⟩,
 ⟨pr_ 5 (.allocm [.pl (.string .empty),.pl (.string .empty)]),[],true,0,0⟩,
 ⟨st_ (so_ 2 5 31),(List.range 15),true,0,0⟩])
 (sq_ [mv_ 32 3,
 pr_ 33 (fa_ 0 5),
 pr_ 34 (lf_ 1 33),
 cl_ 35 134 [(.tmp 32),(.tmp 34)],
 pr_ 36 (.bin false .eql (.tmp 35) (.const (.string (ByteArray.mk #[]))))]
 (.cond (.tmp 36)
 (.ops [mv_ 37 3,
 pr_ 38 (lt_ 2 5),
 pr_ 39 (.bsl false 2 true 1 [.pl (.string .empty),.pl (.string .empty)] [(0,2,(.tmp 38))]),
 pr_ 40 (.app 2 (.tmp 37) (.tmp 39)),
 mv_ 3 40])
 .skip))))
 (.after (.after (.ops [mv_ 16 4,
 pr_ 17 (bk_ .add 16 .i64 1),
 mv_ 4 17]) (.clear [5,33])) (.keep 1)))))))
 (.seq (sq_ [mv_ 41 3,
 pr_ 42 (.lenv (.tmp 41)),
 pr_ 43 (bk_ .eql 42 .i64 0)]
 (.cond (.tmp 43)
 (.ops [mv_ 44 3,
 pr_ 45 (.build [.pl (.string .empty),.pl (.string .empty)] [(0,1,(.const (.string (ByteArray.mk #[115,101,118])))),(1,1,(.const (.string (ByteArray.mk #[97]))))]),
 pr_ 46 (.bsl false 2 true 1 [.pl (.string .empty),.pl (.string .empty)] [(0,2,(.tmp 45))]),
 pr_ 47 (.app 2 (.tmp 44) (.tmp 46)),
 mv_ 3 47])
 .skip))
 (.seq (.ghost (.shut 3) (.ops [mv_ 49 3,
 c1_ 50 135 49,
 mv_ 48 50,
 pr_ 51 (ex_ 0 48),
 pr_ 52 (ex_ 1 48),
 mv_ 6 51,
 mv_ 7 52]))
 (sq_ [mv_ 53 6,
 mv_ 2 53]
 (.ghost (.shut 2) .ret)))))))
def o101:List Tmp:=[]
def r101:List RV:=[.tmp 2]
theorem t101:Text Tryz.prog 101 o101 c101 r101 54:=.mk_ Tryz.f101 rfl
def c106:ACode :=
 (sq_ [pr_ 2 mf_]
 (.seq (sq_ [mv_ 5 0,
 pr_ 6 (.lenv (.tmp 5)),
 pr_ 7 (bk_ .gtr 6 .i64 5)]
 (.cond (.tmp 7)
 (sq_ [pr_ 2 mf_]
 .ret)
 .skip))
 (.seq (sq_ [mv_ 8 0,
 pr_ 9 (.lenv (.tmp 8)),
 pr_ 10 (mi_ .i64 0)]
 (.block 0 (.loop [1,2,3,4,5,6,7,11,12,13,14,15,16,17,18,19,20,21,22,23,24,25,26,27,28,29,30,31,32] (sq_ [pr_ 11 (bt_ .lss 10 9)]
 (.seq (.cond (.tmp 11)
 .skip
 (.exit 0))
 (.seq (.block 1 (sq_ [mv_ 12 10,
 pr_ 13 (.iadrs 3 (.tmp 8) (.tmp 10)),
 pr_ 14 (lt_ 3 13),
 pr_ 4 (.allocm [.pl (.int .i64 0),.pl (.string .empty),.pl (.string .empty)]),
 mv_ 3 12,
 st_ (so_ 3 4 14)]
 (.seq (.draw [⟨pr_ 15 (lt_ 3 4),[],false,0,0⟩,
 ⟨c1_ 16 142 15,[0],true,0,0⟩,
 ⟨pr_ 17 (no_ 16),[0,1],false,1,1⟩,
 ⟨mv_ 18 17,[0,1,2],false,1,1⟩,
 ⟨gp_ 19 18 false (mo_ 3),[0,1,2,3],false,1,1⟩,
 ⟨gp_ 20 18 false (bk_ .gtr 19 .i64 0),[0,1,2,3,4],false,1,1⟩,
 ⟨gp_ 21 18 false (mo_ 20),(List.range 6),false,1,1⟩,
 ⟨gp_ 22 21 true (mo_ 0),(List.range 7),false,1,1⟩,
 ⟨gp_ 23 21 true (mo_ 3),(List.range 7),false,1,1⟩,
 ⟨gp_ 24 21 true (bk_ .sub 23 .i64 1),[0,1,2,3,4,5,6,8],false,1,1⟩,
 ⟨gp_ 25 21 true (.iadrs 3 (.tmp 22) (.tmp 24)),(List.range 10),false,1,1⟩,
 ⟨gp_ 26 21 true (lt_ 3 25),(List.range 11),false,1,1⟩,
 ⟨gp_ 27 21 true (lt_ 3 4),(List.range 7),false,1,1⟩,
 ⟨gc_ 28 21 true 143 [(.tmp 26),(.tmp 27)],(List.range 13),true,0,0⟩,
 ⟨gp_ 29 21 true (bk_ .geq 28 .i64 0),(List.range 14),false,2,2⟩,
 ⟨gp_ 30 18 false (pa_ 21 29),(List.range 15),false,2,2⟩,
 ⟨pr_ 31 (po_ 18 30),(List.range 16),false,2,2⟩])
 (.cond (.tmp 31)
 (sq_ [pr_ 2 mf_]
 .ret)
 .skip))))
 (.after (.after (.ops [pr_ 32 (bk_ .add 10 .i64 1),
 mv_ 10 32]) (.clear [4])) (.keep 0))))))))
 (sq_ [pr_ 2 mt_]
 .ret))))
def o106:List Tmp:=[4]
def r106:List RV:=[.tmp 2]
theorem t106:Text Tryz.prog 106 o106 c106 r106 33:=.mk_ Tryz.f106 rfl
def c108:ACode :=
 (sq_ [pr_ 2 mf_]
 (.seq (sq_ [mv_ 4 0,
 pr_ 5 (.lens (.tmp 4)),
 pr_ 6 (bk_ .lss 5 .i64 1),
 mv_ 7 6,
 gp_ 8 7 false (mo_ 0),
 gp_ 9 7 false (.lens (.tmp 8)),
 gp_ 10 7 false (bk_ .gtr 9 .i64 12),
 pr_ 11 (po_ 7 10),
 mv_ 12 11,
 gp_ 13 12 false (mo_ 0),
 gp_ 14 12 false (.idxs (.tmp 13) (.const (.int .i64 0))),
 gc_ 15 12 false 144 [(.tmp 14)],
 gp_ 16 12 false (no_ 15),
 pr_ 17 (po_ 12 16)]
 (.cond (.tmp 17)
 (sq_ [pr_ 2 mf_]
 .ret)
 .skip))
 (.seq (sq_ [mv_ 18 0,
 pr_ 19 (.lens (.tmp 18)),
 pr_ 20 (mi_ .i64 0)]
 (.block 0 (.loop [1,2,3,4,5,6,7,8,9,10,11,12,13,14,15,16,17,18,21,22,23,24,25,26,27,28,29,30,31,32,33,34,35,36,37,38,39,40] (sq_ [pr_ 21 (bt_ .lss 20 19)]
 (.seq (.cond (.tmp 21)
 .skip
 (.exit 0))
 (.seq (.block 1 (sq_ [mv_ 22 20,
 mv_ 3 22]
 (sq_ [mv_ 23 0,
 mv_ 24 3,
 pr_ 25 (.idxs (.tmp 23) (.tmp 24)),
 c1_ 26 144 25,
 pr_ 27 (no_ 26),
 mv_ 28 27,
 gp_ 29 28 true (mo_ 0),
 gp_ 30 28 true (mo_ 3),
 gp_ 31 28 true (.idxs (.tmp 29) (.tmp 30)),
 gp_ 32 28 true (bk_ .lss 31 .u8 48),
 gp_ 33 28 true (mo_ 32),
 gp_ 34 33 false (mo_ 0),
 gp_ 35 33 false (mo_ 3),
 gp_ 36 33 false (.idxs (.tmp 34) (.tmp 35)),
 gp_ 37 33 false (bk_ .gtr 36 .u8 57),
 gp_ 38 28 true (po_ 33 37),
 pr_ 39 (pa_ 28 38)]
 (.cond (.tmp 39)
 (sq_ [pr_ 2 mf_]
 .ret)
 .skip))))
 (.ops [pr_ 40 (bk_ .add 20 .i64 1),
 mv_ 20 40])))))))
 (sq_ [pr_ 2 mt_]
 .ret))))
def o108:List Tmp:=[]
def r108:List RV:=[.tmp 2]
theorem t108:Text Tryz.prog 108 o108 c108 r108 41:=.mk_ Tryz.f108 rfl
def c117:ACode :=
 (sq_ [pr_ 2 mf_]
 (.seq (sq_ [mv_ 4 0,
 pr_ 5 (.lenv (.tmp 4)),
 pr_ 6 (bk_ .gtr 5 .i64 5)]
 (.cond (.tmp 6)
 (sq_ [pr_ 2 mf_]
 .ret)
 .skip))
 (.seq (sq_ [pr_ 3 (mi_ .i64 0)]
 (.block 0 (.loop [1,2,4,5,6,7,8,9,10,11,12,13,14,15,16,17,18,19,20,21,22,23,24,25,26,27,28,29,30,31,32,33,34,35] (.seq (sq_ [mv_ 7 3,
 mv_ 8 0,
 pr_ 9 (.lenv (.tmp 8)),
 pr_ 10 (bt_ .lss 7 9)]
 (.cond (.tmp 10)
 .skip
 (.exit 0)))
 (.seq (.block 1 (.seq (.draw [⟨mv_ 13 0,[],false,0,0⟩,
 ⟨mv_ 14 3,[],false,0,0⟩,
 ⟨pr_ 15 (.iadrs 3 (.tmp 13) (.tmp 14)),[0,1],false,0,0⟩,
 ⟨pr_ 16 (lt_ 3 15),[0,1,2],false,0,0⟩,
 ⟨c1_ 17 149 16,[0,1,2,3],true,0,0⟩,
 ⟨pr_ 18 (no_ 17),[0,1,2,3,4],false,1,1⟩,
 ⟨mv_ 19 18,(List.range 6),false,1,1⟩,
 ⟨gp_ 20 19 false (mo_ 3),(List.range 7),false,1,1⟩,
 ⟨gp_ 21 19 false (bk_ .gtr 20 .i64 0),(List.range 8),false,1,1⟩,
 ⟨gp_ 22 19 false (mo_ 21),(List.range 9),false,1,1⟩,
 ⟨gp_ 23 22 true (mo_ 0),(List.range 10),false,1,1⟩,
 ⟨gp_ 24 22 true (mo_ 3),(List.range 10),false,1,1⟩,
 ⟨gp_ 25 22 true (bk_ .sub 24 .i64 1),[0,1,2,3,4,5,6,7,8,9,11],false,1,1⟩,
 ⟨gp_ 26 22 true (.iadrs 3 (.tmp 23) (.tmp 25)),(List.range 13),false,1,1⟩,
 ⟨gp_ 27 22 true (lt_ 3 26),(List.range 14),false,1,1⟩,
 ⟨gp_ 28 22 true (mo_ 0),(List.range 10),false,1,1⟩,
 ⟨gp_ 29 22 true (mo_ 3),(List.range 10),false,1,1⟩,
 ⟨gp_ 30 22 true (.iadrs 3 (.tmp 28) (.tmp 29)),[0,1,2,3,4,5,6,7,8,9,15,16],false,1,1⟩,
 ⟨gp_ 31 22 true (lt_ 3 30),[0,1,2,3,4,5,6,7,8,9,15,16,17],false,1,1⟩,
 ⟨gc_ 32 22 true 150 [(.tmp 27),(.tmp 31)],(List.range 19),true,0,0⟩,
 ⟨gp_ 33 22 true (no_ 32),(List.range 20),false,2,2⟩,
 ⟨gp_ 34 19 false (pa_ 22 33),(List.range 21),false,2,2⟩,
 ⟨pr_ 35 (po_ 19 34),(List.range 22),false,2,2⟩])
 (.cond (.tmp 35)
 (sq_ [pr_ 2 mf_]
 .ret)
 .skip)))
 (.ops [mv_ 11 3,
 pr_ 12 (bk_ .add 11 .i64 1),
 mv_ 3 12]))))))
 (sq_ [pr_ 2 mt_]
 .ret))))
def o117:List Tmp:=[]
def r117:List RV:=[.tmp 2]
theorem t117:Text Tryz.prog 117 o117 c117 r117 36:=.mk_ Tryz.f117 rfl
def c121:ACode :=
 (sq_ [pr_ 2 mf_]
 (.seq (sq_ [pr_ 3 (mi_ .i64 0)]
 (.block 0 (.loop [1,2,4,5,6,7,8,9,10,11,12,13,14,15,16,17,18,19,20,21,22,23,24,25,26,27,28,29,30,31,32,33,34,35,36,37,38,39,40,41,42,43,44,45,46,47,48,49,50,51,52,53,54] (.seq (sq_ [mv_ 6 3,
 mv_ 7 0,
 pr_ 8 (.lens (.tmp 7)),
 pr_ 9 (bt_ .lss 6 8)]
 (.cond (.tmp 9)
 .skip
 (.exit 0)))
 (.seq (.block 1 (sq_ [mv_ 12 0,
 mv_ 13 3,
 pr_ 14 (.idxs (.tmp 12) (.tmp 13)),
 mv_ 4 14]
 (sq_ [mv_ 15 4,
 pr_ 16 (bk_ .geq 15 .u8 97),
 mv_ 17 16,
 gp_ 18 17 true (mo_ 4),
 gp_ 19 17 true (bk_ .leq 18 .u8 122),
 pr_ 20 (pa_ 17 19),
 mv_ 21 20,
 gp_ 22 21 false (mo_ 4),
 gp_ 23 21 false (bk_ .geq 22 .u8 65),
 gp_ 24 21 false (mo_ 23),
 gp_ 25 24 true (mo_ 4),
 gp_ 26 24 true (bk_ .leq 25 .u8 90),
 gp_ 27 21 false (pa_ 24 26),
 pr_ 28 (po_ 21 27),
 mv_ 29 28,
 gp_ 30 29 false (mo_ 4),
 gp_ 31 29 false (bk_ .eql 30 .u8 95),
 pr_ 32 (po_ 29 31),
 mv_ 5 32]
 (sq_ [mv_ 33 5,
 pr_ 34 (no_ 33),
 mv_ 35 34,
 gp_ 36 35 true (mo_ 3),
 gp_ 37 35 true (bk_ .eql 36 .i64 0),
 gp_ 38 35 true (mo_ 37),
 gp_ 39 38 false (mo_ 4),
 gp_ 40 38 false (bk_ .lss 39 .u8 48),
 gp_ 41 35 true (po_ 38 40),
 gp_ 42 35 true (mo_ 41),
 gp_ 43 42 false (mo_ 4),
 gp_ 44 42 false (bk_ .gtr 43 .u8 57),
 gp_ 45 35 true (po_ 42 44),
 pr_ 46 (pa_ 35 45)]
 (.cond (.tmp 46)
 (sq_ [pr_ 2 mf_]
 .ret)
 .skip)))))
 (.ops [mv_ 10 3,
 pr_ 11 (bk_ .add 10 .i64 1),
 mv_ 3 11]))))))
 (sq_ [mv_ 47 0,
 pr_ 48 (.lens (.tmp 47)),
 pr_ 49 (bk_ .geq 48 .i64 1),
 mv_ 50 49,
 gp_ 51 50 true (mo_ 0),
 gp_ 52 50 true (.lens (.tmp 51)),
 gp_ 53 50 true (bk_ .leq 52 .i64 12),
 pr_ 54 (pa_ 50 53),
 mv_ 2 54]
 .ret)))
def o121:List Tmp:=[]
def r121:List RV:=[.tmp 2]
theorem t121:Text Tryz.prog 121 o121 c121 r121 55:=.mk_ Tryz.f121 rfl
def c123:ACode :=
 (sq_ [pr_ 1 (.boxr (.tmp 0)),
 pr_ 2 (.allocm [.pl (.int .i64 0),.pl (.string .empty),.pl (.string .empty)])]
 (.seq (.draw [⟨pr_ 4 (fa_ 0 1),[],false,0,1⟩,
 ⟨pr_ 5 (lf_ 1 4),[0],false,0,1⟩,
 ⟨cl_ 6 99 [(.tmp 5),(.const (.int .i64 1)),(.const (.int .i64 4))],[0,1],false,0,1⟩,
 ⟨pr_ 7 (fa_ 1 1),[],false,0,1⟩,
 ⟨pr_ 8 (lf_ 1 7),[3],false,0,1⟩,
 ⟨c1_ 9 81 8,[0,1,2,3,4],false,0,1⟩,
 ⟨pr_ 10 (fa_ 2 1),[],false,0,1⟩,
 ⟨pr_ 11 (lf_ 1 10),[6],false,0,1⟩,
 ⟨c1_ 12 152 11,(List.range 8),false,0,1⟩,
 ⟨pr_ 13 (.build [.pl (.int .i64 0),.pl (.string .empty),.pl (.string .empty)] [(0,1,(.tmp 6)),(1,1,(.tmp 9)),(2,1,(.tmp 12))]),(List.range 9),false,0,1⟩,
 ⟨pr_ 3 (.allocm [.pl (.int .i64 0),.pl (.string .empty),.pl (.string .empty)]),[],true,0,0⟩,
 ⟨st_ (so_ 3 3 13),(List.range 11),true,0,0⟩])
 (.seq (sq_ [pr_ 14 (fa_ 0 3),
 pr_ 15 (lf_ 1 14),
 pr_ 16 (bk_ .lss 15 .i64 3)]
 (.cond (.tmp 16)
 (sq_ [pr_ 17 (fa_ 2 1),
 pr_ 18 (lf_ 1 17),
 c1_ 19 133 18,
 pr_ 20 (fa_ 2 3),
 st_ (so_ 1 20 19)]
 (sq_ [pr_ 21 (fa_ 2 1),
 pr_ 22 (lf_ 1 21),
 pr_ 23 (bk_ .lss 22 .i64 0)]
 (.cond (.tmp 23)
 (.ops [pr_ 24 (fa_ 2 3),
 st_ (.store 1 (.tmp 24) (.const (.string (ByteArray.mk #[]))))])
 .skip)))
 .skip))
 (sq_ [pr_ 25 (lt_ 3 3),
 st_ (so_ 3 2 25)]
 .ret))))
def o123:List Tmp:=[2,3]
def r123:List RV:=[.cell 2 3 true]
theorem t123:Text Tryz.prog 123 o123 c123 r123 26:=.mk_ Tryz.f123 rfl
def c124:ACode :=
 (sq_ [pr_ 2 (.boxr (.tmp 0)),
 pr_ 3 (.boxr (.tmp 1)),
 pr_ 4 mf_]
 (.seq (sq_ [pr_ 5 (fa_ 1 2),
 pr_ 6 (lf_ 1 5),
 pr_ 7 (fa_ 1 3),
 pr_ 8 (lf_ 1 7),
 pr_ 9 (bt_ .neq 6 8)]
 (.cond (.tmp 9)
 (sq_ [pr_ 10 (fa_ 1 2),
 pr_ 11 (lf_ 1 10),
 pr_ 12 (fa_ 1 3),
 pr_ 13 (lf_ 1 12),
 pr_ 14 (bt_ .lss 11 13),
 mv_ 4 14]
 .ret)
 .skip))
 (.seq (sq_ [pr_ 15 (fa_ 0 2),
 pr_ 16 (lf_ 1 15),
 pr_ 17 (fa_ 0 3),
 pr_ 18 (lf_ 1 17),
 pr_ 19 (bt_ .neq 16 18)]
 (.cond (.tmp 19)
 (sq_ [pr_ 20 (fa_ 0 2),
 pr_ 21 (lf_ 1 20),
 pr_ 22 (fa_ 0 3),
 pr_ 23 (lf_ 1 22),
 pr_ 24 (bt_ .lss 21 23),
 mv_ 4 24]
 .ret)
 .skip))
 (sq_ [pr_ 25 (fa_ 2 2),
 pr_ 26 (lf_ 1 25),
 pr_ 27 (fa_ 2 3),
 pr_ 28 (lf_ 1 27),
 pr_ 29 (bt_ .lss 26 28),
 mv_ 4 29]
 .ret))))
def o124:List Tmp:=[]
def r124:List RV:=[.tmp 4]
theorem t124:Text Tryz.prog 124 o124 c124 r124 30:=.mk_ Tryz.f124 rfl
def c130:ACode :=
 (sq_ [pr_ 2 mf_]
 (.seq (sq_ [mv_ 4 0,
 pr_ 5 (.lenv (.tmp 4)),
 pr_ 6 (bk_ .lss 5 .i64 1),
 mv_ 7 6,
 gp_ 8 7 false (mo_ 0),
 gp_ 9 7 false (.lenv (.tmp 8)),
 gp_ 10 7 false (bk_ .gtr 9 .i64 6),
 pr_ 11 (po_ 7 10)]
 (.cond (.tmp 11)
 (sq_ [pr_ 2 mf_]
 .ret)
 .skip))
 (.seq (sq_ [pr_ 3 (mi_ .i64 0)]
 (.block 0 (.loop [1,2,4,5,6,7,8,9,10,11,12,13,14,15,16,17,18,19,20,21,22,23,24,25,26,27,28,29,30,31,32,33,34,35,36,37,38,39,40,41,42,43,44,45,46,47,48,49,50,51] (.seq (sq_ [mv_ 12 3,
 mv_ 13 0,
 pr_ 14 (.lenv (.tmp 13)),
 pr_ 15 (bt_ .lss 12 14)]
 (.cond (.tmp 15)
 .skip
 (.exit 0)))
 (.seq (.block 1 (.seq (.draw [⟨mv_ 18 0,[],false,0,0⟩,
 ⟨mv_ 19 3,[],false,0,0⟩,
 ⟨pr_ 20 (.iadrs 2 (.tmp 18) (.tmp 19)),[0,1],false,0,0⟩,
 ⟨pr_ 21 (fa_ 0 20),[0,1,2],false,0,0⟩,
 ⟨pr_ 22 (lf_ 1 21),[0,1,2,3],false,0,0⟩,
 ⟨c1_ 23 121 22,[0,1,2,3,4],true,0,0⟩,
 ⟨pr_ 24 (no_ 23),(List.range 6),false,1,1⟩,
 ⟨mv_ 25 24,(List.range 7),false,1,1⟩,
 ⟨gp_ 26 25 false (mo_ 0),(List.range 8),false,1,1⟩,
 ⟨gp_ 27 25 false (mo_ 3),(List.range 8),false,1,1⟩,
 ⟨gp_ 28 25 false (.iadrs 2 (.tmp 26) (.tmp 27)),(List.range 10),false,1,1⟩,
 ⟨gp_ 29 25 false (fa_ 1 28),(List.range 11),false,1,1⟩,
 ⟨gp_ 30 25 false (lf_ 1 29),(List.range 12),false,1,1⟩,
 ⟨gc_ 31 25 false 156 [(.tmp 30)],(List.range 13),true,0,0⟩,
 ⟨gp_ 32 25 false (no_ 31),(List.range 14),false,2,2⟩,
 ⟨pr_ 33 (po_ 25 32),(List.range 15),false,2,2⟩,
 ⟨mv_ 34 33,(List.range 16),false,2,2⟩,
 ⟨gp_ 35 34 false (mo_ 3),(List.range 17),false,2,2⟩,
 ⟨gp_ 36 34 false (bk_ .gtr 35 .i64 0),(List.range 18),false,2,2⟩,
 ⟨gp_ 37 34 false (mo_ 36),(List.range 19),false,2,2⟩,
 ⟨gp_ 38 37 true (mo_ 0),(List.range 20),false,2,2⟩,
 ⟨gp_ 39 37 true (mo_ 3),(List.range 20),false,2,2⟩,
 ⟨gp_ 40 37 true (.iadrs 2 (.tmp 38) (.tmp 39)),(List.range 22),false,2,2⟩,
 ⟨gp_ 41 37 true (fa_ 0 40),(List.range 23),false,2,2⟩,
 ⟨gp_ 42 37 true (lf_ 1 41),(List.range 24),false,2,2⟩,
 ⟨gp_ 43 37 true (mo_ 0),(List.range 20),false,2,2⟩,
 ⟨gp_ 44 37 true (mo_ 3),(List.range 20),false,2,2⟩,
 ⟨gp_ 45 37 true (bk_ .sub 44 .i64 1),[0,1,2,3,4,5,6,7,8,9,10,11,12,13,14,15,16,17,18,19,26],false,2,2⟩,
 ⟨gp_ 46 37 true (.iadrs 2 (.tmp 43) (.tmp 45)),[0,1,2,3,4,5,6,7,8,9,10,11,12,13,14,15,16,17,18,19,25,26,27],false,2,2⟩,
 ⟨gp_ 47 37 true (fa_ 0 46),[0,1,2,3,4,5,6,7,8,9,10,11,12,13,14,15,16,17,18,19,25,26,27,28],false,2,2⟩,
 ⟨gp_ 48 37 true (lf_ 1 47),[0,1,2,3,4,5,6,7,8,9,10,11,12,13,14,15,16,17,18,19,25,26,27,28,29],false,2,2⟩,
 ⟨gp_ 49 37 true (bt_ .leq 42 48),(List.range 31),false,2,2⟩,
 ⟨gp_ 50 34 false (pa_ 37 49),(List.range 32),false,2,2⟩,
 ⟨pr_ 51 (po_ 34 50),(List.range 33),false,2,2⟩])
 (.cond (.tmp 51)
 (sq_ [pr_ 2 mf_]
 .ret)
 .skip)))
 (.ops [mv_ 16 3,
 pr_ 17 (bk_ .add 16 .i64 1),
 mv_ 3 17]))))))
 (sq_ [pr_ 2 mt_]
 .ret))))
def o130:List Tmp:=[]
def r130:List RV:=[.tmp 2]
theorem t130:Text Tryz.prog 130 o130 c130 r130 52:=.mk_ Tryz.f130 rfl
def c132:ACode :=
 (sq_ [pr_ 2 mf_]
 (sq_ [mv_ 3 0,
 mv_ 4 0,
 pr_ 5 (bt_ .neq 3 4),
 mv_ 2 5]
 .ret))
def o132:List Tmp:=[]
def r132:List RV:=[.tmp 2]
theorem t132:Text Tryz.prog 132 o132 c132 r132 6:=.mk_ Tryz.f132 rfl
def c133:ACode :=
 (sq_ [pr_ 2 (.mov (.const (.string (ByteArray.mk #[]))))]
 (sq_ [pr_ 3 (.build [.pl (.string .empty),.pl (.string .empty),.pl (.string .empty),.pl (.string .empty),.pl (.string .empty),.pl (.string .empty),.pl (.string .empty)] [(0,1,(.const (.string (ByteArray.mk #[97])))),(1,1,(.const (.string (ByteArray.mk #[98])))),(2,1,(.const (.string (ByteArray.mk #[99,114,105,116])))),(3,1,(.const (.string (ByteArray.mk #[119,97,114,110])))),(4,1,(.const (.string (ByteArray.mk #[97,98])))),(5,1,(.const (.string (ByteArray.mk #[0,255])))),(6,1,(.const (.string (ByteArray.mk #[97,98,97,98,97,98,97,98,97,98,97,98,97,98,97,98,97,98,97,98,97,98,97,98]))))]),
 mv_ 4 0,
 cl_ 5 99 [(.tmp 4),(.const (.int .i64 0)),(.const (.int .i64 6))],
 pr_ 6 (.idxa 1 7 false (.tmp 3) (.tmp 5)),
 mv_ 2 6]
 .ret))
def o133:List Tmp:=[]
def r133:List RV:=[.tmp 2]
theorem t133:Text Tryz.prog 133 o133 c133 r133 7:=.mk_ Tryz.f133 rfl
def c134:ACode :=
 (sq_ [pr_ 4 (.mov (.const (.string (ByteArray.mk #[]))))]
 (.seq (sq_ [pr_ 5 (mi_ .i64 0)]
 (.block 0 (.loop [2,3,4,6,7,8,9,10,11,12,13,14,15,16,17,18,19,20,21,22,23] (.seq (sq_ [mv_ 6 5,
 mv_ 7 0,
 pr_ 8 (.lenv (.tmp 7)),
 pr_ 9 (bt_ .lss 6 8)]
 (.cond (.tmp 9)
 .skip
 (.exit 0)))
 (.seq (.block 1 (sq_ [mv_ 12 0,
 mv_ 13 5,
 pr_ 14 (.iadrs 2 (.tmp 12) (.tmp 13)),
 pr_ 15 (fa_ 0 14),
 pr_ 16 (lf_ 1 15),
 mv_ 17 1,
 pr_ 18 (bt_ .eql 16 17)]
 (.cond (.tmp 18)
 (sq_ [mv_ 19 0,
 mv_ 20 5,
 pr_ 21 (.iadrs 2 (.tmp 19) (.tmp 20)),
 pr_ 22 (fa_ 1 21),
 pr_ 23 (lf_ 1 22),
 mv_ 4 23]
 .ret)
 .skip)))
 (.ops [mv_ 10 5,
 pr_ 11 (bk_ .add 10 .i64 1),
 mv_ 5 11]))))))
 (sq_ [pr_ 4 (.mov (.const (.string (ByteArray.mk #[]))))]
 .ret)))
def o134:List Tmp:=[]
def r134:List RV:=[.tmp 4]
theorem t134:Text Tryz.prog 134 o134 c134 r134 24:=.mk_ Tryz.f134 rfl
def c135:ACode :=
 (sq_ [pr_ 2 (.mov (.const (.slice none 0 0))),
 pr_ 3 mf_]
 (.seq (.after (.after (.after (.ops [pr_ 4 (.mov (.const (.slice none 0 0)))]) (.own 4 2)) (.shut 4)) (.keep 0))
 (.seq (sq_ [pr_ 5 (mi_ .i64 0)]
 (.block 0 (.loop [1,2,3,6,7,8,9,10,11,12,13,14,15,16,17,18,19,20,21,22,23,24,25,26,27,28,29,30,31,32,33,34,35,36,37,38,39,40,41,42,43,44,45,46,47,48,49,50] (.seq (sq_ [mv_ 7 5,
 mv_ 8 0,
 pr_ 9 (.lenv (.tmp 8)),
 pr_ 10 (bt_ .lss 7 9)]
 (.cond (.tmp 10)
 .skip
 (.exit 0)))
 (.seq (.block 1 (sq_ [mv_ 13 4,
 pr_ 14 (.lenv (.tmp 13)),
 mv_ 6 14]
 (.seq (.block 2 (.loop [1,2,3,7,8,9,10,11,12,13,14,15,16,17,18,19,20,21,22,23,24,25,26,27,28,29,30,31,32,33,34,35,36,37,38,39,40,41,42,43,44,45,46,47,48,49,50] (.seq (.seq (.draw [⟨mv_ 15 6,[],false,0,0⟩,
 ⟨pr_ 16 (bk_ .gtr 15 .i64 0),[0],false,0,0⟩,
 ⟨mv_ 17 16,[0,1],false,0,0⟩,
 ⟨gp_ 18 17 true (mo_ 0),[0,1,2],false,0,0⟩,
 ⟨gp_ 19 17 true (mo_ 5),[0,1,2],false,0,0⟩,
 ⟨gp_ 20 17 true (.iadrs 2 (.tmp 18) (.tmp 19)),[0,1,2,3,4],false,0,0⟩,
 ⟨gp_ 21 17 true (fa_ 0 20),(List.range 6),false,0,0⟩,
 ⟨gp_ 22 17 true (lf_ 1 21),(List.range 7),false,0,0⟩,
 ⟨gp_ 23 17 true (mo_ 4),[0,1,2],false,0,0⟩,
 ⟨gp_ 24 17 true (mo_ 6),[0,1,2],false,0,0⟩,
 ⟨gp_ 25 17 true (bk_ .sub 24 .i64 1),[0,1,2,9],false,0,0⟩,
 ⟨gp_ 26 17 true (.iadrs 2 (.tmp 23) (.tmp 25)),[0,1,2,8,9,10],false,0,0⟩,
 ⟨gp_ 27 17 true (fa_ 0 26),[0,1,2,8,9,10,11],false,0,0⟩,
 ⟨gp_ 28 17 true (lf_ 1 27),[0,1,2,8,9,10,11,12],false,0,0⟩,
 ⟨gp_ 29 17 true (bt_ .lss 22 28),(List.range 14),false,0,0⟩,
 ⟨pr_ 30 (pa_ 17 29),(List.range 15),false,0,0⟩])
 (.cond (.tmp 30)
 .skip
 (.exit 2)))
 (.block 3 (.ops [mv_ 31 6,
 pr_ 32 (bk_ .sub 31 .i64 1),
 mv_ 6 32])))))
 (.after (.after (.after (.draw [⟨mv_ 33 4,[],false,0,0⟩,
 ⟨mv_ 34 6,[],false,0,0⟩,
 ⟨pr_ 35 (.slcv 2 (.tmp 33) none (some (.tmp 34))),[0,1],false,0,0⟩,
 ⟨pr_ 36 (.app 2 (.const (.slice none 0 0)) (.tmp 35)),[0,1,2],true,0,0⟩,
 ⟨mv_ 37 0,[],false,0,1⟩,
 ⟨mv_ 38 5,[],false,0,1⟩,
 ⟨pr_ 39 (.iadrs 2 (.tmp 37) (.tmp 38)),[4,5],false,0,1⟩,
 ⟨pr_ 40 (lt_ 2 39),[4,5,6],false,0,1⟩,
 ⟨pr_ 41 (.bsl false 2 true 1 [.pl (.string .empty),.pl (.string .empty)] [(0,2,(.tmp 40))]),[4,5,6,7],false,0,1⟩,
 ⟨pr_ 42 (.app 2 (.tmp 36) (.tmp 41)),(List.range 9),true,0,0⟩,
 ⟨mv_ 43 4,[],false,0,2⟩,
 ⟨mv_ 44 6,[],false,0,2⟩,
 ⟨pr_ 45 (.slcv 2 (.tmp 43) (some (.tmp 44)) none),[10,11],false,0,2⟩,
 ⟨pr_ 46 (.app 2 (.tmp 42) (.tmp 45)),(List.range 13),true,0,0⟩,
 ⟨mv_ 4 46,(List.range 14),false,3,3⟩]) (.shut 4)) (.clear [36,42,46])) (.keep 0)))))
 (.ops [mv_ 11 5,
 pr_ 12 (bk_ .add 11 .i64 1),
 mv_ 5 12]))))))
 (.seq (sq_ [mv_ 47 4,
 c1_ 48 130 47,
 pr_ 49 (no_ 48)]
 (.cond (.tmp 49)
 (sq_ [pr_ 2 (.mov (.const (.slice none 0 0))),
 pr_ 3 mf_]
 (.ghost (.shut 2) .ret))
 .skip))
 (sq_ [mv_ 50 4,
 mv_ 2 50,
 pr_ 3 mt_]
 (.ghost (.shut 2) .ret))))))
def o135:List Tmp:=[]
def r135:List RV:=[.tmp 2,.tmp 3]
theorem t135:Text Tryz.prog 135 o135 c135 r135 51:=.mk_ Tryz.f135 rfl
def c142:ACode :=
 (sq_ [pr_ 1 (.boxr (.tmp 0)),
 pr_ 2 mf_]
 (.seq (sq_ [pr_ 5 (fa_ 1 1),
 pr_ 6 (lf_ 1 5),
 c1_ 7 108 6,
 pr_ 8 (no_ 7)]
 (.cond (.tmp 8)
 (sq_ [pr_ 2 mf_]
 .ret)
 .skip))
 (.seq (sq_ [pr_ 9 (lt_ 3 1),
 c1_ 10 159 9]
 (.cond (.tmp 10)
 (sq_ [pr_ 12 (fa_ 2 1),
 pr_ 13 (lf_ 1 12),
 c1_ 14 160 13,
 mv_ 11 14,
 pr_ 15 (ex_ 0 11),
 pr_ 16 (ex_ 1 11),
 ⟨some 3,none,.fresh 6 3 (.tmp 15)⟩,
 mv_ 4 16]
 (sq_ [mv_ 17 4,
 mv_ 2 17]
 .ret))
 .skip))
 (sq_ [pr_ 18 (fa_ 0 1),
 pr_ 19 (lf_ 1 18),
 pr_ 20 (bk_ .eql 19 .i64 1),
 mv_ 21 20,
 gp_ 22 21 false (fa_ 0 1),
 gp_ 23 21 false (lf_ 1 22),
 gp_ 24 21 false (bk_ .eql 23 .i64 2),
 pr_ 25 (po_ 21 24),
 mv_ 26 25,
 gp_ 27 26 true (fa_ 2 1),
 gp_ 28 26 true (lf_ 1 27),
 gp_ 29 26 true (.lens (.tmp 28)),
 gp_ 30 26 true (bk_ .leq 29 .i64 24),
 pr_ 31 (pa_ 26 30),
 mv_ 2 31]
 .ret))))
def o142:List Tmp:=[]
def r142:List RV:=[.tmp 2]
theorem t142:Text Tryz.prog 142 o142 c142 r142 32:=.mk_ Tryz.f142 rfl
def c143:ACode :=
 (sq_ [pr_ 2 (.boxr (.tmp 0)),
 pr_ 3 (.boxr (.tmp 1)),
 pr_ 4 (mi_ .i64 0)]
 (.seq (.draw [⟨pr_ 5 (fa_ 1 2),[],false,0,0⟩,
 ⟨pr_ 6 (lf_ 1 5),[0],false,0,0⟩,
 ⟨pr_ 7 (fa_ 1 3),[],false,0,0⟩,
 ⟨pr_ 8 (lf_ 1 7),[2],false,0,0⟩,
 ⟨cl_ 9 162 [(.tmp 6),(.tmp 8)],[0,1,2,3],true,0,0⟩,
 ⟨pr_ 10 (fa_ 0 2),[],false,0,1⟩,
 ⟨pr_ 11 (lf_ 1 10),[5],false,0,1⟩,
 ⟨pr_ 12 (fa_ 0 3),[],false,0,1⟩,
 ⟨pr_ 13 (lf_ 1 12),[7],false,0,1⟩,
 ⟨cl_ 14 163 [(.tmp 11),(.tmp 13)],(List.range 9),true,0,0⟩,
 ⟨pr_ 15 (fa_ 2 2),[],false,0,2⟩,
 ⟨pr_ 16 (lf_ 1 15),[10],false,0,2⟩,
 ⟨pr_ 17 (fa_ 2 3),[],false,0,2⟩,
 ⟨pr_ 18 (lf_ 1 17),[12],false,0,2⟩,
 ⟨cl_ 19 162 [(.tmp 16),(.tmp 18)],(List.range 14),true,0,0⟩,
 ⟨pr_ 20 (.bsl false 1 false 3 [.pl (.int .i64 0)] [(0,1,(.tmp 9)),(1,1,(.tmp 14)),(2,1,(.tmp 19))]),(List.range 15),false,3,3⟩,
 ⟨c1_ 21 161 20,(List.range 16),true,0,0⟩,
 ⟨mv_ 4 21,(List.range 17),false,4,4⟩])
 .ret))
def o143:List Tmp:=[]
def r143:List RV:=[.tmp 4]
theorem t143:Text Tryz.prog 143 o143 c143 r143 22:=.mk_ Tryz.f143 rfl
def c144:ACode :=
 (sq_ [pr_ 2 mf_]
 (sq_ [mv_ 3 0,
 pr_ 4 (bk_ .geq 3 .u8 97),
 mv_ 5 4,
 gp_ 6 5 true (mo_ 0),
 gp_ 7 5 true (bk_ .leq 6 .u8 122),
 pr_ 8 (pa_ 5 7),
 mv_ 9 8,
 gp_ 10 9 false (mo_ 0),
 gp_ 11 9 false (bk_ .geq 10 .u8 65),
 gp_ 12 9 false (mo_ 11),
 gp_ 13 12 true (mo_ 0),
 gp_ 14 12 true (bk_ .leq 13 .u8 90),
 gp_ 15 9 false (pa_ 12 14),
 pr_ 16 (po_ 9 15),
 mv_ 17 16,
 gp_ 18 17 false (mo_ 0),
 gp_ 19 17 false (bk_ .eql 18 .u8 95),
 pr_ 20 (po_ 17 19),
 mv_ 2 20]
 .ret))
def o144:List Tmp:=[]
def r144:List RV:=[.tmp 2]
theorem t144:Text Tryz.prog 144 o144 c144 r144 21:=.mk_ Tryz.f144 rfl
def c149:ACode :=
 (sq_ [pr_ 1 (.boxr (.tmp 0)),
 pr_ 2 mf_]
 (.seq (sq_ [pr_ 5 (fa_ 1 1),
 pr_ 6 (lf_ 1 5),
 c1_ 7 121 6,
 pr_ 8 (no_ 7)]
 (.cond (.tmp 8)
 (sq_ [pr_ 2 mf_]
 .ret)
 .skip))
 (.seq (sq_ [pr_ 9 (lt_ 3 1),
 c1_ 10 169 9]
 (.cond (.tmp 10)
 (sq_ [pr_ 12 (fa_ 2 1),
 pr_ 13 (lf_ 1 12),
 c1_ 14 170 13,
 mv_ 11 14,
 pr_ 15 (ex_ 0 11),
 pr_ 16 (ex_ 1 11),
 ⟨some 3,none,.fresh 6 3 (.tmp 15)⟩,
 mv_ 4 16]
 (sq_ [mv_ 17 4,
 mv_ 2 17]
 .ret))
 .skip))
 (sq_ [pr_ 18 (fa_ 0 1),
 pr_ 19 (lf_ 1 18),
 pr_ 20 (bk_ .eql 19 .i64 1),
 mv_ 21 20,
 gp_ 22 21 false (fa_ 0 1),
 gp_ 23 21 false (lf_ 1 22),
 gp_ 24 21 false (bk_ .eql 23 .i64 2),
 pr_ 25 (po_ 21 24),
 mv_ 26 25,
 gp_ 27 26 true (fa_ 2 1),
 gp_ 28 26 true (lf_ 1 27),
 gp_ 29 26 true (.lens (.tmp 28)),
 gp_ 30 26 true (bk_ .leq 29 .i64 24),
 pr_ 31 (pa_ 26 30),
 mv_ 2 31]
 .ret))))
def o149:List Tmp:=[]
def r149:List RV:=[.tmp 2]
theorem t149:Text Tryz.prog 149 o149 c149 r149 32:=.mk_ Tryz.f149 rfl
def c150:ACode :=
 (sq_ [pr_ 2 (.boxr (.tmp 0)),
 pr_ 3 (.boxr (.tmp 1)),
 pr_ 4 mf_]
 (.seq (sq_ [pr_ 5 (fa_ 1 2),
 pr_ 6 (lf_ 1 5),
 pr_ 7 (fa_ 1 3),
 pr_ 8 (lf_ 1 7),
 pr_ 9 (bt_ .neq 6 8)]
 (.cond (.tmp 9)
 (sq_ [pr_ 10 (fa_ 1 2),
 pr_ 11 (lf_ 1 10),
 pr_ 12 (fa_ 1 3),
 pr_ 13 (lf_ 1 12),
 pr_ 14 (bt_ .lss 11 13),
 mv_ 4 14]
 .ret)
 .skip))
 (.seq (sq_ [pr_ 15 (fa_ 0 2),
 pr_ 16 (lf_ 1 15),
 pr_ 17 (fa_ 0 3),
 pr_ 18 (lf_ 1 17),
 pr_ 19 (bt_ .neq 16 18)]
 (.cond (.tmp 19)
 (sq_ [pr_ 20 (fa_ 0 2),
 pr_ 21 (lf_ 1 20),
 pr_ 22 (fa_ 0 3),
 pr_ 23 (lf_ 1 22),
 pr_ 24 (bt_ .lss 21 23),
 mv_ 4 24]
 .ret)
 .skip))
 (sq_ [pr_ 25 (fa_ 2 2),
 pr_ 26 (lf_ 1 25),
 pr_ 27 (fa_ 2 3),
 pr_ 28 (lf_ 1 27),
 pr_ 29 (bt_ .lss 26 28),
 mv_ 4 29]
 .ret))))
def o150:List Tmp:=[]
def r150:List RV:=[.tmp 4]
theorem t150:Text Tryz.prog 150 o150 c150 r150 30:=.mk_ Tryz.f150 rfl
def c152:ACode :=
 (sq_ [pr_ 2 (.mov (.const (.string (ByteArray.mk #[]))))]
 (sq_ [pr_ 3 (.build [.pl (.string .empty),.pl (.string .empty),.pl (.string .empty),.pl (.string .empty),.pl (.string .empty),.pl (.string .empty),.pl (.string .empty),.pl (.string .empty),.pl (.string .empty)] [(0,1,(.const (.string (ByteArray.mk #[97,124,98])))),(1,1,(.const (.string (ByteArray.mk #[])))),(2,1,(.const (.string (ByteArray.mk #[40,99,114,105,116,124,119,97,114,110,41])))),(3,1,(.const (.string (ByteArray.mk #[91,97,45,99,93,43,46,42])))),(4,1,(.const (.string (ByteArray.mk #[46,43])))),(5,1,(.const (.string (ByteArray.mk #[40,97,98,41,42])))),(6,1,(.const (.string (ByteArray.mk #[97,63,98,63])))),(7,1,(.const (.string (ByteArray.mk #[91,94,97,93,42])))),(8,1,(.const (.string (ByteArray.mk #[97,42,97,42,97,42,97,42,97,42,97,42,97,42,97,42,97,42,97,42,97,42,97,42,97,42,97,42]))))]),
 mv_ 4 0,
 cl_ 5 99 [(.tmp 4),(.const (.int .i64 0)),(.const (.int .i64 8))],
 pr_ 6 (.idxa 1 9 false (.tmp 3) (.tmp 5)),
 mv_ 2 6]
 .ret))
def o152:List Tmp:=[]
def r152:List RV:=[.tmp 2]
theorem t152:Text Tryz.prog 152 o152 c152 r152 7:=.mk_ Tryz.f152 rfl
def c156:ACode :=
 (sq_ [pr_ 2 mf_]
 (sq_ [mv_ 3 0,
 pr_ 4 (.lens (.tmp 3)),
 pr_ 5 (bk_ .geq 4 .i64 1),
 mv_ 6 5,
 gp_ 7 6 true (mo_ 0),
 gp_ 8 6 true (.lens (.tmp 7)),
 gp_ 9 6 true (bk_ .leq 8 .i64 24),
 pr_ 10 (pa_ 6 9),
 mv_ 2 10]
 .ret))
def o156:List Tmp:=[]
def r156:List RV:=[.tmp 2]
theorem t156:Text Tryz.prog 156 o156 c156 r156 11:=.mk_ Tryz.f156 rfl
def c159:ACode :=
 (sq_ [pr_ 1 (.boxr (.tmp 0)),
 pr_ 2 mf_]
 (sq_ [pr_ 3 (fa_ 0 1),
 pr_ 4 (lf_ 1 3),
 pr_ 5 (bk_ .eql 4 .i64 3),
 mv_ 6 5,
 gp_ 7 6 false (fa_ 0 1),
 gp_ 8 6 false (lf_ 1 7),
 gp_ 9 6 false (bk_ .eql 8 .i64 4),
 pr_ 10 (po_ 6 9),
 mv_ 2 10]
 .ret))
def o159:List Tmp:=[]
def r159:List RV:=[.tmp 2]
theorem t159:Text Tryz.prog 159 o159 c159 r159 11:=.mk_ Tryz.f159 rfl
def c160:ACode :=
 (sq_ [pr_ 2 (.allocm z6_),
 pr_ 3 mf_]
 (sq_ [mv_ 6 0,
 mv_ 7 0,
 pr_ 8 (.lens (.tmp 7)),
 pr_ 9 (bk_ .gtr 8 .i64 40),
 pr_ 10 (.build [.pl (.string .empty),.pl (.int .i64 0),.pl (.bool false)] [(0,1,(.tmp 6)),(2,1,(.tmp 9))]),
 pr_ 11 (.boxm (.tmp 10)),
 mv_ 4 11]
 (sq_ [mv_ 12 4,
 cl_ 13 171 [(.tmp 12),(.const (.int .i64 0))],
 ⟨some 5,none,.fresh 6 5 (.tmp 13)⟩]
 (.seq (sq_ [mv_ 14 4,
 pr_ 15 (nc_ 14),
 pr_ 16 (fa_ 2 15),
 pr_ 17 (lf_ 1 16),
 mv_ 18 17,
 gp_ 19 18 false (mo_ 4),
 gp_ 20 18 false (nc_ 19),
 gp_ 21 18 false (fa_ 1 20),
 gp_ 22 18 false (lf_ 1 21),
 gp_ 23 18 false (mo_ 0),
 gp_ 24 18 false (.lens (.tmp 23)),
 gp_ 25 18 false (bt_ .lss 22 24),
 pr_ 26 (po_ 18 25)]
 (.cond (.tmp 26)
 (sq_ [pr_ 27 (.build z6_ []),
 st_ (so_ 6 2 27),
 pr_ 3 mf_]
 .ret)
 .skip))
 (sq_ [pr_ 28 (lt_ 6 5),
 st_ (so_ 6 2 28),
 pr_ 3 mt_]
 .ret)))))
def o160:List Tmp:=[2,11]
def r160:List RV:=[.cell 2 6 true,.tmp 3]
theorem t160:Text Tryz.prog 160 o160 c160 r160 29:=.mk_ Tryz.f160 rfl
def c161:ACode :=
 (sq_ [pr_ 2 (mi_ .i64 0)]
 (sq_ [pr_ 3 (mi_ .i64 0)]
 (.seq (sq_ [mv_ 6 0,
 pr_ 7 (.lenv (.tmp 6)),
 pr_ 8 (mi_ .i64 0)]
 (.block 0 (.loop [0,1,2,4,5,9,10,11,12,13,14,15,16,17] (sq_ [pr_ 9 (bt_ .lss 8 7)]
 (.seq (.cond (.tmp 9)
 .skip
 (.exit 0))
 (.seq (.block 1 (sq_ [pr_ 10 (.iadrs 1 (.tmp 6) (.tmp 8)),
 pr_ 11 (lf_ 1 10),
 mv_ 5 11]
 (sq_ [mv_ 12 5,
 mv_ 13 3,
 pr_ 14 (bt_ .neq 12 13)]
 (.cond (.tmp 14)
 (sq_ [mv_ 15 5,
 mv_ 2 15]
 .ret)
 .skip))))
 (.ops [pr_ 16 (bk_ .add 8 .i64 1),
 mv_ 8 16])))))))
 (sq_ [mv_ 17 3,
 mv_ 2 17]
 .ret))))
def o161:List Tmp:=[]
def r161:List RV:=[.tmp 2]
theorem t161:Text Tryz.prog 161 o161 c161 r161 18:=.mk_ Tryz.f161 rfl
def c162:ACode :=
 (sq_ [pr_ 4 (mi_ .i64 0)]
 (sq_ [mv_ 5 0,
 mv_ 6 1,
 cl_ 7 172 [(.tmp 5),(.tmp 6)],
 mv_ 4 7]
 .ret))
def o162:List Tmp:=[]
def r162:List RV:=[.tmp 4]
theorem t162:Text Tryz.prog 162 o162 c162 r162 8:=.mk_ Tryz.f162 rfl
def c163:ACode :=
 (sq_ [pr_ 4 (mi_ .i64 0)]
 (sq_ [mv_ 7 0,
 c1_ 8 173 7,
 mv_ 5 8]
 (sq_ [mv_ 9 1,
 c1_ 10 173 9,
 mv_ 6 10]
 (.seq (sq_ [mv_ 11 5]
 (.cond (.tmp 11)
 (.seq (sq_ [mv_ 12 6]
 (.cond (.tmp 12)
 (sq_ [pr_ 4 (mi_ .i64 0)]
 .ret)
 .skip))
 (sq_ [pr_ 4 (.mov (.const (.int .i64 (-1))))]
 .ret))
 .skip))
 (.seq (sq_ [mv_ 13 6]
 (.cond (.tmp 13)
 (sq_ [pr_ 4 (mi_ .i64 1)]
 .ret)
 .skip))
 (.seq (sq_ [mv_ 14 0,
 mv_ 15 1,
 pr_ 16 (bt_ .lss 14 15)]
 (.cond (.tmp 16)
 (sq_ [pr_ 4 (.mov (.const (.int .i64 (-1))))]
 .ret)
 .skip))
 (.seq (sq_ [mv_ 17 0,
 mv_ 18 1,
 pr_ 19 (bt_ .gtr 17 18)]
 (.cond (.tmp 19)
 (sq_ [pr_ 4 (mi_ .i64 1)]
 .ret)
 .skip))
 (sq_ [pr_ 4 (mi_ .i64 0)]
 .ret))))))))
def o163:List Tmp:=[]
def r163:List RV:=[.tmp 4]
theorem t163:Text Tryz.prog 163 o163 c163 r163 20:=.mk_ Tryz.f163 rfl
def c169:ACode :=
 (sq_ [pr_ 1 (.boxr (.tmp 0)),
 pr_ 2 mf_]
 (sq_ [pr_ 3 (fa_ 0 1),
 pr_ 4 (lf_ 1 3),
 pr_ 5 (bk_ .eql 4 .i64 3),
 mv_ 6 5,
 gp_ 7 6 false (fa_ 0 1),
 gp_ 8 6 false (lf_ 1 7),
 gp_ 9 6 false (bk_ .eql 8 .i64 4),
 pr_ 10 (po_ 6 9),
 mv_ 2 10]
 .ret))
def o169:List Tmp:=[]
def r169:List RV:=[.tmp 2]
theorem t169:Text Tryz.prog 169 o169 c169 r169 11:=.mk_ Tryz.f169 rfl
def c170:ACode :=
 (sq_ [pr_ 2 (.allocm z6_),
 pr_ 3 mf_]
 (.seq (sq_ [mv_ 6 0,
 pr_ 7 (.lens (.tmp 6)),
 pr_ 8 (bk_ .gtr 7 .i64 40)]
 (.cond (.tmp 8)
 (sq_ [pr_ 9 (.build z6_ []),
 st_ (so_ 6 2 9),
 pr_ 3 mf_]
 .ret)
 .skip))
 (sq_ [mv_ 10 0,
 pr_ 11 (.build [.pl (.string .empty),.pl (.int .i64 0),.pl (.int .i64 0),.pl (.bool false)] [(0,1,(.tmp 10))]),
 pr_ 12 (.boxm (.tmp 11)),
 mv_ 4 12]
 (sq_ [mv_ 13 4,
 c1_ 14 180 13,
 ⟨some 5,none,.fresh 6 5 (.tmp 14)⟩]
 (.seq (sq_ [mv_ 15 4,
 pr_ 16 (nc_ 15),
 pr_ 17 (fa_ 3 16),
 pr_ 18 (lf_ 1 17),
 mv_ 19 18,
 gp_ 20 19 false (mo_ 4),
 gp_ 21 19 false (nc_ 20),
 gp_ 22 19 false (fa_ 1 21),
 gp_ 23 19 false (lf_ 1 22),
 gp_ 24 19 false (mo_ 0),
 gp_ 25 19 false (.lens (.tmp 24)),
 gp_ 26 19 false (bt_ .lss 23 25),
 pr_ 27 (po_ 19 26)]
 (.cond (.tmp 27)
 (sq_ [pr_ 28 (.build z6_ []),
 st_ (so_ 6 2 28),
 pr_ 3 mf_]
 .ret)
 .skip))
 (sq_ [pr_ 29 (lt_ 6 5),
 st_ (so_ 6 2 29),
 pr_ 3 mt_]
 .ret))))))
def o170:List Tmp:=[2,12]
def r170:List RV:=[.cell 2 6 true,.tmp 3]
theorem t170:Text Tryz.prog 170 o170 c170 r170 30:=.mk_ Tryz.f170 rfl
def c171:ACode :=
 (sq_ [pr_ 4 (.allocm z6_)]
 (sq_ [mv_ 6 0,
 mv_ 7 1,
 cl_ 8 181 [(.tmp 6),(.tmp 7)],
 pr_ 9 (.bsl true 6 true 1 z6_ [(0,6,(.tmp 8))]),
 mv_ 5 9]
 (.seq (.block 0 (.loop [2,3,6,7,8,9,10,11,12,13,14,15,16,17,18,19,20,21,22,23,24,25] (.seq (sq_ [mv_ 10 0,
 cl_ 11 182 [(.tmp 10),(.const (.int .u8 124))]]
 (.cond (.tmp 11)
 .skip
 (.exit 0)))
 (.block 1 (.ops [mv_ 12 5,
 mv_ 13 0,
 mv_ 14 1,
 cl_ 15 181 [(.tmp 13),(.tmp 14)],
 pr_ 16 (.bsl false 6 true 1 z6_ [(0,6,(.tmp 15))]),
 pr_ 17 (.app 6 (.tmp 12) (.tmp 16)),
 mv_ 5 17])))))
 (.seq (sq_ [mv_ 18 5,
 pr_ 19 (.lenv (.tmp 18)),
 pr_ 20 (bk_ .eql 19 .i64 1)]
 (.cond (.tmp 20)
 (sq_ [mv_ 21 5,
 pr_ 22 (.iadrs 6 (.tmp 21) (.const (.int .i64 0))),
 pr_ 23 (lt_ 6 22),
 st_ (so_ 6 4 23)]
 .ret)
 .skip))
 (.seq (.ghost (.shut 5) (.ops [mv_ 24 5,
 pr_ 25 (.build z6_ [(0,1,(.const (.int .i64 3))),(5,1,(.tmp 24))]),
 st_ (so_ 6 4 25)]))
 .ret)))))
def o171:List Tmp:=[4,9]
def r171:List RV:=[.cell 4 6 true]
theorem t171:Text Tryz.prog 171 o171 c171 r171 26:=.mk_ Tryz.f171 rfl
def c172:ACode :=
 (sq_ [pr_ 4 (mi_ .i64 0)]
 (sq_ [mv_ 5 0,
 mv_ 6 1,
 cl_ 7 183 [(.tmp 5),(.tmp 6)],
 mv_ 4 7]
 .ret))
def o172:List Tmp:=[]
def r172:List RV:=[.tmp 4]
theorem t172:Text Tryz.prog 172 o172 c172 r172 8:=.mk_ Tryz.f172 rfl
def c173:ACode :=
 (sq_ [pr_ 2 mf_]
 (sq_ [mv_ 3 0,
 mv_ 4 0,
 pr_ 5 (bt_ .neq 3 4),
 mv_ 2 5]
 .ret))
def o173:List Tmp:=[]
def r173:List RV:=[.tmp 2]
theorem t173:Text Tryz.prog 173 o173 c173 r173 6:=.mk_ Tryz.f173 rfl
def c180:ACode :=
 (sq_ [pr_ 2 (.allocm z6_)]
 (sq_ [mv_ 4 0,
 c1_ 5 189 4,
 pr_ 6 (.bsl true 6 true 1 z6_ [(0,6,(.tmp 5))]),
 mv_ 3 6]
 (.seq (.block 0 (.loop [1,4,5,6,7,8,9,10,11,12,13,14,15,16,17,18,19,20,21,22,23,24,25,26,27,28,29,30,31,32,33,34,35,36,37,38,39,40] (.seq (.seq (.draw [⟨mv_ 7 0,[],false,0,0⟩,
 ⟨c1_ 8 190 7,[0],true,0,0⟩,
 ⟨mv_ 9 8,[0,1],false,1,1⟩,
 ⟨gp_ 10 9 true (mo_ 0),[0,1,2],false,1,1⟩,
 ⟨gp_ 11 9 true (nc_ 10),[0,1,2,3],false,1,1⟩,
 ⟨gp_ 12 9 true (fa_ 0 11),[0,1,2,3,4],false,1,1⟩,
 ⟨gp_ 13 9 true (lf_ 1 12),(List.range 6),false,1,1⟩,
 ⟨gp_ 14 9 true (mo_ 0),[0,1,2],false,1,1⟩,
 ⟨gp_ 15 9 true (nc_ 14),[0,1,2,7],false,1,1⟩,
 ⟨gp_ 16 9 true (fa_ 1 15),[0,1,2,7,8],false,1,1⟩,
 ⟨gp_ 17 9 true (lf_ 1 16),[0,1,2,7,8,9],false,1,1⟩,
 ⟨gp_ 18 9 true (.idxs (.tmp 13) (.tmp 17)),(List.range 11),false,1,1⟩,
 ⟨gp_ 19 9 true (bk_ .eql 18 .u8 124),(List.range 12),false,1,1⟩,
 ⟨pr_ 20 (pa_ 9 19),(List.range 13),false,1,1⟩])
 (.cond (.tmp 20)
 .skip
 (.exit 0)))
 (.block 1 (sq_ [mv_ 21 0,
 pr_ 22 (nc_ 21),
 pr_ 23 (fa_ 1 22),
 pr_ 24 (lf_ 1 23),
 pr_ 25 (bk_ .add 24 .i64 1),
 pr_ 26 (nc_ 21),
 pr_ 27 (fa_ 1 26),
 st_ (so_ 1 27 25)]
 (.ops [mv_ 28 3,
 mv_ 29 0,
 c1_ 30 189 29,
 pr_ 31 (.bsl false 6 true 1 z6_ [(0,6,(.tmp 30))]),
 pr_ 32 (.app 6 (.tmp 28) (.tmp 31)),
 mv_ 3 32]))))))
 (.seq (sq_ [mv_ 33 3,
 pr_ 34 (.lenv (.tmp 33)),
 pr_ 35 (bk_ .eql 34 .i64 1)]
 (.cond (.tmp 35)
 (sq_ [mv_ 36 3,
 pr_ 37 (.iadrs 6 (.tmp 36) (.const (.int .i64 0))),
 pr_ 38 (lt_ 6 37),
 st_ (so_ 6 2 38)]
 .ret)
 .skip))
 (.seq (.ghost (.shut 3) (.ops [mv_ 39 3,
 pr_ 40 (.build z6_ [(0,1,(.const (.int .i64 3))),(5,1,(.tmp 39))]),
 st_ (so_ 6 2 40)]))
 .ret)))))
def o180:List Tmp:=[2,6]
def r180:List RV:=[.cell 2 6 true]
theorem t180:Text Tryz.prog 180 o180 c180 r180 41:=.mk_ Tryz.f180 rfl
def c181:ACode :=
 (sq_ [pr_ 4 (.allocm z6_)]
 (sq_ [pr_ 5 (.mov (.const (.slice none 0 0)))]
 (.seq (.block 0 (.loop [2,3,6,7,8,9,10,11,12,13,14,15,16,17,18,19,20,21,22,23,24,25,26,27,28,29,30,31,32] (.seq (sq_ [mv_ 6 0,
 c1_ 7 191 6,
 pr_ 8 (no_ 7),
 mv_ 9 8,
 gp_ 10 9 true (mo_ 0),
 gc_ 11 9 true 192 [(.tmp 10),(.const (.int .u8 124))],
 gp_ 12 9 true (no_ 11),
 pr_ 13 (pa_ 9 12),
 mv_ 14 13,
 gp_ 15 14 true (mo_ 0),
 gc_ 16 14 true 192 [(.tmp 15),(.const (.int .u8 41))],
 gp_ 17 14 true (no_ 16),
 pr_ 18 (pa_ 14 17)]
 (.cond (.tmp 18)
 .skip
 (.exit 0)))
 (.block 1 (.ops [mv_ 19 5,
 mv_ 20 0,
 mv_ 21 1,
 cl_ 22 193 [(.tmp 20),(.tmp 21)],
 pr_ 23 (.bsl false 6 true 1 z6_ [(0,6,(.tmp 22))]),
 pr_ 24 (.app 6 (.tmp 19) (.tmp 23)),
 mv_ 5 24])))))
 (.seq (sq_ [mv_ 25 5,
 pr_ 26 (.lenv (.tmp 25)),
 pr_ 27 (bk_ .eql 26 .i64 1)]
 (.cond (.tmp 27)
 (sq_ [mv_ 28 5,
 pr_ 29 (.iadrs 6 (.tmp 28) (.const (.int .i64 0))),
 pr_ 30 (lt_ 6 29),
 st_ (so_ 6 4 30)]
 .ret)
 .skip))
 (.seq (.ghost (.shut 5) (.ops [mv_ 31 5,
 pr_ 32 (.build z6_ [(0,1,(.const (.int .i64 2))),(5,1,(.tmp 31))]),
 st_ (so_ 6 4 32)]))
 .ret)))))
def o181:List Tmp:=[4]
def r181:List RV:=[.cell 4 6 true]
theorem t181:Text Tryz.prog 181 o181 c181 r181 33:=.mk_ Tryz.f181 rfl
def c182:ACode :=
 (sq_ [pr_ 4 mf_]
 (.seq (sq_ [mv_ 5 0,
 mv_ 6 1,
 cl_ 7 192 [(.tmp 5),(.tmp 6)],
 pr_ 8 (no_ 7)]
 (.cond (.tmp 8)
 (sq_ [pr_ 4 mf_]
 .ret)
 .skip))
 (sq_ [mv_ 9 0,
 pr_ 10 (nc_ 9),
 pr_ 11 (fa_ 1 10),
 pr_ 12 (lf_ 1 11),
 pr_ 13 (bk_ .add 12 .i64 1),
 pr_ 14 (nc_ 9),
 pr_ 15 (fa_ 1 14),
 st_ (so_ 1 15 13)]
 (sq_ [pr_ 4 mt_]
 .ret))))
def o182:List Tmp:=[]
def r182:List RV:=[.tmp 4]
theorem t182:Text Tryz.prog 182 o182 c182 r182 16:=.mk_ Tryz.f182 rfl
def c189:ACode :=
 (sq_ [pr_ 2 (.allocm z6_)]
 (sq_ [pr_ 3 (.mov (.const (.slice none 0 0)))]
 (.seq (.block 0 (.loop [1,4,5,6,7,8,9,10,11,12,13,14,15,16,17,18,19,20,21,22,23,24,25,26,27,28,29,30,31,32,33,34,35,36,37,38,39,40,41,42] (.seq (.seq (.draw [⟨mv_ 4 0,[],false,0,0⟩,
 ⟨c1_ 5 190 4,[0],true,0,0⟩,
 ⟨mv_ 6 5,[0,1],false,1,1⟩,
 ⟨gp_ 7 6 true (mo_ 0),[0,1,2],false,1,1⟩,
 ⟨gp_ 8 6 true (nc_ 7),[0,1,2,3],false,1,1⟩,
 ⟨gp_ 9 6 true (fa_ 0 8),[0,1,2,3,4],false,1,1⟩,
 ⟨gp_ 10 6 true (lf_ 1 9),(List.range 6),false,1,1⟩,
 ⟨gp_ 11 6 true (mo_ 0),[0,1,2],false,1,1⟩,
 ⟨gp_ 12 6 true (nc_ 11),[0,1,2,7],false,1,1⟩,
 ⟨gp_ 13 6 true (fa_ 1 12),[0,1,2,7,8],false,1,1⟩,
 ⟨gp_ 14 6 true (lf_ 1 13),[0,1,2,7,8,9],false,1,1⟩,
 ⟨gp_ 15 6 true (.idxs (.tmp 10) (.tmp 14)),(List.range 11),false,1,1⟩,
 ⟨gp_ 16 6 true (bk_ .neq 15 .u8 124),(List.range 12),false,1,1⟩,
 ⟨pr_ 17 (pa_ 6 16),(List.range 13),false,1,1⟩,
 ⟨mv_ 18 17,(List.range 14),false,1,1⟩,
 ⟨gp_ 19 18 true (mo_ 0),(List.range 15),false,1,1⟩,
 ⟨gp_ 20 18 true (nc_ 19),(List.range 16),false,1,1⟩,
 ⟨gp_ 21 18 true (fa_ 0 20),(List.range 17),false,1,1⟩,
 ⟨gp_ 22 18 true (lf_ 1 21),(List.range 18),false,1,1⟩,
 ⟨gp_ 23 18 true (mo_ 0),(List.range 15),false,1,1⟩,
 ⟨gp_ 24 18 true (nc_ 23),[0,1,2,3,4,5,6,7,8,9,10,11,12,13,14,19],false,1,1⟩,
 ⟨gp_ 25 18 true (fa_ 1 24),[0,1,2,3,4,5,6,7,8,9,10,11,12,13,14,19,20],false,1,1⟩,
 ⟨gp_ 26 18 true (lf_ 1 25),[0,1,2,3,4,5,6,7,8,9,10,11,12,13,14,19,20,21],false,1,1⟩,
 ⟨gp_ 27 18 true (.idxs (.tmp 22) (.tmp 26)),(List.range 23),false,1,1⟩,
 ⟨gp_ 28 18 true (bk_ .neq 27 .u8 41),(List.range 24),false,1,1⟩,
 ⟨pr_ 29 (pa_ 18 28),(List.range 25),false,1,1⟩])
 (.cond (.tmp 29)
 .skip
 (.exit 0)))
 (.block 1 (.ops [mv_ 30 3,
 mv_ 31 0,
 c1_ 32 200 31,
 pr_ 33 (.bsl false 6 true 1 z6_ [(0,6,(.tmp 32))]),
 pr_ 34 (.app 6 (.tmp 30) (.tmp 33)),
 mv_ 3 34])))))
 (.seq (sq_ [mv_ 35 3,
 pr_ 36 (.lenv (.tmp 35)),
 pr_ 37 (bk_ .eql 36 .i64 1)]
 (.cond (.tmp 37)
 (sq_ [mv_ 38 3,
 pr_ 39 (.iadrs 6 (.tmp 38) (.const (.int .i64 0))),
 pr_ 40 (lt_ 6 39),
 st_ (so_ 6 2 40)]
 .ret)
 .skip))
 (.seq (.ghost (.shut 3) (.ops [mv_ 41 3,
 pr_ 42 (.build z6_ [(0,1,(.const (.int .i64 2))),(5,1,(.tmp 41))]),
 st_ (so_ 6 2 42)]))
 .ret)))))
def o189:List Tmp:=[2]
def r189:List RV:=[.cell 2 6 true]
theorem t189:Text Tryz.prog 189 o189 c189 r189 43:=.mk_ Tryz.f189 rfl
def c190:ACode :=
 (sq_ [pr_ 2 mf_]
 (.seq (.draw [⟨mv_ 3 0,[],false,0,0⟩,
 ⟨pr_ 4 (nc_ 3),[0],false,0,0⟩,
 ⟨pr_ 5 (fa_ 3 4),[0,1],false,0,0⟩,
 ⟨pr_ 6 (lf_ 1 5),[0,1,2],false,0,0⟩,
 ⟨pr_ 7 (no_ 6),[0,1,2,3],false,0,0⟩,
 ⟨mv_ 8 7,[0,1,2,3,4],false,0,0⟩,
 ⟨gp_ 9 8 true (mo_ 0),(List.range 6),false,0,0⟩,
 ⟨gp_ 10 8 true (nc_ 9),(List.range 7),false,0,0⟩,
 ⟨gp_ 11 8 true (fa_ 1 10),(List.range 8),false,0,0⟩,
 ⟨gp_ 12 8 true (lf_ 1 11),(List.range 9),false,0,0⟩,
 ⟨gp_ 13 8 true (mo_ 0),(List.range 6),false,0,0⟩,
 ⟨gp_ 14 8 true (nc_ 13),[0,1,2,3,4,5,10],false,0,0⟩,
 ⟨gp_ 15 8 true (fa_ 0 14),[0,1,2,3,4,5,10,11],false,0,0⟩,
 ⟨gp_ 16 8 true (lf_ 1 15),[0,1,2,3,4,5,10,11,12],false,0,0⟩,
 ⟨gp_ 17 8 true (.lens (.tmp 16)),[0,1,2,3,4,5,10,11,12,13],false,0,0⟩,
 ⟨gp_ 18 8 true (bt_ .lss 12 17),(List.range 15),false,0,0⟩,
 ⟨pr_ 19 (pa_ 8 18),(List.range 16),false,0,0⟩,
 ⟨mv_ 2 19,(List.range 17),false,0,0⟩])
 .ret))
def o190:List Tmp:=[]
def r190:List RV:=[.tmp 2]
theorem t190:Text Tryz.prog 190 o190 c190 r190 20:=.mk_ Tryz.f190 rfl
def c191:ACode :=
 (sq_ [pr_ 2 mf_]
 (.seq (.draw [⟨mv_ 3 0,[],false,0,0⟩,
 ⟨pr_ 4 (nc_ 3),[0],false,0,0⟩,
 ⟨pr_ 5 (fa_ 2 4),[0,1],false,0,0⟩,
 ⟨pr_ 6 (lf_ 1 5),[0,1,2],false,0,0⟩,
 ⟨mv_ 7 6,[0,1,2,3],false,0,0⟩,
 ⟨gp_ 8 7 false (mo_ 0),[0,1,2,3,4],false,0,0⟩,
 ⟨gp_ 9 7 false (nc_ 8),(List.range 6),false,0,0⟩,
 ⟨gp_ 10 7 false (fa_ 1 9),(List.range 7),false,0,0⟩,
 ⟨gp_ 11 7 false (lf_ 1 10),(List.range 8),false,0,0⟩,
 ⟨gp_ 12 7 false (mo_ 0),[0,1,2,3,4],false,0,0⟩,
 ⟨gp_ 13 7 false (nc_ 12),[0,1,2,3,4,9],false,0,0⟩,
 ⟨gp_ 14 7 false (fa_ 0 13),[0,1,2,3,4,9,10],false,0,0⟩,
 ⟨gp_ 15 7 false (lf_ 1 14),[0,1,2,3,4,9,10,11],false,0,0⟩,
 ⟨gp_ 16 7 false (.lens (.tmp 15)),[0,1,2,3,4,9,10,11,12],false,0,0⟩,
 ⟨gp_ 17 7 false (bt_ .geq 11 16),(List.range 14),false,0,0⟩,
 ⟨pr_ 18 (po_ 7 17),(List.range 15),false,0,0⟩,
 ⟨mv_ 2 18,(List.range 16),false,0,0⟩])
 .ret))
def o191:List Tmp:=[]
def r191:List RV:=[.tmp 2]
theorem t191:Text Tryz.prog 191 o191 c191 r191 19:=.mk_ Tryz.f191 rfl
def c192:ACode :=
 (sq_ [pr_ 4 mf_]
 (.seq (.draw [⟨mv_ 5 0,[],false,0,0⟩,
 ⟨c1_ 6 191 5,[0],true,0,0⟩,
 ⟨pr_ 7 (no_ 6),[0,1],false,1,1⟩,
 ⟨mv_ 8 7,[0,1,2],false,1,1⟩,
 ⟨gp_ 9 8 true (mo_ 0),[0,1,2,3],false,1,1⟩,
 ⟨gp_ 10 8 true (nc_ 9),[0,1,2,3,4],false,1,1⟩,
 ⟨gp_ 11 8 true (fa_ 0 10),(List.range 6),false,1,1⟩,
 ⟨gp_ 12 8 true (lf_ 1 11),(List.range 7),false,1,1⟩,
 ⟨gp_ 13 8 true (mo_ 0),[0,1,2,3],false,1,1⟩,
 ⟨gp_ 14 8 true (nc_ 13),[0,1,2,3,8],false,1,1⟩,
 ⟨gp_ 15 8 true (fa_ 1 14),[0,1,2,3,8,9],false,1,1⟩,
 ⟨gp_ 16 8 true (lf_ 1 15),[0,1,2,3,8,9,10],false,1,1⟩,
 ⟨gp_ 17 8 true (.idxs (.tmp 12) (.tmp 16)),(List.range 12),false,1,1⟩,
 ⟨gp_ 18 8 true (mo_ 1),[0,1,2,3],false,1,1⟩,
 ⟨gp_ 19 8 true (bt_ .eql 17 18),(List.range 14),false,1,1⟩,
 ⟨pr_ 20 (pa_ 8 19),(List.range 15),false,1,1⟩,
 ⟨mv_ 4 20,(List.range 16),false,1,1⟩])
 .ret))
def o192:List Tmp:=[]
def r192:List RV:=[.tmp 4]
theorem t192:Text Tryz.prog 192 o192 c192 r192 21:=.mk_ Tryz.f192 rfl
def c193:ACode :=
 (sq_ [pr_ 4 (.allocm z6_)]
 (sq_ [mv_ 6 0,
 mv_ 7 1,
 cl_ 8 201 [(.tmp 6),(.tmp 7)],
 ⟨some 5,none,.fresh 6 5 (.tmp 8)⟩]
 (.seq (.block 0 (sq_ [mv_ 10 0,
 cl_ 11 182 [(.tmp 10),(.const (.int .u8 42))],
 mv_ 9 11]
 (.cond (.tmp 9)
 (sq_ [pr_ 12 (lt_ 6 5),
 pr_ 13 (.bsl false 6 true 1 z6_ [(0,6,(.tmp 12))]),
 pr_ 14 (.build z6_ [(0,1,(.const (.int .i64 4))),(5,1,(.tmp 13))]),
 st_ (so_ 6 4 14)]
 .ret)
 (sq_ [mv_ 16 0,
 cl_ 17 182 [(.tmp 16),(.const (.int .u8 43))],
 mv_ 15 17]
 (.cond (.tmp 15)
 (sq_ [pr_ 18 (lt_ 6 5),
 pr_ 19 (.bsl false 6 true 1 z6_ [(0,6,(.tmp 18))]),
 pr_ 20 (.build z6_ [(0,1,(.const (.int .i64 5))),(5,1,(.tmp 19))]),
 st_ (so_ 6 4 20)]
 .ret)
 (sq_ [mv_ 22 0,
 cl_ 23 182 [(.tmp 22),(.const (.int .u8 63))],
 mv_ 21 23]
 (.cond (.tmp 21)
 (sq_ [pr_ 24 (lt_ 6 5),
 pr_ 25 (.bsl false 6 true 1 z6_ [(0,6,(.tmp 24))]),
 pr_ 26 (.build z6_ [(0,1,(.const (.int .i64 6))),(5,1,(.tmp 25))]),
 st_ (so_ 6 4 26)]
 .ret)
 .skip)))))))
 (sq_ [pr_ 27 (lt_ 6 5),
 st_ (so_ 6 4 27)]
 .ret))))
def o193:List Tmp:=[4]
def r193:List RV:=[.cell 4 6 true]
theorem t193:Text Tryz.prog 193 o193 c193 r193 28:=.mk_ Tryz.f193 rfl
def c200:ACode :=
 (sq_ [pr_ 2 (.allocm z6_)]
 (sq_ [mv_ 5 0,
 c1_ 6 207 5,
 ⟨some 3,none,.fresh 6 3 (.tmp 6)⟩]
 (.seq (sq_ [mv_ 7 0,
 c1_ 8 190 7,
 pr_ 9 (no_ 8)]
 (.cond (.tmp 9)
 (sq_ [pr_ 10 (lt_ 6 3),
 st_ (so_ 6 2 10)]
 .ret)
 .skip))
 (sq_ [pr_ 4 (mi_ .i64 0)]
 (.seq (.seq (.draw [⟨mv_ 11 0,[],false,0,0⟩,
 ⟨pr_ 12 (nc_ 11),[0],false,0,0⟩,
 ⟨pr_ 13 (fa_ 0 12),[0,1],false,0,0⟩,
 ⟨pr_ 14 (lf_ 1 13),[0,1,2],false,0,0⟩,
 ⟨mv_ 15 0,[],false,0,0⟩,
 ⟨pr_ 16 (nc_ 15),[4],false,0,0⟩,
 ⟨pr_ 17 (fa_ 1 16),[4,5],false,0,0⟩,
 ⟨pr_ 18 (lf_ 1 17),[4,5,6],false,0,0⟩,
 ⟨pr_ 19 (.idxs (.tmp 14) (.tmp 18)),(List.range 8),false,0,0⟩])
 (.block 0 (sq_ [pr_ 22 (bk_ .eql 19 .u8 42),
 mv_ 21 22]
 (.cond (.tmp 21)
 (.ops [pr_ 4 (mi_ .i64 4)])
 (sq_ [pr_ 24 (bk_ .eql 19 .u8 43),
 mv_ 23 24]
 (.cond (.tmp 23)
 (.ops [pr_ 4 (mi_ .i64 5)])
 (sq_ [pr_ 26 (bk_ .eql 19 .u8 63),
 mv_ 25 26]
 (.cond (.tmp 25)
 (.ops [pr_ 4 (mi_ .i64 6)])
 (sq_ [pr_ 20 (lt_ 6 3),
 st_ (so_ 6 2 20)]
 .ret)))))))))
 (sq_ [mv_ 27 0,
 pr_ 28 (nc_ 27),
 pr_ 29 (fa_ 1 28),
 pr_ 30 (lf_ 1 29),
 pr_ 31 (bk_ .add 30 .i64 1),
 pr_ 32 (nc_ 27),
 pr_ 33 (fa_ 1 32),
 st_ (so_ 1 33 31)]
 (sq_ [mv_ 34 4,
 pr_ 35 (lt_ 6 3),
 pr_ 36 (.bsl false 6 true 1 z6_ [(0,6,(.tmp 35))]),
 pr_ 37 (.build z6_ [(0,1,(.tmp 34)),(5,1,(.tmp 36))]),
 st_ (so_ 6 2 37)]
 .ret)))))))
def o200:List Tmp:=[2]
def r200:List RV:=[.cell 2 6 true]
theorem t200:Text Tryz.prog 200 o200 c200 r200 38:=.mk_ Tryz.f200 rfl
def c201:ACode :=
 (sq_ [pr_ 4 (.allocm z6_)]
 (sq_ [pr_ 7 (.build z6_ [(0,1,(.const (.int .i64 1)))]),
 pr_ 5 (.allocm z6_),
 st_ (so_ 6 5 7)]
 (.seq (sq_ [mv_ 8 0,
 c1_ 9 208 8,
 mv_ 6 9]
 (sq_ [mv_ 10 6]
 (.block 0 (sq_ [pr_ 27 (bk_ .eql 10 .u8 40),
 mv_ 26 27]
 (.cond (.tmp 26)
 (sq_ [mv_ 28 0,
 mv_ 29 0,
 pr_ 30 (nc_ 29),
 pr_ 31 (fa_ 2 30),
 pr_ 32 (lf_ 1 31),
 mv_ 33 32,
 gp_ 34 33 false (mo_ 1),
 gp_ 35 33 false (bk_ .eql 34 .i64 8),
 pr_ 36 (po_ 33 35),
 pr_ 37 (nc_ 28),
 pr_ 38 (fa_ 2 37),
 st_ (so_ 1 38 36)]
 (.seq (sq_ [mv_ 39 0,
 pr_ 40 (nc_ 39),
 pr_ 41 (fa_ 2 40),
 pr_ 42 (lf_ 1 41),
 pr_ 43 (no_ 42)]
 (.cond (.tmp 43)
 (.ops [mv_ 44 0,
 mv_ 45 1,
 pr_ 46 (bk_ .add 45 .i64 1),
 cl_ 47 171 [(.tmp 44),(.tmp 46)],
 st_ (so_ 6 5 47)])
 .skip))
 (.ops [mv_ 48 0,
 mv_ 49 0,
 cl_ 50 182 [(.tmp 49),(.const (.int .u8 41))],
 pr_ 51 (no_ 50),
 mv_ 52 51,
 gp_ 53 52 false (mo_ 0),
 gp_ 54 52 false (nc_ 53),
 gp_ 55 52 false (fa_ 2 54),
 gp_ 56 52 false (lf_ 1 55),
 pr_ 57 (po_ 52 56),
 pr_ 58 (nc_ 48),
 pr_ 59 (fa_ 2 58),
 st_ (so_ 1 59 57)])))
 (sq_ [pr_ 61 (bk_ .eql 10 .u8 91),
 mv_ 60 61]
 (.cond (.tmp 60)
 (.ops [mv_ 62 0,
 c1_ 63 209 62,
 pr_ 64 (fa_ 1 5),
 st_ (so_ 4 64 63)])
 (sq_ [pr_ 66 (bk_ .eql 10 .u8 46),
 mv_ 65 66]
 (.cond (.tmp 65)
 (.ops [pr_ 67 (fa_ 1 5),
 pr_ 68 (lt_ 4 67),
 c1_ 69 210 68,
 pr_ 70 (fa_ 1 5),
 st_ (so_ 4 70 69)])
 (sq_ [pr_ 72 (bk_ .eql 10 .u8 92),
 mv_ 71 72]
 (.cond (.tmp 71)
 (.ops [pr_ 73 (fa_ 1 5),
 mv_ 74 0,
 c1_ 75 212 74,
 cl_ 76 211 [(.tmp 73),(.tmp 75)]])
 (sq_ [mv_ 11 0,
 mv_ 12 0,
 pr_ 13 (nc_ 12),
 pr_ 14 (fa_ 2 13),
 pr_ 15 (lf_ 1 14),
 mv_ 16 15,
 gp_ 17 16 false (mo_ 6),
 gc_ 18 16 false 213 [(.const (.string (ByteArray.mk #[42,43,63,93]))),(.tmp 17)],
 gp_ 19 16 false (bk_ .geq 18 .i64 0),
 pr_ 20 (po_ 16 19),
 pr_ 21 (nc_ 11),
 pr_ 22 (fa_ 2 21),
 st_ (so_ 1 22 20)]
 (.ops [pr_ 23 (fa_ 1 5),
 mv_ 24 6,
 cl_ 25 211 [(.tmp 23),(.tmp 24)]])))))))))))))
 (sq_ [pr_ 77 (lt_ 6 5),
 st_ (so_ 6 4 77)]
 .ret))))
def o201:List Tmp:=[4,5]
def r201:List RV:=[.cell 4 6 true]
theorem t201:Text Tryz.prog 201 o201 c201 r201 78:=.mk_ Tryz.f201 rfl
def c207:ACode :=
 (sq_ [pr_ 2 (.allocm z6_)]
 (.seq (.draw [⟨mv_ 5 0,[],false,0,0⟩,
 ⟨pr_ 6 (nc_ 5),[0],false,0,0⟩,
 ⟨pr_ 7 (fa_ 0 6),[0,1],false,0,0⟩,
 ⟨pr_ 8 (lf_ 1 7),[0,1,2],false,0,0⟩,
 ⟨mv_ 9 0,[],false,0,0⟩,
 ⟨pr_ 10 (nc_ 9),[4],false,0,0⟩,
 ⟨pr_ 11 (fa_ 1 10),[4,5],false,0,0⟩,
 ⟨pr_ 12 (lf_ 1 11),[4,5,6],false,0,0⟩,
 ⟨pr_ 13 (.idxs (.tmp 8) (.tmp 12)),(List.range 8),false,0,0⟩,
 ⟨mv_ 3 13,(List.range 9),false,0,0⟩])
 (sq_ [mv_ 14 0,
 pr_ 15 (nc_ 14),
 pr_ 16 (fa_ 1 15),
 pr_ 17 (lf_ 1 16),
 pr_ 18 (bk_ .add 17 .i64 1),
 pr_ 19 (nc_ 14),
 pr_ 20 (fa_ 1 19),
 st_ (so_ 1 20 18)]
 (.seq (.block 0 (sq_ [mv_ 22 3,
 pr_ 23 (bk_ .eql 22 .u8 46),
 mv_ 21 23]
 (.cond (.tmp 21)
 (sq_ [pr_ 24 (.build [.pl (.int .u64 0),.pl (.int .u64 0),.pl (.int .u64 0),.pl (.int .u64 0)] [(0,1,(.const (.int .u64 18446744073709551615))),(1,1,(.const (.int .u64 18446744073709551615))),(2,1,(.const (.int .u64 18446744073709551615))),(3,1,(.const (.int .u64 18446744073709551615)))]),
 pr_ 25 (.build z6_ [(0,1,(.const (.int .i64 1))),(1,4,(.tmp 24))]),
 st_ (so_ 6 2 25)]
 .ret)
 (sq_ [mv_ 27 3,
 pr_ 28 (bk_ .eql 27 .u8 92),
 mv_ 26 28]
 (.cond (.tmp 26)
 (.seq (.seq (.draw [⟨mv_ 29 0,[],false,0,0⟩,
 ⟨c1_ 30 190 29,[0],true,0,0⟩,
 ⟨pr_ 31 (no_ 30),[0,1],false,1,1⟩,
 ⟨mv_ 32 31,[0,1,2],false,1,1⟩,
 ⟨gp_ 33 32 false (mo_ 0),[0,1,2,3],false,1,1⟩,
 ⟨gp_ 34 32 false (nc_ 33),[0,1,2,3,4],false,1,1⟩,
 ⟨gp_ 35 32 false (fa_ 0 34),(List.range 6),false,1,1⟩,
 ⟨gp_ 36 32 false (lf_ 1 35),(List.range 7),false,1,1⟩,
 ⟨gp_ 37 32 false (mo_ 0),[0,1,2,3],false,1,1⟩,
 ⟨gp_ 38 32 false (nc_ 37),[0,1,2,3,8],false,1,1⟩,
 ⟨gp_ 39 32 false (fa_ 1 38),[0,1,2,3,8,9],false,1,1⟩,
 ⟨gp_ 40 32 false (lf_ 1 39),[0,1,2,3,8,9,10],false,1,1⟩,
 ⟨gp_ 41 32 false (.idxs (.tmp 36) (.tmp 40)),(List.range 12),false,1,1⟩,
 ⟨gc_ 42 32 false 216 [(.tmp 41)],(List.range 13),true,0,0⟩,
 ⟨gp_ 43 32 false (no_ 42),(List.range 14),false,2,2⟩,
 ⟨pr_ 44 (po_ 32 43),(List.range 15),false,2,2⟩])
 (.cond (.tmp 44)
 (sq_ [mv_ 45 0,
 c1_ 46 217 45]
 (sq_ [pr_ 47 (.build z6_ []),
 st_ (so_ 6 2 47)]
 .ret))
 .skip))
 (sq_ [mv_ 48 0,
 pr_ 49 (nc_ 48),
 pr_ 50 (fa_ 1 49),
 pr_ 51 (lf_ 1 50),
 pr_ 52 (bk_ .add 51 .i64 1),
 pr_ 53 (nc_ 48),
 pr_ 54 (fa_ 1 53),
 st_ (so_ 1 54 52)]
 (.seq (.draw [⟨mv_ 55 0,[],false,0,0⟩,
 ⟨pr_ 56 (nc_ 55),[0],false,0,0⟩,
 ⟨pr_ 57 (fa_ 0 56),[0,1],false,0,0⟩,
 ⟨pr_ 58 (lf_ 1 57),[0,1,2],false,0,0⟩,
 ⟨mv_ 59 0,[],false,0,0⟩,
 ⟨pr_ 60 (nc_ 59),[4],false,0,0⟩,
 ⟨pr_ 61 (fa_ 1 60),[4,5],false,0,0⟩,
 ⟨pr_ 62 (lf_ 1 61),[4,5,6],false,0,0⟩,
 ⟨pr_ 63 (bk_ .sub 62 .i64 1),[4,5,6,7],false,0,0⟩,
 ⟨pr_ 64 (.idxs (.tmp 58) (.tmp 63)),(List.range 9),false,0,0⟩,
 ⟨c1_ 65 218 64,(List.range 10),true,0,0⟩,
 ⟨pr_ 66 (.build z6_ [(0,1,(.const (.int .i64 1))),(1,4,(.tmp 65))]),(List.range 11),false,1,1⟩,
 ⟨st_ (so_ 6 2 66),(List.range 12),true,0,0⟩])
 .ret)))
 (sq_ [mv_ 68 3,
 pr_ 69 (bk_ .eql 68 .u8 40),
 mv_ 67 69]
 (.cond (.tmp 67)
 (sq_ [mv_ 70 0,
 pr_ 71 (nc_ 70),
 pr_ 72 (fa_ 2 71),
 pr_ 73 (lf_ 1 72),
 pr_ 74 (bk_ .add 73 .i64 1),
 pr_ 75 (nc_ 70),
 pr_ 76 (fa_ 2 75),
 st_ (so_ 1 76 74)]
 (.seq (sq_ [mv_ 77 0,
 pr_ 78 (nc_ 77),
 pr_ 79 (fa_ 2 78),
 pr_ 80 (lf_ 1 79),
 pr_ 81 (bk_ .gtr 80 .i64 8)]
 (.cond (.tmp 81)
 (sq_ [mv_ 82 0,
 c1_ 83 217 82]
 (sq_ [pr_ 84 (.build z6_ []),
 st_ (so_ 6 2 84)]
 .ret))
 .skip))
 (sq_ [mv_ 85 0,
 c1_ 86 180 85,
 ⟨some 4,none,.fresh 6 4 (.tmp 86)⟩]
 (.seq (.seq (.draw [⟨mv_ 87 0,[],false,0,0⟩,
 ⟨c1_ 88 190 87,[0],true,0,0⟩,
 ⟨pr_ 89 (no_ 88),[0,1],false,1,1⟩,
 ⟨mv_ 90 89,[0,1,2],false,1,1⟩,
 ⟨gp_ 91 90 false (mo_ 0),[0,1,2,3],false,1,1⟩,
 ⟨gp_ 92 90 false (nc_ 91),[0,1,2,3,4],false,1,1⟩,
 ⟨gp_ 93 90 false (fa_ 0 92),(List.range 6),false,1,1⟩,
 ⟨gp_ 94 90 false (lf_ 1 93),(List.range 7),false,1,1⟩,
 ⟨gp_ 95 90 false (mo_ 0),[0,1,2,3],false,1,1⟩,
 ⟨gp_ 96 90 false (nc_ 95),[0,1,2,3,8],false,1,1⟩,
 ⟨gp_ 97 90 false (fa_ 1 96),[0,1,2,3,8,9],false,1,1⟩,
 ⟨gp_ 98 90 false (lf_ 1 97),[0,1,2,3,8,9,10],false,1,1⟩,
 ⟨gp_ 99 90 false (.idxs (.tmp 94) (.tmp 98)),(List.range 12),false,1,1⟩,
 ⟨gp_ 100 90 false (bk_ .neq 99 .u8 41),(List.range 13),false,1,1⟩,
 ⟨pr_ 101 (po_ 90 100),(List.range 14),false,1,1⟩])
 (.cond (.tmp 101)
 (sq_ [mv_ 102 0,
 c1_ 103 217 102]
 (sq_ [pr_ 104 (.build z6_ []),
 st_ (so_ 6 2 104)]
 .ret))
 .skip))
 (sq_ [mv_ 105 0,
 pr_ 106 (nc_ 105),
 pr_ 107 (fa_ 1 106),
 pr_ 108 (lf_ 1 107),
 pr_ 109 (bk_ .add 108 .i64 1),
 pr_ 110 (nc_ 105),
 pr_ 111 (fa_ 1 110),
 st_ (so_ 1 111 109)]
 (sq_ [mv_ 112 0,
 pr_ 113 (nc_ 112),
 pr_ 114 (fa_ 2 113),
 pr_ 115 (lf_ 1 114),
 pr_ 116 (bk_ .sub 115 .i64 1),
 pr_ 117 (nc_ 112),
 pr_ 118 (fa_ 2 117),
 st_ (so_ 1 118 116)]
 (sq_ [pr_ 119 (lt_ 6 4),
 st_ (so_ 6 2 119)]
 .ret)))))))
 (sq_ [mv_ 121 3,
 pr_ 122 (bk_ .eql 121 .u8 91),
 mv_ 120 122]
 (.cond (.tmp 120)
 (sq_ [mv_ 123 0,
 c1_ 124 219 123,
 st_ (so_ 6 2 124)]
 .ret)
 (sq_ [mv_ 126 3,
 c1_ 127 220 126,
 mv_ 125 127]
 (.cond (.tmp 125)
 (sq_ [mv_ 128 0,
 c1_ 129 217 128]
 (sq_ [pr_ 130 (.build z6_ []),
 st_ (so_ 6 2 130)]
 .ret))
 .skip)))))))))))
 (sq_ [mv_ 131 3,
 c1_ 132 218 131,
 pr_ 133 (.build z6_ [(0,1,(.const (.int .i64 1))),(1,4,(.tmp 132))]),
 st_ (so_ 6 2 133)]
 .ret)))))
def o207:List Tmp:=[2]
def r207:List RV:=[.cell 2 6 true]
theorem t207:Text Tryz.prog 207 o207 c207 r207 134:=.mk_ Tryz.f207 rfl
def c208:ACode :=
 (sq_ [pr_ 2 (mi_ .u8 0)]
 (.seq (sq_ [mv_ 3 0,
 c1_ 4 191 3]
 (.cond (.tmp 4)
 (sq_ [mv_ 5 0,
 pr_ 6 (nc_ 5),
 pr_ 7 (fa_ 2 6),
 st_ (.store 1 (.tmp 7) (.const (.bool true)))]
 (sq_ [pr_ 2 (mi_ .u8 0)]
 .ret))
 .skip))
 (sq_ [mv_ 8 0,
 pr_ 9 (nc_ 8),
 pr_ 10 (fa_ 1 9),
 pr_ 11 (lf_ 1 10),
 pr_ 12 (bk_ .add 11 .i64 1),
 pr_ 13 (nc_ 8),
 pr_ 14 (fa_ 1 13),
 st_ (so_ 1 14 12)]
 (.seq (.draw [⟨mv_ 15 0,[],false,0,0⟩,
 ⟨pr_ 16 (nc_ 15),[0],false,0,0⟩,
 ⟨pr_ 17 (fa_ 0 16),[0,1],false,0,0⟩,
 ⟨pr_ 18 (lf_ 1 17),[0,1,2],false,0,0⟩,
 ⟨mv_ 19 0,[],false,0,0⟩,
 ⟨pr_ 20 (nc_ 19),[4],false,0,0⟩,
 ⟨pr_ 21 (fa_ 1 20),[4,5],false,0,0⟩,
 ⟨pr_ 22 (lf_ 1 21),[4,5,6],false,0,0⟩,
 ⟨pr_ 23 (bk_ .sub 22 .i64 1),[4,5,6,7],false,0,0⟩,
 ⟨pr_ 24 (.idxs (.tmp 18) (.tmp 23)),(List.range 9),false,0,0⟩,
 ⟨mv_ 2 24,(List.range 10),false,0,0⟩])
 .ret))))
def o208:List Tmp:=[]
def r208:List RV:=[.tmp 2]
theorem t208:Text Tryz.prog 208 o208 c208 r208 25:=.mk_ Tryz.f208 rfl
def c209:ACode :=
 (sq_ [pr_ 2 (.allocm [.pl (.int .u64 0),.pl (.int .u64 0),.pl (.int .u64 0),.pl (.int .u64 0)])]
 (sq_ [pr_ 3 (.allocm [.pl (.int .u64 0),.pl (.int .u64 0),.pl (.int .u64 0),.pl (.int .u64 0)])]
 (sq_ [mv_ 9 0,
 cl_ 10 182 [(.tmp 9),(.const (.int .u8 94))],
 mv_ 4 10]
 (.seq (sq_ [pr_ 5 mt_]
 (.block 0 (.loop [1,6,7,8,9,10,11,12,13,14,15,16,17,18,19,20,21,22,23,24,25,26,27,28,29,30,31,32,33,34,35,36,37,38,39,40,41,42,43,44,45,46,47,48,49,50,51,52,53,54,55,56,57,58,59,60,61,62,63,64,65,66,67] (.seq (sq_ [mv_ 11 5,
 mv_ 12 11,
 gp_ 13 12 false (mo_ 0),
 gc_ 14 12 false 191 [(.tmp 13)],
 gp_ 15 12 false (no_ 14),
 gp_ 16 12 false (mo_ 15),
 gp_ 17 16 true (mo_ 0),
 gc_ 18 16 true 192 [(.tmp 17),(.const (.int .u8 93))],
 gp_ 19 16 true (no_ 18),
 gp_ 20 12 false (pa_ 16 19),
 pr_ 21 (po_ 12 20)]
 (.cond (.tmp 21)
 .skip
 (.exit 0)))
 (.seq (.block 1 (sq_ [mv_ 22 0,
 c1_ 23 221 22,
 mv_ 6 23]
 (sq_ [mv_ 24 6,
 mv_ 7 24]
 (.seq (sq_ [mv_ 25 0,
 cl_ 26 182 [(.tmp 25),(.const (.int .u8 45))]]
 (.cond (.tmp 26)
 (.ops [mv_ 27 0,
 c1_ 28 221 27,
 mv_ 7 28])
 .skip))
 (sq_ [mv_ 29 0,
 mv_ 30 0,
 pr_ 31 (nc_ 30),
 pr_ 32 (fa_ 2 31),
 pr_ 33 (lf_ 1 32),
 mv_ 34 33,
 gp_ 35 34 false (mo_ 7),
 gp_ 36 34 false (mo_ 6),
 gp_ 37 34 false (bt_ .lss 35 36),
 pr_ 38 (po_ 34 37),
 pr_ 39 (nc_ 29),
 pr_ 40 (fa_ 2 39),
 st_ (so_ 1 40 38)]
 (sq_ [mv_ 41 6,
 pr_ 42 (.convi .i64 (.tmp 41)),
 mv_ 8 42]
 (.block 2 (.loop [1,5,6,9,10,11,12,13,14,15,16,17,18,19,20,21,22,23,24,25,26,27,28,29,30,31,32,33,34,35,36,37,38,39,40,41,42,43,44,45,46,47,48,49,50,51,52,53,54,55,56,57,58,59,60,61,62,63,64,65,66,67] (.seq (sq_ [mv_ 43 8,
 mv_ 44 7,
 pr_ 45 (.convi .i64 (.tmp 44)),
 pr_ 46 (bt_ .leq 43 45)]
 (.cond (.tmp 46)
 .skip
 (.exit 2)))
 (.seq (.block 3 (.ops [mv_ 49 8,
 pr_ 50 (.convi .u8 (.tmp 49)),
 cl_ 51 211 [(.tmp 3),(.tmp 50)]]))
 (.ops [mv_ 47 8,
 pr_ 48 (bk_ .add 47 .i64 1),
 mv_ 8 48])))))))))))
 (.ops [pr_ 5 mf_]))))))
 (sq_ [mv_ 52 0,
 mv_ 53 0,
 cl_ 54 182 [(.tmp 53),(.const (.int .u8 93))],
 pr_ 55 (no_ 54),
 mv_ 56 55,
 gp_ 57 56 false (mo_ 0),
 gp_ 58 56 false (nc_ 57),
 gp_ 59 56 false (fa_ 2 58),
 gp_ 60 56 false (lf_ 1 59),
 pr_ 61 (po_ 56 60),
 pr_ 62 (nc_ 52),
 pr_ 63 (fa_ 2 62),
 st_ (so_ 1 63 61)]
 (.seq (sq_ [mv_ 64 4]
 (.cond (.tmp 64)
 (sq_ [pr_ 65 (lt_ 4 3),
 c1_ 66 210 65,
 st_ (so_ 4 2 66)]
 .ret)
 .skip))
 (sq_ [pr_ 67 (lt_ 4 3),
 st_ (so_ 4 2 67)]
 .ret)))))))
def o209:List Tmp:=[2,3]
def r209:List RV:=[.cell 2 4 true]
theorem t209:Text Tryz.prog 209 o209 c209 r209 68:=.mk_ Tryz.f209 rfl
def c210:ACode :=
 (sq_ [pr_ 1 (.boxm (.tmp 0)),
 pr_ 2 (.allocm [.pl (.int .u64 0),.pl (.int .u64 0),.pl (.int .u64 0),.pl (.int .u64 0)])]
 (.seq (sq_ [pr_ 4 (mi_ .i64 0)]
 (.block 0 (.loop [0,3,5,6,7,8,9,10,11,12,13,14] (sq_ [pr_ 5 (bk_ .lss 4 .i64 4)]
 (.seq (.cond (.tmp 5)
 .skip
 (.exit 0))
 (.seq (.block 1 (sq_ [mv_ 6 4,
 mv_ 3 6]
 (.ops [mv_ 7 3,
 mv_ 8 3,
 pr_ 9 (.iadra 1 4 (.tmp 1) (.tmp 8)),
 pr_ 10 (lf_ 1 9),
 pr_ 11 (.un .xor (.tmp 10)),
 pr_ 12 (.iadra 1 4 (.tmp 1) (.tmp 7)),
 st_ (so_ 1 12 11)])))
 (.ops [pr_ 13 (bk_ .add 4 .i64 1),
 mv_ 4 13])))))))
 (sq_ [pr_ 14 (lt_ 4 1),
 st_ (so_ 4 2 14)]
 .ret)))
def o210:List Tmp:=[1,2]
def r210:List RV:=[.cell 2 4 true]
theorem t210:Text Tryz.prog 210 o210 c210 r210 15:=.mk_ Tryz.f210 rfl
def c211:ACode :=
 (.draw [⟨mv_ 4 0,[],false,0,0⟩,
 ⟨mv_ 5 1,[],false,0,0⟩,
 ⟨pr_ 6 (bk_ .quo 5 .u8 64),[1],false,0,0⟩,
 ⟨pr_ 7 (nc_ 4),[0],false,0,0⟩,
 ⟨pr_ 8 (.iadra 1 4 (.tmp 7) (.tmp 6)),[0,1,2,3],false,0,0⟩,
 ⟨pr_ 9 (lf_ 1 8),[0,1,2,3,4],false,0,0⟩,
 ⟨mv_ 10 1,[],false,0,0⟩,
 ⟨pr_ 11 (bk_ .rem 10 .u8 64),[6],false,0,0⟩,
 ⟨pr_ 12 (.bin false .shl (.const (.int .u64 1)) (.tmp 11)),[6,7],false,0,0⟩,
 ⟨pr_ 13 (bt_ .or 9 12),(List.range 9),false,0,0⟩,
 ⟨pr_ 14 (nc_ 4),[0],false,0,0⟩,
 ⟨pr_ 15 (.iadra 1 4 (.tmp 14) (.tmp 6)),(List.range 11),false,0,0⟩,
 ⟨st_ (so_ 1 15 13),(List.range 12),true,0,0⟩])
def o211:List Tmp:=[]
def r211:List RV:=[]
theorem t211:Text Tryz.prog 211 o211 c211 r211 16:=.mk_ Tryz.f211 rfl
def c212:ACode :=
 (sq_ [pr_ 2 (mi_ .u8 0)]
 (sq_ [mv_ 4 0,
 c1_ 5 208 4,
 mv_ 3 5]
 (sq_ [mv_ 6 0,
 mv_ 7 0,
 pr_ 8 (nc_ 7),
 pr_ 9 (fa_ 2 8),
 pr_ 10 (lf_ 1 9),
 mv_ 11 10,
 gp_ 12 11 false (mo_ 3),
 gc_ 13 11 false 213 [(.const (.string (ByteArray.mk #[124,42,43,63,40,41,91,93,46,92,94,45]))),(.tmp 12)],
 gp_ 14 11 false (bk_ .lss 13 .i64 0),
 pr_ 15 (po_ 11 14),
 pr_ 16 (nc_ 6),
 pr_ 17 (fa_ 2 16),
 st_ (so_ 1 17 15)]
 (sq_ [mv_ 18 3,
 mv_ 2 18]
 .ret))))
def o212:List Tmp:=[]
def r212:List RV:=[.tmp 2]
theorem t212:Text Tryz.prog 212 o212 c212 r212 19:=.mk_ Tryz.f212 rfl
def c213:ACode :=
 (sq_ [pr_ 4 (mi_ .i64 0)]
 (sq_ [mv_ 5 0,
 mv_ 6 1,
 cl_ 7 222 [(.tmp 5),(.tmp 6)],
 mv_ 4 7]
 .ret))
def o213:List Tmp:=[]
def r213:List RV:=[.tmp 4]
theorem t213:Text Tryz.prog 213 o213 c213 r213 8:=.mk_ Tryz.f213 rfl
def c216:ACode :=
 (sq_ [pr_ 2 mf_]
 (sq_ [mv_ 3 0,
 c1_ 4 220 3,
 mv_ 5 4,
 gp_ 6 5 false (mo_ 0),
 gp_ 7 5 false (bk_ .eql 6 .u8 94),
 pr_ 8 (po_ 5 7),
 mv_ 9 8,
 gp_ 10 9 false (mo_ 0),
 gp_ 11 9 false (bk_ .eql 10 .u8 45),
 pr_ 12 (po_ 9 11),
 mv_ 2 12]
 .ret))
def o216:List Tmp:=[]
def r216:List RV:=[.tmp 2]
theorem t216:Text Tryz.prog 216 o216 c216 r216 13:=.mk_ Tryz.f216 rfl
def c217:ACode :=
 (.ops [mv_ 2 0,
 pr_ 3 (nc_ 2),
 pr_ 4 (fa_ 3 3),
 st_ (.store 1 (.tmp 4) (.const (.bool true)))])
def o217:List Tmp:=[]
def r217:List RV:=[]
theorem t217:Text Tryz.prog 217 o217 c217 r217 5:=.mk_ Tryz.f217 rfl
def c218:ACode :=
 (sq_ [pr_ 2 (.allocm [.pl (.int .u64 0),.pl (.int .u64 0),.pl (.int .u64 0),.pl (.int .u64 0)])]
 (sq_ [pr_ 3 (.allocm [.pl (.int .u64 0),.pl (.int .u64 0),.pl (.int .u64 0),.pl (.int .u64 0)])]
 (sq_ [mv_ 4 0,
 pr_ 5 (bk_ .quo 4 .u8 64),
 mv_ 6 0,
 pr_ 7 (bk_ .rem 6 .u8 64),
 pr_ 8 (.convi .u64 (.tmp 7)),
 pr_ 9 (.bin false .shl (.const (.int .u64 1)) (.tmp 8)),
 pr_ 10 (.iadra 1 4 (.tmp 3) (.tmp 5)),
 st_ (so_ 1 10 9)]
 (sq_ [pr_ 11 (lt_ 4 3),
 st_ (so_ 4 2 11)]
 .ret))))
def o218:List Tmp:=[2,3]
def r218:List RV:=[.cell 2 4 true]
theorem t218:Text Tryz.prog 218 o218 c218 r218 12:=.mk_ Tryz.f218 rfl
def c219:ACode :=
 (sq_ [pr_ 2 (.allocm z6_)]
 (.seq (.draw [⟨mv_ 10 0,[],false,0,0⟩,
 ⟨c1_ 11 190 10,[0],true,0,0⟩,
 ⟨mv_ 12 11,[0,1],false,1,1⟩,
 ⟨gp_ 13 12 true (mo_ 0),[0,1,2],false,1,1⟩,
 ⟨gp_ 14 12 true (nc_ 13),[0,1,2,3],false,1,1⟩,
 ⟨gp_ 15 12 true (fa_ 0 14),[0,1,2,3,4],false,1,1⟩,
 ⟨gp_ 16 12 true (lf_ 1 15),(List.range 6),false,1,1⟩,
 ⟨gp_ 17 12 true (mo_ 0),[0,1,2],false,1,1⟩,
 ⟨gp_ 18 12 true (nc_ 17),[0,1,2,7],false,1,1⟩,
 ⟨gp_ 19 12 true (fa_ 1 18),[0,1,2,7,8],false,1,1⟩,
 ⟨gp_ 20 12 true (lf_ 1 19),[0,1,2,7,8,9],false,1,1⟩,
 ⟨gp_ 21 12 true (.idxs (.tmp 16) (.tmp 20)),(List.range 11),false,1,1⟩,
 ⟨gp_ 22 12 true (bk_ .eql 21 .u8 94),(List.range 12),false,1,1⟩,
 ⟨pr_ 23 (pa_ 12 22),(List.range 13),false,1,1⟩,
 ⟨mv_ 3 23,(List.range 14),false,1,1⟩])
 (.seq (sq_ [mv_ 24 3]
 (.cond (.tmp 24)
 (.ops [mv_ 25 0,
 pr_ 26 (nc_ 25),
 pr_ 27 (fa_ 1 26),
 pr_ 28 (lf_ 1 27),
 pr_ 29 (bk_ .add 28 .i64 1),
 pr_ 30 (nc_ 25),
 pr_ 31 (fa_ 1 30),
 st_ (so_ 1 31 29)])
 .skip))
 (sq_ [pr_ 4 (.allocm [.pl (.int .u64 0),.pl (.int .u64 0),.pl (.int .u64 0),.pl (.int .u64 0)])]
 (sq_ [pr_ 5 (mi_ .i64 0)]
 (.seq (.block 0 (.loop [1,6,7,8,9,10,11,12,13,14,15,16,17,18,19,20,21,22,23,24,25,26,27,28,29,30,31,32,33,34,35,36,37,38,39,40,41,42,43,44,45,46,47,48,49,50,51,52,53,54,55,56,57,58,59,60,61,62,63,64,65,66,67,68,69,70,71,72,73,74,75,76,77,78,79,80,81,82,83,84,85,86,87,88,89,90,91,92,93,94,95,96,97,98,99,100,101,102,103,104,105,106,107,108,109,110,111,112,113,114,115,116,117,118,119,120,121,122,123,124,125,126,127,128] (.seq (.seq (.draw [⟨mv_ 32 0,[],false,0,0⟩,
 ⟨c1_ 33 190 32,[0],true,0,0⟩,
 ⟨mv_ 34 33,[0,1],false,1,1⟩,
 ⟨gp_ 35 34 true (mo_ 0),[0,1,2],false,1,1⟩,
 ⟨gp_ 36 34 true (nc_ 35),[0,1,2,3],false,1,1⟩,
 ⟨gp_ 37 34 true (fa_ 0 36),[0,1,2,3,4],false,1,1⟩,
 ⟨gp_ 38 34 true (lf_ 1 37),(List.range 6),false,1,1⟩,
 ⟨gp_ 39 34 true (mo_ 0),[0,1,2],false,1,1⟩,
 ⟨gp_ 40 34 true (nc_ 39),[0,1,2,7],false,1,1⟩,
 ⟨gp_ 41 34 true (fa_ 1 40),[0,1,2,7,8],false,1,1⟩,
 ⟨gp_ 42 34 true (lf_ 1 41),[0,1,2,7,8,9],false,1,1⟩,
 ⟨gp_ 43 34 true (.idxs (.tmp 38) (.tmp 42)),(List.range 11),false,1,1⟩,
 ⟨gp_ 44 34 true (bk_ .neq 43 .u8 93),(List.range 12),false,1,1⟩,
 ⟨pr_ 45 (pa_ 34 44),(List.range 13),false,1,1⟩])
 (.cond (.tmp 45)
 .skip
 (.exit 0)))
 (.block 1 (sq_ [mv_ 46 0,
 c1_ 47 224 46,
 mv_ 6 47]
 (sq_ [mv_ 48 6,
 mv_ 7 48]
 (.seq (.seq (.draw [⟨mv_ 49 0,[],false,0,0⟩,
 ⟨c1_ 50 190 49,[0],true,0,0⟩,
 ⟨mv_ 51 50,[0,1],false,1,1⟩,
 ⟨gp_ 52 51 true (mo_ 0),[0,1,2],false,1,1⟩,
 ⟨gp_ 53 51 true (nc_ 52),[0,1,2,3],false,1,1⟩,
 ⟨gp_ 54 51 true (fa_ 0 53),[0,1,2,3,4],false,1,1⟩,
 ⟨gp_ 55 51 true (lf_ 1 54),(List.range 6),false,1,1⟩,
 ⟨gp_ 56 51 true (mo_ 0),[0,1,2],false,1,1⟩,
 ⟨gp_ 57 51 true (nc_ 56),[0,1,2,7],false,1,1⟩,
 ⟨gp_ 58 51 true (fa_ 1 57),[0,1,2,7,8],false,1,1⟩,
 ⟨gp_ 59 51 true (lf_ 1 58),[0,1,2,7,8,9],false,1,1⟩,
 ⟨gp_ 60 51 true (.idxs (.tmp 55) (.tmp 59)),(List.range 11),false,1,1⟩,
 ⟨gp_ 61 51 true (bk_ .eql 60 .u8 45),(List.range 12),false,1,1⟩,
 ⟨pr_ 62 (pa_ 51 61),(List.range 13),false,1,1⟩])
 (.cond (.tmp 62)
 (sq_ [mv_ 63 0,
 pr_ 64 (nc_ 63),
 pr_ 65 (fa_ 1 64),
 pr_ 66 (lf_ 1 65),
 pr_ 67 (bk_ .add 66 .i64 1),
 pr_ 68 (nc_ 63),
 pr_ 69 (fa_ 1 68),
 st_ (so_ 1 69 67)]
 (.ops [mv_ 70 0,
 c1_ 71 224 70,
 mv_ 7 71]))
 .skip))
 (.seq (sq_ [mv_ 72 7,
 mv_ 73 6,
 pr_ 74 (bt_ .lss 72 73)]
 (.cond (.tmp 74)
 (.ops [mv_ 75 0,
 c1_ 76 217 75])
 .skip))
 (.seq (sq_ [mv_ 77 6,
 pr_ 78 (.convi .i64 (.tmp 77)),
 mv_ 8 78]
 (.block 2 (.loop [1,6,9,10,11,12,13,14,15,16,17,18,19,20,21,22,23,24,25,26,27,28,29,30,31,32,33,34,35,36,37,38,39,40,41,42,43,44,45,46,47,48,49,50,51,52,53,54,55,56,57,58,59,60,61,62,63,64,65,66,67,68,69,70,71,72,73,74,75,76,77,78,79,80,81,82,83,84,85,86,87,88,89,90,91,92,93,94,95,96,97,98,99,100,101,102,103,104,105,106,107,108,109,110,111,112,113,114,115,116,117,118,119,120,121,122,123,124,125,126,127,128] (.seq (sq_ [mv_ 79 8,
 mv_ 80 7,
 pr_ 81 (.convi .i64 (.tmp 80)),
 pr_ 82 (bt_ .leq 79 81)]
 (.cond (.tmp 82)
 .skip
 (.exit 2)))
 (.seq (.block 3 (.ops [mv_ 85 8,
 pr_ 86 (bk_ .quo 85 .i64 64),
 mv_ 87 8,
 pr_ 88 (bk_ .quo 87 .i64 64),
 pr_ 89 (.iadra 1 4 (.tmp 4) (.tmp 88)),
 pr_ 90 (lf_ 1 89),
 mv_ 91 8,
 pr_ 92 (bk_ .rem 91 .i64 64),
 pr_ 93 (.convi .u64 (.tmp 92)),
 pr_ 94 (.bin false .shl (.const (.int .u64 1)) (.tmp 93)),
 pr_ 95 (bt_ .or 90 94),
 pr_ 96 (.iadra 1 4 (.tmp 4) (.tmp 86)),
 st_ (so_ 1 96 95)]))
 (.ops [mv_ 83 8,
 pr_ 84 (bk_ .add 83 .i64 1),
 mv_ 8 84]))))))
 (.ops [mv_ 97 5,
 pr_ 98 (bk_ .add 97 .i64 1),
 mv_ 5 98]))))))))))
 (.seq (sq_ [mv_ 99 0,
 c1_ 100 190 99,
 pr_ 101 (no_ 100),
 mv_ 102 101,
 gp_ 103 102 false (mo_ 5),
 gp_ 104 102 false (bk_ .eql 103 .i64 0),
 pr_ 105 (po_ 102 104)]
 (.cond (.tmp 105)
 (sq_ [mv_ 106 0,
 c1_ 107 217 106]
 (sq_ [pr_ 108 (.build z6_ []),
 st_ (so_ 6 2 108)]
 .ret))
 .skip))
 (sq_ [mv_ 109 0,
 pr_ 110 (nc_ 109),
 pr_ 111 (fa_ 1 110),
 pr_ 112 (lf_ 1 111),
 pr_ 113 (bk_ .add 112 .i64 1),
 pr_ 114 (nc_ 109),
 pr_ 115 (fa_ 1 114),
 st_ (so_ 1 115 113)]
 (.seq (sq_ [mv_ 116 3]
 (.cond (.tmp 116)
 (sq_ [pr_ 9 (mi_ .i64 0)]
 (.block 4 (.loop [0,1,3,5,6,7,8,10,11,12,13,14,15,16,17,18,19,20,21,22,23,24,25,26,27,28,29,30,31,32,33,34,35,36,37,38,39,40,41,42,43,44,45,46,47,48,49,50,51,52,53,54,55,56,57,58,59,60,61,62,63,64,65,66,67,68,69,70,71,72,73,74,75,76,77,78,79,80,81,82,83,84,85,86,87,88,89,90,91,92,93,94,95,96,97,98,99,100,101,102,103,104,105,106,107,108,109,110,111,112,113,114,115,116,117,118,119,120,121,122,123,124,125,126,127,128] (.seq (sq_ [mv_ 117 9,
 pr_ 118 (bk_ .lss 117 .i64 4)]
 (.cond (.tmp 118)
 .skip
 (.exit 4)))
 (.seq (.block 5 (.ops [mv_ 121 9,
 mv_ 122 9,
 pr_ 123 (.iadra 1 4 (.tmp 4) (.tmp 122)),
 pr_ 124 (lf_ 1 123),
 pr_ 125 (.un .xor (.tmp 124)),
 pr_ 126 (.iadra 1 4 (.tmp 4) (.tmp 121)),
 st_ (so_ 1 126 125)]))
 (.ops [mv_ 119 9,
 pr_ 120 (bk_ .add 119 .i64 1),
 mv_ 9 120]))))))
 .skip))
 (sq_ [pr_ 127 (lt_ 4 4),
 pr_ 128 (.build z6_ [(0,1,(.const (.int .i64 1))),(1,4,(.tmp 127))]),
 st_ (so_ 6 2 128)]
 .ret))))))))))
def o219:List Tmp:=[2,4]
def r219:List RV:=[.cell 2 6 true]
theorem t219:Text Tryz.prog 219 o219 c219 r219 129:=.mk_ Tryz.f219 rfl
def c220:ACode :=
 (sq_ [pr_ 2 mf_]
 (.seq (sq_ [mv_ 3 0]
 (.block 0 (.seq (sq_ [pr_ 5 (bk_ .eql 3 .u8 124),
 mv_ 4 5]
 (.cond (.tmp 4)
 .skip
 (sq_ [pr_ 6 (bk_ .eql 3 .u8 42),
 mv_ 4 6]
 (.cond (.tmp 4)
 .skip
 (sq_ [pr_ 7 (bk_ .eql 3 .u8 43),
 mv_ 4 7]
 (.cond (.tmp 4)
 .skip
 (sq_ [pr_ 8 (bk_ .eql 3 .u8 63),
 mv_ 4 8]
 (.cond (.tmp 4)
 .skip
 (sq_ [pr_ 9 (bk_ .eql 3 .u8 40),
 mv_ 4 9]
 (.cond (.tmp 4)
 .skip
 (sq_ [pr_ 10 (bk_ .eql 3 .u8 41),
 mv_ 4 10]
 (.cond (.tmp 4)
 .skip
 (sq_ [pr_ 11 (bk_ .eql 3 .u8 91),
 mv_ 4 11]
 (.cond (.tmp 4)
 .skip
 (sq_ [pr_ 12 (bk_ .eql 3 .u8 93),
 mv_ 4 12]
 (.cond (.tmp 4)
 .skip
 (sq_ [pr_ 13 (bk_ .eql 3 .u8 46),
 mv_ 4 13]
 (.cond (.tmp 4)
 .skip
 (.ops [pr_ 14 (bk_ .eql 3 .u8 92),
 mv_ 4 14])))))))))))))))))))
 (.cond (.tmp 4)
 (sq_ [pr_ 2 mt_]
 .ret)
 .skip))))
 (sq_ [pr_ 2 mf_]
 .ret)))
def o220:List Tmp:=[]
def r220:List RV:=[.tmp 2]
theorem t220:Text Tryz.prog 220 o220 c220 r220 15:=.mk_ Tryz.f220 rfl
def c221:ACode :=
 (sq_ [pr_ 2 (mi_ .u8 0)]
 (sq_ [mv_ 4 0,
 c1_ 5 208 4,
 mv_ 3 5]
 (.seq (sq_ [mv_ 6 3,
 pr_ 7 (bk_ .eql 6 .u8 92)]
 (.cond (.tmp 7)
 (sq_ [mv_ 8 0,
 c1_ 9 212 8,
 mv_ 2 9]
 .ret)
 .skip))
 (sq_ [mv_ 10 0,
 mv_ 11 0,
 pr_ 12 (nc_ 11),
 pr_ 13 (fa_ 2 12),
 pr_ 14 (lf_ 1 13),
 mv_ 15 14,
 gp_ 16 15 false (mo_ 3),
 gc_ 17 15 false 213 [(.const (.string (ByteArray.mk #[92,93,91,94,45]))),(.tmp 16)],
 gp_ 18 15 false (bk_ .geq 17 .i64 0),
 pr_ 19 (po_ 15 18),
 pr_ 20 (nc_ 10),
 pr_ 21 (fa_ 2 20),
 st_ (so_ 1 21 19)]
 (sq_ [mv_ 22 3,
 mv_ 2 22]
 .ret)))))
def o221:List Tmp:=[]
def r221:List RV:=[.tmp 2]
theorem t221:Text Tryz.prog 221 o221 c221 r221 23:=.mk_ Tryz.f221 rfl
def c222:ACode :=
 (sq_ [pr_ 4 (mi_ .i64 0)]
 (sq_ [mv_ 5 0,
 mv_ 6 1,
 cl_ 7 225 [(.tmp 5),(.tmp 6)],
 mv_ 4 7]
 .ret))
def o222:List Tmp:=[]
def r222:List RV:=[.tmp 4]
theorem t222:Text Tryz.prog 222 o222 c222 r222 8:=.mk_ Tryz.f222 rfl
end Go.Proofs.YtmkmhhjkdaklbaaGreat
