/- What the functions do, over abstract values: printed by a program, checked by the kernel. No condition. -/
import Derived.Test.YtmkmhhjkdaklbaaGreatProg
import Derived.Test.YtmkmhhjkdaklbaaGreatAbStepv
import Derived.Test.YtmkmhhjkdaklbaaGreatRd6v
import Derived.Test.YtmkmhhjkdaklbaaGreatRd4v
import Derived.Test.YtmkmhhjkdaklbaaGreatRd3v
set_option linter.unusedSimpArgs false
set_option linter.unusedVariables false
set_option linter.unusedSectionVars false
namespace Go.Proofs.YtmkmhhjkdaklbaaGreat
open Go Go.Ab
set_option maxRecDepth 100000
def c24:ACode :=
 (sq_ [pr_ 0 mf_]
 (sq_ [pr_ 6 (.bsl false 1 false 1 [.pl (.int .u8 0)] [(0,1,(.const (.int .u8 1)))]),
 pr_ 7 (.build [.pl (.int .i64 0),.pl (.int .u64 0),.nils,.pl (.int .i64 0)] [(1,1,(.const (.int .u64 3))),(2,1,(.tmp 6))]),
 ⟨some 1,none,.fresh 4 1 (.tmp 7)⟩]
 (sq_ [pr_ 9 (.bsl false 1 false 5 [.pl (.int .u8 0)] [(0,1,(.const (.int .u8 0))),(1,1,(.const (.int .u8 3))),(2,1,(.const (.int .u8 1))),(3,1,(.const (.int .u8 1))),(4,1,(.const (.int .u8 0)))]),
 c1_ 10 29 9,
 mv_ 8 10,
 pr_ 11 (ex_ 0 8),
 pr_ 12 (ex_ 1 8),
 ⟨some 2,none,.fresh 4 2 (.tmp 11)⟩,
 mv_ 3 12]
 (sq_ [pr_ 14 (.bsl false 1 false 5 [.pl (.int .u8 0)] [(0,1,(.const (.int .u8 0))),(1,1,(.const (.int .u8 3))),(2,1,(.const (.int .u8 1))),(3,1,(.const (.int .u8 99))),(4,1,(.const (.int .u8 0)))]),
 c1_ 15 29 14,
 mv_ 13 15,
 pr_ 16 (ex_ 0 13),
 pr_ 17 (ex_ 1 13),
 ⟨some 4,none,.fresh 4 4 (.tmp 16)⟩,
 mv_ 5 17]
 (sq_ [pr_ 18 (lt_ 4 1),
 c1_ 19 27 18,
 pr_ 20 (.b2s (.tmp 19)),
 pr_ 21 (.bin false .eql (.tmp 20) (.const (.string (ByteArray.mk #[0,3,1,1,0])))),
 mv_ 22 21,
 gp_ 23 22 true (mo_ 3),
 pr_ 24 (pa_ 22 23),
 mv_ 25 24,
 gp_ 26 25 true (fa_ 1 2),
 gp_ 27 25 true (lf_ 1 26),
 gp_ 28 25 true (bk_ .eql 27 .u64 3),
 pr_ 29 (pa_ 25 28),
 mv_ 30 29,
 gp_ 31 30 true (fa_ 2 2),
 gp_ 32 30 true (lf_ 1 31),
 gp_ 33 30 true (.b2s (.tmp 32)),
 gp_ 34 30 true (.bin false .eql (.tmp 33) (.const (.string (ByteArray.mk #[1])))),
 pr_ 35 (pa_ 30 34),
 mv_ 36 35,
 gp_ 37 36 true (mo_ 5),
 gp_ 38 36 true (no_ 37),
 pr_ 39 (pa_ 36 38),
 mv_ 40 39,
 gp_ 41 40 true (lt_ 4 1),
 gc_ 42 40 true 25 [(.tmp 41)],
 pr_ 43 (pa_ 40 42),
 mv_ 0 43]
 .ret)))))
def o24:List Tmp:=[]
def r24:List RV:=[.tmp 0]
theorem t24:Text Tryz.prog 24 o24 c24 r24 44:=.mk_ Tryz.f24 rfl
def c25:ACode :=
 (sq_ [pr_ 1 (.boxr (.tmp 0)),
 pr_ 2 mf_]
 (.seq (sq_ [pr_ 5 (fa_ 0 1),
 pr_ 6 (lf_ 1 5),
 pr_ 7 (bk_ .lss 6 .i64 0),
 mv_ 8 7,
 gp_ 9 8 false (fa_ 0 1),
 gp_ 10 8 false (lf_ 1 9),
 gp_ 11 8 false (bk_ .gtr 10 .i64 2147483647),
 pr_ 12 (po_ 8 11),
 mv_ 13 12,
 gp_ 14 13 false (fa_ 1 1),
 gp_ 15 13 false (lf_ 1 14),
 gp_ 16 13 false (bk_ .gtr 15 .u64 1099511627776),
 pr_ 17 (po_ 13 16)]
 (.cond (.tmp 17)
 (sq_ [pr_ 2 mf_]
 .ret)
 .skip))
 (sq_ [pr_ 19 (fa_ 2 1),
 pr_ 20 (lf_ 1 19),
 c1_ 21 45 20,
 mv_ 18 21,
 pr_ 22 (ex_ 0 18),
 pr_ 23 (ex_ 1 18),
 ⟨some 3,none,.fresh 19 3 (.tmp 22)⟩,
 mv_ 4 23]
 (sq_ [mv_ 24 4,
 mv_ 25 24,
 gp_ 26 25 true (fa_ 3 1),
 gp_ 27 25 true (lf_ 1 26),
 gp_ 28 25 true (bk_ .eql 27 .i64 0),
 gp_ 29 25 true (mo_ 28),
 gp_ 30 29 false (fa_ 3 1),
 gp_ 31 29 false (lf_ 1 30),
 gp_ 32 29 false (bk_ .geq 31 .i64 4),
 gp_ 33 29 false (mo_ 32),
 gp_ 34 33 true (fa_ 3 1),
 gp_ 35 33 true (lf_ 1 34),
 gp_ 36 33 true (bk_ .leq 35 .i64 10),
 gp_ 37 29 false (pa_ 33 36),
 gp_ 38 25 true (po_ 29 37),
 pr_ 39 (pa_ 25 38),
 mv_ 2 39]
 .ret))))
def o25:List Tmp:=[]
def r25:List RV:=[.tmp 2]
theorem t25:Text Tryz.prog 25 o25 c25 r25 40:=.mk_ Tryz.f25 rfl
def c26:ACode :=
 (sq_ [pr_ 1 (.boxr (.tmp 0)),
 pr_ 2 mf_]
 (sq_ [pr_ 6 (fa_ 2 1),
 pr_ 7 (lf_ 1 6),
 c1_ 8 46 7,
 mv_ 5 8,
 pr_ 9 (ex_ 0 5),
 pr_ 10 (ex_ 1 5),
 ⟨some 3,none,.fresh 19 3 (.tmp 9)⟩,
 mv_ 4 10]
 (sq_ [mv_ 11 4,
 mv_ 12 11,
 gp_ 13 12 true (fa_ 0 1),
 gp_ 14 12 true (lf_ 1 13),
 gp_ 15 12 true (bk_ .geq 14 .i64 0),
 pr_ 16 (pa_ 12 15),
 mv_ 17 16,
 gp_ 18 17 true (fa_ 0 1),
 gp_ 19 17 true (lf_ 1 18),
 gp_ 20 17 true (bk_ .leq 19 .i64 2147483647),
 pr_ 21 (pa_ 17 20),
 mv_ 22 21,
 gp_ 23 22 true (fa_ 1 1),
 gp_ 24 22 true (lf_ 1 23),
 gp_ 25 22 true (bk_ .leq 24 .u64 1099511627776),
 pr_ 26 (pa_ 22 25),
 mv_ 27 26,
 gp_ 28 27 true (fa_ 3 1),
 gp_ 29 27 true (lf_ 1 28),
 gp_ 30 27 true (bk_ .eql 29 .i64 0),
 gp_ 31 27 true (mo_ 30),
 gp_ 32 31 false (fa_ 3 1),
 gp_ 33 31 false (lf_ 1 32),
 gp_ 34 31 false (bk_ .geq 33 .i64 4),
 gp_ 35 31 false (mo_ 34),
 gp_ 36 35 true (fa_ 3 1),
 gp_ 37 35 true (lf_ 1 36),
 gp_ 38 35 true (bk_ .leq 37 .i64 10),
 gp_ 39 31 false (pa_ 35 38),
 gp_ 40 27 true (po_ 31 39),
 pr_ 41 (pa_ 27 40),
 mv_ 2 41]
 .ret)))
def o26:List Tmp:=[]
def r26:List RV:=[.tmp 2]
theorem t26:Text Tryz.prog 26 o26 c26 r26 42:=.mk_ Tryz.f26 rfl
def c27:ACode :=
 (sq_ [pr_ 1 (.boxr (.tmp 0)),
 pr_ 2 (.mov (.const (.slice none 0 0)))]
 (.seq (sq_ [pr_ 3 (lt_ 4 1),
 c1_ 4 25 3,
 pr_ 5 (no_ 4)]
 (.cond (.tmp 5)
 (sq_ [pr_ 2 (.mov (.const (.slice none 0 0)))]
 (.ghost (.shut 2) .ret))
 .skip))
 (.seq (.draw [⟨pr_ 6 (fa_ 0 1),[],false,0,0⟩,
 ⟨pr_ 7 (lf_ 1 6),[0],false,0,0⟩,
 ⟨pr_ 8 (.convi .u64 (.tmp 7)),[0,1],false,0,0⟩,
 ⟨c1_ 9 71 8,[0,1,2],true,0,0⟩,
 ⟨pr_ 10 (fa_ 1 1),[],false,0,1⟩,
 ⟨pr_ 11 (lf_ 1 10),[4],false,0,1⟩,
 ⟨c1_ 12 71 11,(List.range 6),true,0,0⟩,
 ⟨pr_ 13 (fa_ 2 1),[],false,0,2⟩,
 ⟨pr_ 14 (lf_ 1 13),[7],false,0,2⟩,
 ⟨pr_ 15 (.b2s (.tmp 14)),[7,8],false,0,2⟩,
 ⟨c1_ 16 72 15,(List.range 10),true,0,0⟩,
 ⟨pr_ 17 (fa_ 3 1),[],false,0,3⟩,
 ⟨pr_ 18 (lf_ 1 17),[11],false,0,3⟩,
 ⟨pr_ 19 (.convi .u8 (.tmp 18)),[11,12],false,0,3⟩,
 ⟨pr_ 20 (.bsl false 1 false 1 [.pl (.int .u8 0)] [(0,1,(.tmp 19))]),[11,12,13],false,0,3⟩,
 ⟨pr_ 21 (.bsl false 1 false 4 [.nils] [(0,1,(.tmp 9)),(1,1,(.tmp 12)),(2,1,(.tmp 16)),(3,1,(.tmp 20))]),(List.range 15),false,3,3⟩,
 ⟨c1_ 22 68 21,(List.range 16),true,0,0⟩,
 ⟨mv_ 2 22,(List.range 17),false,4,4⟩])
 (.ghost (.shut 2) .ret))))
def o27:List Tmp:=[]
def r27:List RV:=[.tmp 2]
theorem t27:Text Tryz.prog 27 o27 c27 r27 23:=.mk_ Tryz.f27 rfl
def c28:ACode :=
 (sq_ [pr_ 1 (.boxr (.tmp 0)),
 pr_ 2 (.mov (.const (.slice none 0 0)))]
 (.seq (sq_ [pr_ 4 (lt_ 4 1),
 c1_ 5 26 4,
 pr_ 6 (no_ 5)]
 (.cond (.tmp 6)
 (sq_ [pr_ 2 (.mov (.const (.slice none 0 0)))]
 (.ghost (.shut 2) .ret))
 .skip))
 (.seq (.draw [⟨pr_ 7 (fa_ 0 1),[],false,0,0⟩,
 ⟨pr_ 8 (lf_ 1 7),[0],false,0,0⟩,
 ⟨pr_ 9 (.convi .u64 (.tmp 8)),[0,1],false,0,0⟩,
 ⟨c1_ 10 75 9,[0,1,2],true,0,0⟩,
 ⟨pr_ 11 (fa_ 1 1),[],false,0,1⟩,
 ⟨pr_ 12 (lf_ 1 11),[4],false,0,1⟩,
 ⟨c1_ 13 75 12,(List.range 6),true,0,0⟩,
 ⟨pr_ 14 (.app 1 (.tmp 10) (.tmp 13)),(List.range 7),true,0,0⟩,
 ⟨mv_ 3 14,(List.range 8),false,3,3⟩])
 (.seq (.draw [⟨mv_ 15 3,[],false,0,1⟩,
 ⟨pr_ 16 (fa_ 2 1),[],false,0,0⟩,
 ⟨pr_ 17 (lf_ 1 16),[1],false,0,0⟩,
 ⟨pr_ 18 (.b2s (.tmp 17)),[1,2],false,0,0⟩,
 ⟨c1_ 19 76 18,[1,2,3],true,0,0⟩,
 ⟨pr_ 20 (.app 1 (.tmp 15) (.tmp 19)),[0,1,2,3,4],true,0,0⟩,
 ⟨pr_ 21 (fa_ 3 1),[],false,0,2⟩,
 ⟨pr_ 22 (lf_ 1 21),[6],false,0,2⟩,
 ⟨pr_ 23 (.convi .u8 (.tmp 22)),[6,7],false,0,2⟩,
 ⟨pr_ 24 (.bsl false 1 false 1 [.pl (.int .u8 0)] [(0,1,(.tmp 23))]),[6,7,8],false,0,2⟩,
 ⟨pr_ 25 (.app 1 (.tmp 20) (.tmp 24)),(List.range 10),true,0,0⟩,
 ⟨mv_ 2 25,(List.range 11),false,3,3⟩])
 (.ghost (.shut 2) .ret)))))
def o28:List Tmp:=[]
def r28:List RV:=[.tmp 2]
theorem t28:Text Tryz.prog 28 o28 c28 r28 26:=.mk_ Tryz.f28 rfl
def c29:ACode :=
 (sq_ [pr_ 2 (.allocm [.pl (.int .i64 0),.pl (.int .u64 0),.nils,.pl (.int .i64 0)]),
 pr_ 3 mf_]
 (sq_ [mv_ 8 0,
 c1_ 9 54 8,
 mv_ 4 9]
 (sq_ [mv_ 10 4,
 cl_ 11 59 [(.tmp 10),(.const (.int .u64 2147483647))],
 pr_ 12 (.convi .i64 (.tmp 11)),
 mv_ 13 4,
 cl_ 14 59 [(.tmp 13),(.const (.int .u64 1099511627776))],
 mv_ 15 4,
 mv_ 16 0,
 pr_ 17 (.lenv (.tmp 16)),
 cl_ 18 60 [(.tmp 15),(.tmp 17)],
 pr_ 19 (.s2b (.tmp 18)),
 mv_ 20 4,
 c1_ 21 83 20,
 pr_ 22 (.convi .i64 (.tmp 21)),
 pr_ 23 (.build [.pl (.int .i64 0),.pl (.int .u64 0),.nils,.pl (.int .i64 0)] [(0,1,(.tmp 12)),(1,1,(.tmp 14)),(2,1,(.tmp 19)),(3,1,(.tmp 22))]),
 ⟨some 5,none,.fresh 4 5 (.tmp 23)⟩]
 (.seq (sq_ [mv_ 25 4,
 c1_ 26 62 25,
 mv_ 24 26,
 pr_ 27 (ex_ 0 24),
 pr_ 28 (ex_ 1 24),
 mv_ 6 27,
 mv_ 7 28]
 (sq_ [mv_ 29 7,
 pr_ 30 (no_ 29),
 mv_ 31 30,
 gp_ 32 31 false (mo_ 6),
 gp_ 33 31 false (mo_ 0),
 gp_ 34 31 false (.lenv (.tmp 33)),
 gp_ 35 31 false (bt_ .neq 32 34),
 pr_ 36 (po_ 31 35),
 mv_ 37 36,
 gp_ 38 37 false (lt_ 4 5),
 gc_ 39 37 false 25 [(.tmp 38)],
 gp_ 40 37 false (no_ 39),
 pr_ 41 (po_ 37 40)]
 (.cond (.tmp 41)
 (sq_ [pr_ 42 (.build [.pl (.int .i64 0),.pl (.int .u64 0),.nils,.pl (.int .i64 0)] []),
 st_ (so_ 4 2 42),
 pr_ 3 mf_]
 .ret)
 .skip)))
 (sq_ [pr_ 43 (lt_ 4 5),
 st_ (so_ 4 2 43),
 pr_ 3 mt_]
 .ret)))))
def o29:List Tmp:=[2]
def r29:List RV:=[.cell 2 4 true,.tmp 3]
theorem t29:Text Tryz.prog 29 o29 c29 r29 44:=.mk_ Tryz.f29 rfl
def c30:ACode :=
 (sq_ [pr_ 2 (.allocm [.pl (.int .i64 0),.pl (.int .u64 0),.nils,.pl (.int .i64 0)]),
 pr_ 3 mf_]
 (sq_ [pr_ 12 (.build [.pl (.int .i64 0),.pl (.int .u64 0),.nils,.pl (.int .i64 0)] []),
 ⟨some 4,none,.fresh 4 4 (.tmp 12)⟩]
 (sq_ [mv_ 14 0,
 c1_ 15 65 14,
 mv_ 13 15,
 pr_ 16 (ex_ 0 13),
 pr_ 17 (ex_ 1 13),
 pr_ 18 (ex_ 2 13),
 mv_ 5 16,
 mv_ 6 17,
 mv_ 7 18]
 (.seq (sq_ [mv_ 19 7,
 pr_ 20 (no_ 19),
 mv_ 21 20,
 gp_ 22 21 false (mo_ 5),
 gp_ 23 21 false (bk_ .gtr 22 .u64 2147483647),
 pr_ 24 (po_ 21 23)]
 (.cond (.tmp 24)
 (sq_ [pr_ 25 (lt_ 4 4),
 st_ (so_ 4 2 25),
 pr_ 3 mf_]
 .ret)
 .skip))
 (sq_ [mv_ 27 0,
 mv_ 28 6,
 pr_ 29 (.slcv 1 (.tmp 27) (some (.tmp 28)) none),
 c1_ 30 65 29,
 mv_ 26 30,
 pr_ 31 (ex_ 0 26),
 pr_ 32 (ex_ 1 26),
 pr_ 33 (ex_ 2 26),
 mv_ 8 31,
 mv_ 9 32,
 mv_ 7 33]
 (.seq (sq_ [mv_ 34 7,
 pr_ 35 (no_ 34)]
 (.cond (.tmp 35)
 (sq_ [pr_ 36 (lt_ 4 4),
 st_ (so_ 4 2 36),
 pr_ 3 mf_]
 .ret)
 .skip))
 (sq_ [mv_ 37 6,
 mv_ 38 9,
 pr_ 39 (bt_ .add 37 38),
 mv_ 6 39]
 (sq_ [mv_ 41 0,
 mv_ 42 6,
 pr_ 43 (.slcv 1 (.tmp 41) (some (.tmp 42)) none),
 mv_ 44 0,
 pr_ 45 (.lenv (.tmp 44)),
 cl_ 46 66 [(.tmp 43),(.tmp 45)],
 mv_ 40 46,
 pr_ 47 (ex_ 0 40),
 pr_ 48 (ex_ 1 40),
 pr_ 49 (ex_ 2 40),
 mv_ 10 47,
 mv_ 9 48,
 mv_ 7 49]
 (sq_ [mv_ 50 6,
 mv_ 51 9,
 pr_ 52 (bt_ .add 50 51),
 mv_ 6 52]
 (.seq (sq_ [mv_ 53 7,
 pr_ 54 (no_ 53),
 mv_ 55 54,
 gp_ 56 55 false (mo_ 6),
 gp_ 57 55 false (mo_ 0),
 gp_ 58 55 false (.lenv (.tmp 57)),
 gp_ 59 55 false (bk_ .sub 58 .i64 1),
 gp_ 60 55 false (bt_ .neq 56 59),
 pr_ 61 (po_ 55 60)]
 (.cond (.tmp 61)
 (sq_ [pr_ 62 (lt_ 4 4),
 st_ (so_ 4 2 62),
 pr_ 3 mf_]
 .ret)
 .skip))
 (sq_ [mv_ 63 5,
 pr_ 64 (.convi .i64 (.tmp 63)),
 mv_ 65 8,
 mv_ 66 10,
 pr_ 67 (.s2b (.tmp 66)),
 mv_ 68 0,
 mv_ 69 6,
 pr_ 70 (.iadrs 1 (.tmp 68) (.tmp 69)),
 pr_ 71 (lf_ 1 70),
 pr_ 72 (.convi .i64 (.tmp 71)),
 pr_ 73 (.build [.pl (.int .i64 0),.pl (.int .u64 0),.nils,.pl (.int .i64 0)] [(0,1,(.tmp 64)),(1,1,(.tmp 65)),(2,1,(.tmp 67)),(3,1,(.tmp 72))]),
 ⟨some 11,none,.fresh 4 11 (.tmp 73)⟩]
 (.seq (sq_ [pr_ 74 (lt_ 4 11),
 c1_ 75 26 74,
 pr_ 76 (no_ 75)]
 (.cond (.tmp 76)
 (sq_ [pr_ 77 (lt_ 4 4),
 st_ (so_ 4 2 77),
 pr_ 3 mf_]
 .ret)
 .skip))
 (sq_ [pr_ 78 (lt_ 4 11),
 st_ (so_ 4 2 78),
 pr_ 3 mt_]
 .ret)))))))))))))
def o30:List Tmp:=[2]
def r30:List RV:=[.cell 2 4 true,.tmp 3]
theorem t30:Text Tryz.prog 30 o30 c30 r30 79:=.mk_ Tryz.f30 rfl
def c31:ACode :=
 (sq_ [pr_ 2 (.boxr (.tmp 0)),
 pr_ 3 (.boxr (.tmp 1)),
 pr_ 4 mf_]
 (sq_ [pr_ 5 (lt_ 4 2),
 pr_ 6 (.bsl false 4 true 1 [.pl (.int .i64 0),.pl (.int .u64 0),.nils,.pl (.int .i64 0)] [(0,4,(.tmp 5))]),
 pr_ 7 (lt_ 4 3),
 pr_ 8 (.bsl false 4 true 1 [.pl (.int .i64 0),.pl (.int .u64 0),.nils,.pl (.int .i64 0)] [(0,4,(.tmp 7))]),
 cl_ 9 84 [(.tmp 6),(.tmp 8)],
 mv_ 4 9]
 .ret))
def o31:List Tmp:=[]
def r31:List RV:=[.tmp 4]
theorem t31:Text Tryz.prog 31 o31 c31 r31 10:=.mk_ Tryz.f31 rfl
def c32:ACode :=
 (sq_ [pr_ 6 (.boxr (.tmp 2)),
 pr_ 8 (.allocm [.pl (.int .i64 0),.pl (.int .u64 0),.nils,.pl (.int .i64 0)])]
 (sq_ [mv_ 9 0,
 mv_ 10 1,
 pr_ 11 (lt_ 19 6),
 c1_ 12 41 11,
 c1_ 13 38 12,
 mv_ 14 3,
 pr_ 15 (.build [.pl (.int .i64 0),.pl (.int .u64 0),.nils,.pl (.int .i64 0)] [(0,1,(.tmp 9)),(1,1,(.tmp 10)),(2,1,(.tmp 13)),(3,1,(.tmp 14))]),
 st_ (so_ 4 8 15)]
 .ret))
def o32:List Tmp:=[]
def r32:List RV:=[.cell 8 4 true]
theorem t32:Text Tryz.prog 32 o32 c32 r32 16:=.mk_ Tryz.f32 rfl
def c84:ACode :=
 (sq_ [pr_ 4 mf_]
 (.seq (sq_ [mv_ 6 0,
 pr_ 7 (.lenv (.tmp 6)),
 mv_ 8 1,
 pr_ 9 (.lenv (.tmp 8)),
 pr_ 10 (bt_ .neq 7 9)]
 (.cond (.tmp 10)
 (sq_ [pr_ 4 mf_]
 .ret)
 .skip))
 (.seq (sq_ [pr_ 5 (mi_ .i64 0)]
 (.block 0 (.loop [2,3,4,6,7,8,9,10,11,12,13,14,15,16,17,18,19,20,21,22,23,24,25,26,27,28,29,30,31,32,33,34,35,36,37,38,39,40,41,42,43,44,45,46,47,48,49,50,51,52,53,54,55,56,57,58,59,60,61,62,63,64,65,66,67,68] (.seq (sq_ [mv_ 11 5,
 mv_ 12 0,
 pr_ 13 (.lenv (.tmp 12)),
 pr_ 14 (bt_ .lss 11 13)]
 (.cond (.tmp 14)
 .skip
 (.exit 0)))
 (.seq (.block 1 (.seq (.draw [⟨mv_ 17 0,[],false,0,0⟩,
 ⟨mv_ 18 5,[],false,0,0⟩,
 ⟨pr_ 19 (.iadrs 4 (.tmp 17) (.tmp 18)),[0,1],false,0,0⟩,
 ⟨pr_ 20 (fa_ 0 19),[0,1,2],false,0,0⟩,
 ⟨pr_ 21 (lf_ 1 20),[0,1,2,3],false,0,0⟩,
 ⟨mv_ 22 1,[],false,0,0⟩,
 ⟨mv_ 23 5,[],false,0,0⟩,
 ⟨pr_ 24 (.iadrs 4 (.tmp 22) (.tmp 23)),[5,6],false,0,0⟩,
 ⟨pr_ 25 (fa_ 0 24),[5,6,7],false,0,0⟩,
 ⟨pr_ 26 (lf_ 1 25),[5,6,7,8],false,0,0⟩,
 ⟨pr_ 27 (bt_ .neq 21 26),(List.range 10),false,0,0⟩,
 ⟨mv_ 28 27,(List.range 11),false,0,0⟩,
 ⟨gp_ 29 28 false (mo_ 0),(List.range 12),false,0,0⟩,
 ⟨gp_ 30 28 false (mo_ 5),(List.range 12),false,0,0⟩,
 ⟨gp_ 31 28 false (.iadrs 4 (.tmp 29) (.tmp 30)),(List.range 14),false,0,0⟩,
 ⟨gp_ 32 28 false (fa_ 1 31),(List.range 15),false,0,0⟩,
 ⟨gp_ 33 28 false (lf_ 1 32),(List.range 16),false,0,0⟩,
 ⟨gp_ 34 28 false (mo_ 1),(List.range 12),false,0,0⟩,
 ⟨gp_ 35 28 false (mo_ 5),(List.range 12),false,0,0⟩,
 ⟨gp_ 36 28 false (.iadrs 4 (.tmp 34) (.tmp 35)),[0,1,2,3,4,5,6,7,8,9,10,11,17,18],false,0,0⟩,
 ⟨gp_ 37 28 false (fa_ 1 36),[0,1,2,3,4,5,6,7,8,9,10,11,17,18,19],false,0,0⟩,
 ⟨gp_ 38 28 false (lf_ 1 37),[0,1,2,3,4,5,6,7,8,9,10,11,17,18,19,20],false,0,0⟩,
 ⟨gp_ 39 28 false (bt_ .neq 33 38),(List.range 22),false,0,0⟩,
 ⟨pr_ 40 (po_ 28 39),(List.range 23),false,0,0⟩,
 ⟨mv_ 41 40,(List.range 24),false,0,0⟩,
 ⟨gp_ 42 41 false (mo_ 0),(List.range 25),false,0,0⟩,
 ⟨gp_ 43 41 false (mo_ 5),(List.range 25),false,0,0⟩,
 ⟨gp_ 44 41 false (.iadrs 4 (.tmp 42) (.tmp 43)),(List.range 27),false,0,0⟩,
 ⟨gp_ 45 41 false (fa_ 2 44),(List.range 28),false,0,0⟩,
 ⟨gp_ 46 41 false (lf_ 1 45),(List.range 29),false,0,0⟩,
 ⟨gp_ 47 41 false (.b2s (.tmp 46)),(List.range 30),false,0,0⟩,
 ⟨gp_ 48 41 false (mo_ 1),(List.range 25),false,0,0⟩,
 ⟨gp_ 49 41 false (mo_ 5),(List.range 25),false,0,0⟩,
 ⟨gp_ 50 41 false (.iadrs 4 (.tmp 48) (.tmp 49)),[0,1,2,3,4,5,6,7,8,9,10,11,12,13,14,15,16,17,18,19,20,21,22,23,24,31,32],false,0,0⟩,
 ⟨gp_ 51 41 false (fa_ 2 50),[0,1,2,3,4,5,6,7,8,9,10,11,12,13,14,15,16,17,18,19,20,21,22,23,24,31,32,33],false,0,0⟩,
 ⟨gp_ 52 41 false (lf_ 1 51),[0,1,2,3,4,5,6,7,8,9,10,11,12,13,14,15,16,17,18,19,20,21,22,23,24,31,32,33,34],false,0,0⟩,
 ⟨gp_ 53 41 false (.b2s (.tmp 52)),[0,1,2,3,4,5,6,7,8,9,10,11,12,13,14,15,16,17,18,19,20,21,22,23,24,31,32,33,34,35],false,0,0⟩,
 ⟨gp_ 54 41 false (bt_ .neq 47 53),(List.range 37),false,0,0⟩,
 ⟨pr_ 55 (po_ 41 54),(List.range 38),false,0,0⟩,
 ⟨mv_ 56 55,(List.range 39),false,0,0⟩,
 ⟨gp_ 57 56 false (mo_ 0),(List.range 40),false,0,0⟩,
 ⟨gp_ 58 56 false (mo_ 5),(List.range 40),false,0,0⟩,
 ⟨gp_ 59 56 false (.iadrs 4 (.tmp 57) (.tmp 58)),(List.range 42),false,0,0⟩,
 ⟨gp_ 60 56 false (fa_ 3 59),(List.range 43),false,0,0⟩,
 ⟨gp_ 61 56 false (lf_ 1 60),(List.range 44),false,0,0⟩,
 ⟨gp_ 62 56 false (mo_ 1),(List.range 40),false,0,0⟩,
 ⟨gp_ 63 56 false (mo_ 5),(List.range 40),false,0,0⟩,
 ⟨gp_ 64 56 false (.iadrs 4 (.tmp 62) (.tmp 63)),[0,1,2,3,4,5,6,7,8,9,10,11,12,13,14,15,16,17,18,19,20,21,22,23,24,25,26,27,28,29,30,31,32,33,34,35,36,37,38,39,45,46],false,0,0⟩,
 ⟨gp_ 65 56 false (fa_ 3 64),[0,1,2,3,4,5,6,7,8,9,10,11,12,13,14,15,16,17,18,19,20,21,22,23,24,25,26,27,28,29,30,31,32,33,34,35,36,37,38,39,45,46,47],false,0,0⟩,
 ⟨gp_ 66 56 false (lf_ 1 65),[0,1,2,3,4,5,6,7,8,9,10,11,12,13,14,15,16,17,18,19,20,21,22,23,24,25,26,27,28,29,30,31,32,33,34,35,36,37,38,39,45,46,47,48],false,0,0⟩,
 ⟨gp_ 67 56 false (bt_ .neq 61 66),(List.range 50),false,0,0⟩,
 ⟨pr_ 68 (po_ 56 67),(List.range 51),false,0,0⟩])
 (.cond (.tmp 68)
 (sq_ [pr_ 4 mf_]
 .ret)
 .skip)))
 (.ops [mv_ 15 5,
 pr_ 16 (bk_ .add 15 .i64 1),
 mv_ 5 16]))))))
 (sq_ [pr_ 4 mt_]
 .ret))))
def o84:List Tmp:=[]
def r84:List RV:=[.tmp 4]
theorem t84:Text Tryz.prog 84 o84 c84 r84 69:=.mk_ Tryz.f84 rfl
end Go.Proofs.YtmkmhhjkdaklbaaGreat
namespace Go.Proofs.YtmkmhhjkdaklbaaGreat
open Go Go.Ab Go.Cod
set_option maxRecDepth 100000
structure RcM where
 ix:Int
 ck:Nat
 bd:Byt
 cd:Int
def rcC (r:RcM):List AV:=[I r.ix,UN r.ck,.sl 1 (byv r.bd),I r.cd]
def rcV (r:RcM):AV:=.agg (rcC r)
def cdB (c:Int):Bool:=c==0||(decide (4≤c)&&decide (c≤10))
def bdB (b:Byt):Bool:=(wholeO (bodyR b)).isSome
def rcIs (r:RcM):Bool:=decide (0≤r.ix)&&(decide (r.ix≤2147483647)&&(decide ((r.ck:Int)≤1099511627776)&&(bdB r.bd&&cdB r.cd)))
theorem z6g (o:Option ReM):∃x,z14 o=.tup [reV x,Bo o.isSome]:=by
 cases o with
 |none=>exact⟨noRe,rfl⟩
 |some x=>exact⟨x,rfl⟩
theorem z5i {r:RcM} (h:rcIs r=true):0≤r.ix∧r.ix≤2147483647∧r.ck≤1099511627776∧0≤r.cd∧r.cd≤10:=by
 unfold rcIs cdB at h;simp only[Bool.and_eq_true,Bool.or_eq_true,decide_eq_true_eq,beq_iff_eq]at h;omega
section
variable (σ:St)
theorem z4t (r:RcM) (hb:r.bd.length≤50000):Ans Tryz.prog 25 [rcV r] σ (Bo (rcIs r)) σ:=by
 obtain⟨ix,ck,bd,cd⟩:=r;have k1:=z8Q σ bd hb;obtain⟨x,hx⟩:=z6g (wholeO (bodyR bd));rw[hx]at k1;unfold rcV rcC rcIs bdB cdB;refine Ans.of_run t25 ?_;unfold reV reC at k1;generalize (wholeO (bodyR bd)).isSome=ok at k1⊢;simp only
 cases h0:decide (0≤ix) with
 |false =>
  have e0:=lt_of h0;simp -implicitDefEqProofs only[c25,r25,go_sem,e0];exact Fini.ret rfl
 |true =>
 have e0:=lt_of h0
 cases h1:decide (ix≤2147483647) with
 |false =>
  have e1:=gt_of h1;simp -implicitDefEqProofs only[c25,r25,go_sem,e0,e1];exact Fini.ret rfl
 |true =>
 have e1:=gt_of h1
 cases h2:decide ((ck:Int)≤1099511627776) with
 |false =>
  have e2:=gt_of h2;simp -implicitDefEqProofs only[c25,r25,go_sem,e0,e1,e2];exact Fini.ret rfl
 |true =>
 have e2:=gt_of h2;simp -implicitDefEqProofs only[c25,r25,go_sem,e0,e1,e2];refine CO.intro k1 ?_
 cases ok with
 |false =>
  simp -implicitDefEqProofs only[go_sem];exact Fini.ret rfl
 |true =>
 cases h3:(cd==0) with
 |true =>
  simp -implicitDefEqProofs only[go_sem,h3];exact Fini.ret rfl
 |false =>
 cases h4:decide (4≤cd) with
 |false =>
  simp -implicitDefEqProofs only[go_sem,h3,h4];exact Fini.ret rfl
 |true =>
 simp -implicitDefEqProofs only[go_sem,h3,h4];exact Fini.ret rfl
theorem z4u (r:RcM) (hb:r.bd.length≤50000):Ans Tryz.prog 26 [rcV r] σ (Bo (rcIs r)) σ:=by
 obtain⟨ix,ck,bd,cd⟩:=r;have k1:=z7L σ bd hb;obtain⟨x,hx⟩:=z6g (wholeO (bodyR bd));rw[hx]at k1;unfold rcV rcC rcIs bdB cdB;refine Ans.of_run t26 ?_;unfold reV reC at k1;generalize (wholeO (bodyR bd)).isSome=ok at k1⊢;simp only;simp -implicitDefEqProofs only[c26,r26,go_sem];refine CO.intro k1 ?_
 have e1:(decide (0≤ix)&&(decide (ix≤2147483647)&&(decide ((ck:Int)≤1099511627776)&&(ok&&(cd==0||decide (4≤cd)&&decide (cd≤10))))))=(ok&&(decide (0≤ix)&&(decide (ix≤2147483647)&&(decide ((ck:Int)≤1099511627776)&&(cd==0||decide (4≤cd)&&decide (cd≤10)))))):=by
  cases ok<;>simp
 rw[e1]
 cases ok with
 |false =>
  simp -implicitDefEqProofs only[go_sem];exact Fini.ret rfl
 |true =>
 cases h0:decide (0≤ix) with
 |false =>
  simp -implicitDefEqProofs only[go_sem,h0];exact Fini.ret rfl
 |true =>
 cases h1:decide (ix≤2147483647) with
 |false =>
  simp -implicitDefEqProofs only[go_sem,h0,h1];exact Fini.ret rfl
 |true =>
 cases h2:decide ((ck:Int)≤1099511627776) with
 |false =>
  simp -implicitDefEqProofs only[go_sem,h0,h1,h2];exact Fini.ret rfl
 |true =>
 cases h3:(cd==0) with
 |true =>
  simp -implicitDefEqProofs only[go_sem,h0,h1,h2,h3];exact Fini.ret rfl
 |false =>
 cases h4:decide (4≤cd) with
 |false =>
  simp -implicitDefEqProofs only[go_sem,h0,h1,h2,h3,h4];exact Fini.ret rfl
 |true =>
 simp -implicitDefEqProofs only[go_sem,h0,h1,h2,h3,h4];exact Fini.ret rfl
end
def cdC (c:Int):UInt8:=c.toNat.toUInt8
def putRc (r:RcM):Byt:=putN r.ix.toNat++(putN r.ck++(txtB ⟨r.bd.toArray⟩++[cdC r.cd]))
def z1S (r:RcM):Byt:=if rcIs r then putRc r else[]
theorem zaU {c:Int} (h:0≤c) (h1:c≤10):IntKind.u8.wrap c=(((cdC c).toNat:Nat):Int):=by
 obtain⟨n,rfl⟩:=Int.eq_ofNat_of_zero_le h;have:n<11:=by omega
 match n,this with
 |0,_|1,_|2,_|3,_|4,_|5,_|6,_|7,_|8,_|9,_|10,_=>rfl
theorem z3q (b:Byt):(⟨b.toArray⟩:ByteArray).size=b.length:=by simp[ByteArray.size]
theorem z7M (b:Byt):(⟨b.toArray⟩:ByteArray).data.toList=b:=by simp
section
variable (σ:St)
theorem z45 (r:RcM) (hb:r.bd.length≤50000):Ans Tryz.prog 27 [rcV r] σ (.sl 1 (byv (z1S r))) σ:=by
 have hi:=fun s=>z4t s r hb
 unfold z1S
 cases hR:rcIs r with
 |false =>
  have:Ans Tryz.prog 27 [rcV r] σ .nils σ:=by
   refine Ans.of_run t27 ?_;unfold rcV rcC at hi⊢;simp -implicitDefEqProofs only[c27,r27,go_sem];refine CO.intro (hi _) ?_;rw[hR];simp -implicitDefEqProofs only[go_sem];exact Fini.ret rfl
  exact this.subR (.nils 1)
 |true =>
  obtain⟨a1,a2,a3,a4,a5⟩:=z5i hR;obtain⟨ix,ck,bd,cd⟩:=r;simp only at a1 a2 a3 a4 a5 hb;have n1:=fun s=>zfS s ix.toNat (by omega)
  have n2:=fun s=>zfS s ck (by omega)
  have n3:=fun s=>z9w s ⟨bd.toArray⟩ (by rw[z3q];omega)
  have w1:IntKind.u64.wrap ix=((ix.toNat:Nat):Int):=by
   rw[show ix=((ix.toNat:Nat):Int) from by omega,z1k (by omega)];rfl
  have w2:=zaU a4 a5;have l1:=z0v (n:=ix.toNat) (by omega)
  have l2:=z0v (n:=ck) (by omega)
  have l3:(txtB ⟨bd.toArray⟩).length≤60000:=by
   have:=z0v (n:=bd.length) (by omega)
   unfold txtB;rw[List.length_append,z7M,z3q];omega
  have hc:=fun s=>zcV s [putN ix.toNat,putN ck,txtB ⟨bd.toArray⟩,[cdC cd]] (by simp) (by simp;omega) (by
   simp only[List.flatten_cons,List.flatten_nil,List.append_nil,List.length_append,List.length_singleton];omega)
  have e3:([putN ix.toNat,putN ck,txtB ⟨bd.toArray⟩,[cdC cd]]:List Byt).flatten=putRc ⟨ix,ck,bd,cd⟩:=by simp[putRc]
  rw[e3]at hc;refine Ans.of_run t27 ?_;unfold rcV rcC at hi⊢;simp -implicitDefEqProofs only[c27,r27,go_sem];refine CO.intro (hi _) ?_;rw[hR];simp -implicitDefEqProofs only[go_sem,w1];refine CD.intro (n1 _) ?_;simp -implicitDefEqProofs only[go_sem];refine CD.intro (n2 _) ?_;simp -implicitDefEqProofs only[go_sem,z0l,bc,z1j,z17,AV.isStr];refine CD.intro (n3 _) ?_;simp -implicitDefEqProofs only[go_sem,w2];refine CD.intro (hc _) ?_;simp -implicitDefEqProofs only[go_sem];exact Fini.ret rfl
theorem z50 (r:RcM) (hb:r.bd.length≤50000):Ans Tryz.prog 28 [rcV r] σ (.sl 1 (byv (z1S r))) σ:=by
 have hi:=fun s=>z4u s r hb
 unfold z1S
 cases hR:rcIs r with
 |false =>
  have:Ans Tryz.prog 28 [rcV r] σ .nils σ:=by
   refine Ans.of_run t28 ?_;unfold rcV rcC at hi⊢;simp -implicitDefEqProofs only[c28,r28,go_sem];refine CO.intro (hi _) ?_;rw[hR];simp -implicitDefEqProofs only[go_sem];exact Fini.ret rfl
  exact this.subR (.nils 1)
 |true =>
  obtain⟨a1,a2,a3,a4,a5⟩:=z5i hR;obtain⟨ix,ck,bd,cd⟩:=r;simp only at a1 a2 a3 a4 a5 hb;have n1:=fun s=>z4p s ix.toNat (by omega)
  have n2:=fun s=>z6e s ck (by omega)
  have n3:=fun s=>z1F s ⟨bd.toArray⟩ (by rw[z3q];omega)
  have w1:IntKind.u64.wrap ix=((ix.toNat:Nat):Int):=by
   rw[show ix=((ix.toNat:Nat):Int) from by omega,z1k (by omega)];rfl
  have w2:=zaU a4 a5;have l1:=z0v (n:=ix.toNat) (by omega)
  have l2:=z0v (n:=ck) (by omega)
  have l3:(txtB ⟨bd.toArray⟩).length≤60000:=by
   have:=z0v (n:=bd.length) (by omega)
   unfold txtB;rw[List.length_append,z7M,z3q];omega
  have q1:(putN ix.toNat).length+(putN ck).length≤4294967296:=by omega
  have q2:(putN ix.toNat).length+(putN ck).length+(txtB ⟨bd.toArray⟩).length≤4294967296:=by omega
  have q3:(putN ix.toNat).length+(putN ck).length+(txtB ⟨bd.toArray⟩).length+1≤4294967296:=by omega
  have e3:byv (putN ix.toNat)++byv (putN ck)++byv (txtB ⟨bd.toArray⟩)++[bc (cdC cd)]=byv (putRc ⟨ix,ck,bd,cd⟩):=by
   unfold putRc;simp only[z0r,List.append_assoc];rfl
  have hbb:=fun n=>z1Q n (putRc ⟨ix,ck,bd,cd⟩)
  rw[if_pos rfl];simp only[←e3]at hbb⊢;refine Ans.of_run' t28 (fun hbel _=>?_)
  unfold rcV rcC at hi⊢;simp -implicitDefEqProofs only[c28,r28,go_sem];refine CO.intro (hi _) ?_;rw[hR];simp -implicitDefEqProofs only[go_sem,w1];refine CD.intro (n1 _) ?_;simp -implicitDefEqProofs only[go_sem];refine CD.intro (n2 _) ?_;simp -implicitDefEqProofs only[go_sem,g0,s0,z01,z0l,bc,q1,List.length_append,z1j,z17,AV.isStr];refine CD.intro (n3 _) ?_;simp -implicitDefEqProofs only[go_sem,w2,g0,s0,z01,z0l,bc,q1,q2,q3,List.length_append];exact Fini.trim2 (σ':=σ) (ex:=[_]) rfl rfl (Nat.le_refl _) (hbb _) hbel
end
def mkRc (p:Nat×Nat×ByteArray×UInt8):RcM:=⟨(p.1:Nat),p.2.1,p.2.2.1.data.toList,(p.2.2.2.toNat:Nat)⟩
def rcR (n:Nat):Rd RcM:=z0Z (seqR (numR 2147483647) (seqR (numR 1099511627776) (seqR (textR n) byteR))) mkRc
def rcS (b:Byt):Nat×Bool→RcM×(Nat×Bool):=z22 (seqSt (runR (numR 2147483647) 0 b) (seqSt (runR (numR 1099511627776) 0 b) (seqSt (runR (textR b.length) ⟨#[]⟩ b) (runR byteR 0 b)))) mkRc
theorem zgZ (n:Nat):EndsR (rcR n):=z1u (z1C (ends_num _) (z1C (ends_num _) (z1C (z0T n) ends_byte))) _
theorem zfo (b:Byt):StepsR b (rcR b.length) (rcS b) :=
 z13 (z0F (z0k b _ _) (z0F (z0k b _ _) (z0F (z0k b _ _) (z0k b _ _) (z0T _)) (ends_num _)) (ends_num _)) _
def okRc (o:Option RcM):Option RcM:=o.bind fun r=>if rcIs r then some r else none
def rdRc (b:Byt):Option RcM:=okRc (wholeO (rcR b.length b))
abbrev noRc:RcM:=⟨0,0,[],0⟩
def noRcV:AV:=.agg [I 0,UN 0,.nils,I 0]
def rcW (o:Option RcM):AV:=match o with
 |some x=>.tup [rcV x,Bo true]
 |none=>.tup [noRcV,Bo false]
def rcT (o:Option RcM):AV:=match o with
 |some x=>.tup [rcV x,Bo true]
 |none=>.tup [rcV noRc,Bo false]
theorem z8X (o:Option RcM):Sub (rcW o) (rcT o):=by
 unfold rcW rcT
 cases o with
 |none=>exact .tup (.cons (.agg (.cons (.refl _) (.cons (.refl _) (.cons (.nils 1) (.cons (.refl _) .nil))))) (.refl _))
 |some x=>exact .refl _
theorem zdE (n:Nat) (r:RcM):Bel n (rcV r):=.agg _ fun i hi=>by
 have:∀y∈rcC r,Bel n y:=by
  intro y hy;unfold rcC at hy;simp only[List.mem_cons,List.not_mem_nil,or_false]at hy;rcases hy with rfl|rfl|rfl|rfl
  all_goals first|exact .pl _|exact z1Q _ _
 exact this _ (List.getElem_mem hi)
theorem z9R (n:Nat) (o:Option RcM):Bel n (rcW o):=by
 unfold rcW
 cases o with
 |some x=>exact z1H (zdE _ _)
 |none =>
  refine z1H (.agg _ fun i hi=>?_)
  have:∀y∈([I 0,UN 0,.nils,I 0]:List AV),Bel n y:=by
   intro y hy;simp only[List.mem_cons,List.not_mem_nil,or_false]at hy;rcases hy with rfl|rfl|rfl|rfl
   all_goals first|exact .pl _|exact .nils
  exact this _ (List.getElem_mem hi)
theorem zh0 {n:Nat} (hn:n<2^64) (b:Byt) (q:Nat×Bool):(runR (textR n) ⟨#[]⟩ b q).1.size≤n:=by
 unfold runR;split
 · exact Nat.zero_le _
 · split
   · exact Nat.zero_le _
   · rename_i p hp;exact((z1s hn).bwd _ p.1 p.2 hp).1
abbrev BzR:Ob:=.box [I 0,UN 0,.nils,I 0]
section
variable (σ:St)
theorem z3L (b:Byt) (hb:b.length≤50000):Ans Tryz.prog 29 [.sl 1 (byv b)] σ (rcW (rdRc b)) σ:=by
 have hbw:=z9R σ.length (rdRc b);unfold rdRc okRc at hbw⊢;rw[z4Y (zfo b) (zgZ _)]at hbw⊢
 have hS:rcS b (0,false)=(mkRc ((runR (numR 2147483647) 0 b (0,false)).1,(runR (numR 1099511627776) 0 b (runR (numR 2147483647) 0 b (0,false)).2).1,
   (runR (textR b.length) ⟨#[]⟩ b (runR (numR 1099511627776) 0 b (runR (numR 2147483647) 0 b (0,false)).2).2).1,
   (runR byteR 0 b (runR (textR b.length) ⟨#[]⟩ b (runR (numR 1099511627776) 0 b (runR (numR 2147483647) 0 b (0,false)).2).2).2).1),
   (runR byteR 0 b (runR (textR b.length) ⟨#[]⟩ b (runR (numR 1099511627776) 0 b (runR (numR 2147483647) 0 b (0,false)).2).2).2).2):=rfl
 rw[hS]at hbw⊢;have k1:=z2o (σ++[BzR,rob b (0,false)]) (σ.length+1) b (0,false) 2147483647 (by decide) (g1 _ _ _ _) (Inb0 b) hb
 have i1:=z0i (numR 2147483647) 0 b (0,false) (Inb0 b);have le1:=z2I (most:=2147483647) b (0,false);rw[s1]at k1;generalize runR (numR 2147483647) 0 b (0,false)=w at k1 i1 le1 hbw⊢;obtain⟨u,q1⟩:=w;simp only at k1 i1 le1 hbw⊢;have k2:=z2o (σ++[BzR,rob b q1]) (σ.length+1) b q1 1099511627776 (by decide) (g1 _ _ _ _) i1 hb
 have i2:=z0i (numR 1099511627776) 0 b q1 i1;rw[s1]at k2;generalize runR (numR 1099511627776) 0 b q1=w at k2 i2 hbw⊢;obtain⟨ck,q2⟩:=w;simp only at k2 i2 hbw⊢;have k3:=z3g (σ++[BzR,rob b q2]) (σ.length+1) b q2 b.length (by omega) (g1 _ _ _ _) i2 hb
 have i3:=z0i (textR b.length) ⟨#[]⟩ b q2 i2;have le3:=zh0 (n:=b.length) (by omega) b q2
 rw[s1]at k3;generalize runR (textR b.length) ⟨#[]⟩ b q2=w at k3 i3 le3 hbw⊢;obtain⟨s,q3⟩:=w;simp only at k3 i3 le3 hbw⊢;have k4:=z1n (σ++[BzR,rob b q3]) (σ.length+1) b q3 (g1 _ _ _ _) i3 hb;have i4:=z0i byteR 0 b q3 i3;rw[s1]at k4;generalize runR byteR 0 b q3=w at k4 i4 hbw⊢;obtain⟨c,a,bad⟩:=w;simp only at k4 i4 hbw⊢;have ke:=z3h (σ++[BzR,rob b (a,bad)]) (σ.length+1) b (a,bad) (g1 _ _ _ _);have ki:=z4t (σ++[BzR,rob b (a,bad)]) (mkRc (u,ck,s,c)) (by unfold mkRc;simp only;rw[z1E];omega)
 have w1:IntKind.i64.wrap (u:Int)=(u:Int):=wrapI (by omega)
 have wc:IntKind.i64.wrap (c.toNat:Int)=(c.toNat:Int):=wrapI (by have:=c.toNat_lt;omega)
 have e1:(((a:Nat):Int) != (b.length:Nat))= !decide (a=b.length):=by
  rw[bne];congr 1
  rw[Bool.eq_iff_iff];simp only[beq_iff_eq,decide_eq_true_eq];omega
 refine Ans.of_run' t29 (fun hbel _=>?_)
 simp -implicitDefEqProofs only[c29,r29,go_sem];refine CO.intro (z4G _ b) ?_;simp -implicitDefEqProofs only[go_sem,List.append_assoc,List.length_append];refine CO.intro k1 ?_;simp -implicitDefEqProofs only[go_sem,w1];refine CO.intro k2 ?_;simp -implicitDefEqProofs only[go_sem,z01];refine CO.intro k3 ?_;simp -implicitDefEqProofs only[go_sem,z6F];refine CO.intro k4 ?_;simp -implicitDefEqProofs only[go_sem,bc,wc];refine CO.intro ke ?_;have hz:rcV (mkRc (u,ck,s,c))=.agg [I (u:Nat),UN ck,.sl 1 (byv s.data.toList),I (c.toNat:Nat)]:=rfl;rw[hz]at ki;unfold rcW noRcV at hbw⊢
 cases bad with
 |true =>
  simp -implicitDefEqProofs only[go_sem,g0,s0];exact tr_ (σ':=σ) (ex:=[_,_]) rfl hbw hbel
 |false =>
  by_cases he:a=b.length
  · rw[decide_eq_true he]at e1 hbw⊢
    cases hR:rcIs (mkRc (u,ck,s,c)) with
    |true =>
     rw[hR]at ki;simp -implicitDefEqProofs only[go_sem,z01,e1,Bool.not_true];refine CO.intro ki ?_;simp only[Bool.not_false,Bool.true_and,if_true,Option.bind_some,hR,hz]at hbw⊢;simp -implicitDefEqProofs only[go_sem,g0,s0];exact tr_ (σ':=σ) (ex:=[_,_]) rfl hbw hbel
    |false =>
     rw[hR]at ki;simp -implicitDefEqProofs only[go_sem,z01,e1,Bool.not_true];refine CO.intro ki ?_;simp only[Bool.not_false,Bool.true_and,if_true,Option.bind_some,hR,Bool.false_eq_true,if_false]at hbw⊢;simp -implicitDefEqProofs only[go_sem,g0,s0];exact tr_ (σ':=σ) (ex:=[_,_]) rfl hbw hbel
  · rw[decide_eq_false he]at e1 hbw⊢;simp -implicitDefEqProofs only[go_sem,z01,e1,Bool.not_false,g0,s0];exact tr_ (σ':=σ) (ex:=[_,_]) rfl hbw hbel
end
def eqT (a b:ByteArray):Bool:=a.toList==b.toList
section
variable (σ:St)
end
def rcOf (u ck:Nat) (s:ByteArray) (c:UInt8):RcM:=⟨(u:Nat),ck,s.data.toList,(c.toNat:Nat)⟩
def endRc (u ck:Nat) (s:ByteArray):Byt→Option RcM
 |[c]=>if rcIs (rcOf u ck s c) then some (rcOf u ck s c) else none
 |_=>none
theorem zh1 (b:Byt):rdRc b=(numR 2147483647 b).bind fun p1=>(getN 0 p1.2).bind fun p2=>(textR b.length p2.2).bind fun p3=>endRc p1.1 p2.1 p3.1 p3.2:=by
 unfold rdRc okRc rcR;simp only[z0Z,seqR]
 cases numR 2147483647 b with
 |none=>rfl
 |some p1 =>
 simp only[Option.bind_some];have hn:numR 1099511627776 p1.2=(getN 0 p1.2).bind fun p=>if p.1≤1099511627776 then some p else none:=rfl
 rw[hn]
 cases getN 0 p1.2 with
 |none=>rfl
 |some p2 =>
 simp only[Option.bind_some];by_cases h:p2.1≤1099511627776
 · rw[if_pos h];simp only[Option.bind_some]
   cases textR b.length p2.2 with
   |none=>rfl
   |some p3 =>
   simp only[Option.bind_some]
   match p3.2 with
   |[]=>rfl
   |[c]=>rfl
   |c::d::t=>rfl
 · rw[if_neg h]
   cases textR b.length p2.2 with
   |none=>rfl
   |some p3 =>
   simp only[Option.bind_some,Option.bind_none,Option.map_none]
   match p3.2 with
   |[]=>rfl
   |c::d::t=>rfl
   |[c] =>
    have:rcIs (rcOf p1.1 p2.1 p3.1 c)=false:=by
     unfold rcIs rcOf;have:decide ((p2.1:Int)≤1099511627776)=false:=decide_eq_false (by omega)
     simp[this]
    simp only[endRc,this,wholeO];rfl
section
variable (σ:St)
theorem z9S (b:Byt) (hb:b.length≤50000):Ans Tryz.prog 30 [.sl 1 (byv b)] σ (rcW (rdRc b)) σ:=by
 rw[zh1];have k1:=z1r (σ++[BzR]) b (by omega)
 have hNB:Bel σ.length (.tup [noRcV,Bo false]):=z9R σ.length none
 cases h1:getN 0 b with
 |none =>
  have e1:numR 2147483647 b=none:=by simp only[numR,h1,Option.bind_none]
  rw[z0N h1]at k1;rw[e1];refine Ans.of_run' t30 (fun hbel _=>?_)
  simp -implicitDefEqProofs only[c30,r30,go_sem];refine CO.intro k1 ?_;unfold rcW noRcV;simp -implicitDefEqProofs only[go_sem,g0,s0];exact tr_ (σ':=σ) (ex:=[_]) rfl hNB hbel
 |some p1 =>
 obtain⟨u,t1⟩:=p1;rw[z0S h1]at k1;by_cases hu:u≤2147483647
 case neg =>
  have e1:numR 2147483647 b=none:=by simp only[numR,h1,Option.bind_some,if_neg hu]
  have d1:decide ((2147483647:Int)<(u:Int))=true:=decide_eq_true (by omega)
  rw[e1];refine Ans.of_run' t30 (fun hbel _=>?_)
  simp -implicitDefEqProofs only[c30,r30,go_sem];refine CO.intro k1 ?_;unfold rcW noRcV;simp -implicitDefEqProofs only[go_sem,d1,g0,s0];exact tr_ (σ':=σ) (ex:=[_]) rfl hNB hbel
 have e1:numR 2147483647 b=some (u,t1):=by simp only[numR,h1,Option.bind_some,if_pos hu]
 have d1:decide ((2147483647:Int)<(u:Int))=false:=decide_eq_false (by omega)
 obtain⟨dr1,_,le1⟩:=(ends_num 2147483647).drop (b:=b) (a:=0) (by omega) e1
 rw[e1];simp only[Option.bind_some];have l1:(((b.length-t1.length:Nat):Int)≤(b.length:Nat))=True:=eq_true (by omega)
 have k2:=z1r (σ++[BzR]) t1 (by omega)
 cases h2:getN 0 t1 with
 |none =>
  rw[z0N h2]at k2;refine Ans.of_run' t30 (fun hbel _=>?_)
  simp -implicitDefEqProofs only[c30,r30,go_sem];refine CO.intro k1 ?_;simp -implicitDefEqProofs only[go_sem,d1,z01,z0D,z0E,List.take_length,Int.le_refl,l1,dr1,Int.toNat_natCast];refine CO.intro k2 ?_;unfold rcW noRcV;simp -implicitDefEqProofs only[go_sem,g0,s0];exact tr_ (σ':=σ) (ex:=[_]) rfl hNB hbel
 |some p2 =>
 obtain⟨ck,t2⟩:=p2;rw[z0S h2]at k2;simp only[Option.bind_some];have f2:numR ck t1=some (ck,t2):=by simp only[numR,h2,Option.bind_some,if_pos (Nat.le_refl ck)]
 obtain⟨dr2,lo2,le2⟩:=(ends_num ck).drop (b:=b) (a:=b.length-t1.length) (by omega) (by rw[dr1];exact f2)
 have a2:IntKind.i64.wrap (((b.length-t1.length:Nat):Int)+((t1.length-t2.length:Nat):Int))=((b.length-t2.length:Nat):Int):=by
  rw[wrapN (by omega) (by omega)];omega
 have l2:(((b.length-t2.length:Nat):Int)≤(b.length:Nat))=True:=eq_true (by omega)
 have k3:=z1q (σ++[BzR]) t2 b.length (by omega) (by omega)
 have hbp:0<b.length:=by
  cases b with
  |nil=>cases h1
  |cons _ _=>simp
 have ws:IntKind.i64.wrap (((b.length:Nat):Int)-1)=((b.length-1:Nat):Int):=by
  rw[show((b.length:Nat):Int)-1=((b.length-1:Nat):Int) by omega]
  exact wrapI (by omega)
 cases h3:textR b.length t2 with
 |none =>
  rw[z0Q h3]at k3;simp only[Option.bind_none];refine Ans.of_run' t30 (fun hbel _=>?_)
  simp -implicitDefEqProofs only[c30,r30,go_sem];refine CO.intro k1 ?_;simp -implicitDefEqProofs only[go_sem,d1,z01,z0D,z0E,List.take_length,Int.le_refl,l1,dr1,Int.toNat_natCast];refine CO.intro k2 ?_;simp -implicitDefEqProofs only[go_sem,a2,z01,z0D,z0E,List.take_length,Int.le_refl,l2,dr2,Int.toNat_natCast];refine CO.intro k3 ?_
  have a3:IntKind.i64.wrap (((b.length-t2.length:Nat):Int)+0)=((b.length-t2.length:Nat):Int):=by
   rw[Int.add_zero];exact wrapI (by omega)
  unfold rcW noRcV;simp -implicitDefEqProofs only[go_sem,a3,g0,s0];exact tr_ (σ':=σ) (ex:=[_]) rfl hNB hbel
 |some p3 =>
 obtain⟨s,t3⟩:=p3;rw[z1v h3]at k3;simp only[Option.bind_some];obtain⟨dr3,lo3,le3⟩:=(z0T b.length).drop (b:=b) (a:=b.length-t2.length) (by omega) (by rw[dr2];exact h3)
 have hs3:=((z1s (most:=b.length) (by omega)).bwd _ s t3 h3).1
 have a3:IntKind.i64.wrap (((b.length-t2.length:Nat):Int)+((t2.length-t3.length:Nat):Int))=((b.length-t3.length:Nat):Int):=by
  rw[wrapN (by omega) (by omega)];omega
 have hq:t3.length≤t2.length:=by omega
 by_cases hl:t3.length=1
 · obtain⟨c,rfl⟩:∃c,t3=[c]:=by
    cases t3 with
    |nil=>cases hl
    |cons c t=>cases t with
     |nil=>exact⟨c,rfl⟩
     |cons _ _=>simp at hl
   have d3:(((b.length-[c].length:Nat):Int) != ((b.length-1:Nat):Int))=false:=by simp
   have hx:(byv b)[b.length-1]?=some (bc c):=by
    have:b[b.length-1]?=some c:=by
     have h:=congrArg (fun l=>l[0]?) dr3
     simp only[List.getElem?_drop,List.length_singleton,List.getElem?_cons_zero]at h;simpa using h
    simp only[byv,List.getElem?_map,this];rfl
   have hlt:(((b.length-1:Nat):Int)<(b.length:Nat))=True:=eq_true (by omega)
   have wu:IntKind.i64.wrap (u:Int)=(u:Int):=wrapI (by omega)
   have wc:IntKind.i64.wrap (c.toNat:Int)=(c.toNat:Int):=wrapI (by have:=c.toNat_lt;omega)
   have ki:=z4u (σ++[BzR]) (rcOf u ck s c) (by unfold rcOf;simp only;rw[z1E];omega)
   simp only[List.length_singleton]at a3 d3 k3;have hz:rcV (rcOf u ck s c)=.agg [I (u:Nat),UN ck,.sl 1 (byv s.data.toList),I (c.toNat:Nat)]:=rfl;have he:endRc u ck s [c]=if rcIs (rcOf u ck s c) then some (rcOf u ck s c) else none:=rfl
   rw[he];rw[hz]at ki;refine Ans.of_run' t30 (fun hbel _=>?_)
   simp -implicitDefEqProofs only[c30,r30,go_sem];refine CO.intro k1 ?_;simp -implicitDefEqProofs only[go_sem,d1,z01,z0D,z0E,List.take_length,Int.le_refl,l1,dr1,Int.toNat_natCast];refine CO.intro k2 ?_;simp -implicitDefEqProofs only[go_sem,a2,z01,z0D,z0E,List.take_length,Int.le_refl,l2,dr2,Int.toNat_natCast];refine CO.intro k3 ?_;simp -implicitDefEqProofs only[go_sem,a3,ws,d3,z01,z6F,hx,hlt,bc,wu,wc,List.length_singleton,Int.toNat_natCast];refine CO.intro ki ?_
   cases hR:rcIs (rcOf u ck s c) with
   |true =>
    have hbw:=z9R σ.length (some (rcOf u ck s c));unfold rcW at hbw⊢;simp only[if_true,hz]at hbw⊢;simp -implicitDefEqProofs only[go_sem,g0,s0];exact tr_ (σ':=σ) (ex:=[_]) rfl hbw hbel
   |false =>
    unfold rcW noRcV;simp only[Bool.false_eq_true,if_false];simp -implicitDefEqProofs only[go_sem,g0,s0];exact tr_ (σ':=σ) (ex:=[_]) rfl hNB hbel
 · have d3:(((b.length-t3.length:Nat):Int) != ((b.length-1:Nat):Int))=true:=by
    rw[bne,neI (by omega)];rfl
   have he:endRc u ck s t3=none:=by
    match t3,hl with
    |[],_=>rfl
    |[c],hl=>exact absurd rfl hl
    |c::d::t,_=>rfl
   rw[he];refine Ans.of_run' t30 (fun hbel _=>?_)
   simp -implicitDefEqProofs only[c30,r30,go_sem];refine CO.intro k1 ?_;simp -implicitDefEqProofs only[go_sem,d1,z01,z0D,z0E,List.take_length,Int.le_refl,l1,dr1,Int.toNat_natCast];refine CO.intro k2 ?_;simp -implicitDefEqProofs only[go_sem,a2,z01,z0D,z0E,List.take_length,Int.le_refl,l2,dr2,Int.toNat_natCast];refine CO.intro k3 ?_;unfold rcW noRcV;simp -implicitDefEqProofs only[go_sem,a3,ws,d3,z01,g0,s0];exact tr_ (σ':=σ) (ex:=[_]) rfl hNB hbel
def z8Y (x y:RcM):Bool:=(x.ix==y.ix)&&(((x.ck:Int)==(y.ck:Int))&&((eqT ⟨x.bd.toArray⟩ ⟨y.bd.toArray⟩)&&(x.cd==y.cd)))
theorem z73 {x y:Int} {v:Bool} (h:(x==y)=v):(x != y)= !v:=by rw[bne,h]
theorem z74 (x y:RcM):Ans Tryz.prog 31 [rcV x,rcV y] σ (Bo (z8Y x y)) σ:=by
 obtain⟨i,k,b,c⟩:=x;obtain⟨i',k',b',c'⟩:=y
 have hk:Ans Tryz.prog 84 [.sl 4 [.agg [I i,UN k,.sl 1 (byv b),I c]],.sl 4 [.agg [I i',UN k',.sl 1 (byv b'),I c']]] σ (Bo (z8Y ⟨i,k,b,c⟩ ⟨i',k',b',c'⟩)) σ:=by
  unfold z8Y eqT;simp only;have z1:(((1:Nat):Int) != ((1:Nat):Int))=false:=rfl;have z2:decide ((0:Int)<((1:Nat):Int))=true:=rfl;have z3:decide ((1:Int)<((1:Nat):Int))=false:=rfl;have z4:((0:Int)<((1:Nat):Int))=True:=eq_true (by decide)
  have z5:IntKind.i64.wrap ((0:Int)+1)=1:=rfl;have z6:Int.toNat 0=0:=rfl;refine Ans.of_run t84 ?_;simp -implicitDefEqProofs only[c84,r84,go_sem,z1];refine L.step fun J hJ=>?_
  have z7:=z1j;have z8:=z17
  cases h0:(i==i') with
  |false =>
   have e0:=z73 h0;simp -implicitDefEqProofs only[go_sem,z2,z4,z6,h0,e0];exact Fini.ret rfl
  |true =>
  have e0:=z73 h0
  cases h1:((k:Int)==(k':Int)) with
  |false =>
   have e1:=z73 h1;simp -implicitDefEqProofs only[go_sem,z2,z4,z6,h0,e0,h1,e1,Bool.not_true,Bool.not_false];exact Fini.ret rfl
  |true =>
  have e1:=z73 h1
  cases h2:((⟨b.toArray⟩:ByteArray).toList==(⟨b'.toArray⟩:ByteArray).toList) with
  |false =>
   simp -implicitDefEqProofs only[go_sem,z2,z4,z6,h0,e0,h1,e1,h2,Bool.not_true,Bool.not_false,z0l,bc,z7,z8,AV.isStr];exact Fini.ret rfl
  |true =>
  cases h3:(c==c') with
  |false =>
   have e3:=z73 h3;simp -implicitDefEqProofs only[go_sem,z2,z4,z6,h0,e0,h1,e1,h2,h3,e3,Bool.not_true,Bool.not_false,z0l,bc,z7,z8,AV.isStr];exact Fini.ret rfl
  |true =>
  have e3:=z73 h3;simp -implicitDefEqProofs only[go_sem,z2,z4,z6,h0,e0,h1,e1,h2,h3,e3,Bool.not_true,Bool.not_false,z0l,bc,z7,z8,AV.isStr,z5];refine hJ _ _ ?_;refine L.step fun J' hJ'=>?_
  simp -implicitDefEqProofs only[go_sem,z3,h0,h1,h2,h3];exact Fini.ret rfl
 refine Ans.of_run t31 ?_;unfold rcV rcC;simp -implicitDefEqProofs only[c31,r31,go_sem];refine CO.intro hk ?_;simp -implicitDefEqProofs only[go_sem];exact Fini.ret rfl
theorem z6h (x:RcM):z8Y x x=true:=by simp[z8Y,eqT]
end
def oneRc:RcM:=⟨0,3,[1],0⟩
theorem zfT:rcIs oneRc=true:=by kernel_rfl
theorem zdF:z1S oneRc=[0,3,1,1,0]:=by
 unfold z1S putRc txtB;rw[if_pos zfT,z2n (n:=oneRc.ix.toNat) (by decide),z2n (n:=oneRc.ck) (by decide),z2n (n:=(⟨oneRc.bd.toArray⟩:ByteArray).size) (by decide)]
 rfl
theorem zfp:rdRc [0,3,1,1,0]=some oneRc:=by kernel_rfl
theorem zfq:rdRc [0,3,1,99,0]=none:=by kernel_rfl
theorem rd_b (σ:St):Ans Tryz.prog 24 [] σ (Bo true) σ:=by
 have q1:=fun s=>(z3L s [0,3,1,1,0] (by decide)).subR (z8X _)
 have q2:=fun s=>(z3L s [0,3,1,99,0] (by decide)).subR (z8X _)
 rw[zfp]at q1;rw[zfq]at q2;have p1:=fun s=>z45 s oneRc (by decide)
 have p2:=fun s=>z4t s oneRc (by decide)
 rw[zdF]at p1;rw[zfT]at p2;have w1:rcT (some oneRc)=.tup [rcV oneRc,Bo true]:=rfl;have w2:rcT none=.tup [rcV noRc,Bo false]:=rfl;rw[w1]at q1;rw[w2]at q2;unfold oneRc noRc rcV rcC at *;simp only[byv,List.map_cons,List.map_nil]at q1 q2;obtain⟨B1,e1⟩:∃B:Byt,B=[0,3,1,1,0]:=⟨_,rfl⟩;have h1:((⟨B1.toArray⟩:ByteArray).toList==(ByteArray.mk #[0,3,1,1,0]).toList)=true:=by rw[e1];decide +kernel
 have h2:((textOf [1]).toList==(ByteArray.mk #[1]).toList)=true:=by decide +kernel
 rw[←e1]at p1;have q1':∀s,Ans Tryz.prog 29 [.sl 1 [.pl (.int .u8 0),.pl (.int .u8 3),.pl (.int .u8 1),.pl (.int .u8 1),.pl (.int .u8 0)]] s (.tup [.agg [I 0,.pl (.int .u64 3),.sl 1 [.pl (.int .u8 1)],I 0],Bo true]) s:=q1;have q2':∀s,Ans Tryz.prog 29 [.sl 1 [.pl (.int .u8 0),.pl (.int .u8 3),.pl (.int .u8 1),.pl (.int .u8 99),.pl (.int .u8 0)]] s (.tup [.agg [I 0,.pl (.int .u64 0),.sl 1 [],I 0],Bo false]) s:=q2;have p1':∀s,Ans Tryz.prog 27 [.agg [.pl (.int .i64 0),.pl (.int .u64 3),.sl 1 [.pl (.int .u8 1)],.pl (.int .i64 0)]] s (.sl 1 (byv B1)) s:=p1;have p2':∀s,Ans Tryz.prog 25 [.agg [.pl (.int .i64 0),.pl (.int .u64 3),.sl 1 [.pl (.int .u8 1)],.pl (.int .i64 0)]] s (Bo true) s:=p2;have h4:byteL [AV.pl (.int .u8 1)]=some [1]:=rfl;refine Ans.of_run t24 ?_;simp -implicitDefEqProofs only[c24,r24,go_sem,List.append_assoc,List.cons_append,List.nil_append,List.length_append,List.length_cons,List.length_nil,g0,s0,g1,s1,g2,s2,g3,s3];refine CO.intro (q1' _) ?_;simp -implicitDefEqProofs only[go_sem,List.append_assoc,List.cons_append,List.nil_append,List.length_append,List.length_cons,List.length_nil,g0,s0,g1,s1,g2,s2,g3,s3];refine CO.intro (q2' _) ?_;simp -implicitDefEqProofs only[go_sem,List.append_assoc,List.cons_append,List.nil_append,List.length_append,List.length_cons,List.length_nil,g0,s0,g1,s1,g2,s2,g3,s3];refine CO.intro (p1' _) ?_
 simp -implicitDefEqProofs only[go_sem,List.append_assoc,List.cons_append,List.nil_append,List.length_append,List.length_cons,List.length_nil,g0,s0,g1,s1,g2,s2,g3,s3,z0l,bc,z1j,z17,AV.isStr,h1,h2,h4];refine CO.intro (p2' _) ?_;simp -implicitDefEqProofs only[go_sem,List.append_assoc,List.cons_append,List.nil_append,List.length_append,List.length_cons,List.length_nil,g0,s0,g1,s1,g2,s2,g3,s3];exact Fini.ret rfl
end Go.Proofs.YtmkmhhjkdaklbaaGreat
namespace Go.Proofs.YtmkmhhjkdaklbaaGreat
open Go Go.Ab
set_option maxRecDepth 100000
def c5:ACode :=
 (sq_ [pr_ 1 (.boxr (.tmp 0)),
 pr_ 2 mf_]
 (.seq (sq_ [pr_ 3 (fa_ 2 1),
 pr_ 4 (lf_ 1 3),
 pr_ 5 (.lenv (.tmp 4)),
 pr_ 6 (bk_ .gtr 5 .i64 800)]
 (.cond (.tmp 6)
 (sq_ [cl_ 7 24 [],
 mv_ 2 7]
 .ret)
 .skip))
 (.seq (.draw [⟨pr_ 8 (lt_ 4 1),[],false,0,0⟩,
 ⟨c1_ 9 25 8,[0],true,0,0⟩,
 ⟨pr_ 10 (lt_ 4 1),[],false,0,1⟩,
 ⟨c1_ 11 26 10,[0,1,2],true,0,0⟩,
 ⟨pr_ 12 (.bin true .eql (.tmp 9) (.tmp 11)),[0,1,2,3],false,2,2⟩,
 ⟨mv_ 13 12,[0,1,2,3,4],false,2,2⟩,
 ⟨gp_ 14 13 true (lt_ 4 1),(List.range 6),false,2,2⟩,
 ⟨gc_ 15 13 true 27 [(.tmp 14)],(List.range 7),true,0,0⟩,
 ⟨gp_ 16 13 true (.b2s (.tmp 15)),(List.range 8),false,3,4⟩,
 ⟨gp_ 17 13 true (lt_ 4 1),(List.range 6),false,2,3⟩,
 ⟨gc_ 18 13 true 28 [(.tmp 17)],[0,1,2,3,4,5,6,7,9],true,0,0⟩,
 ⟨gp_ 19 13 true (.b2s (.tmp 18)),[0,1,2,3,4,5,6,7,9,10],false,4,4⟩,
 ⟨gp_ 20 13 true (bt_ .eql 16 19),(List.range 12),false,4,4⟩,
 ⟨pr_ 21 (pa_ 13 20),(List.range 13),false,4,4⟩,
 ⟨mv_ 22 21,(List.range 14),false,4,4⟩,
 ⟨gc_ 23 22 true 24 [],(List.range 15),true,0,0⟩,
 ⟨pr_ 24 (pa_ 22 23),(List.range 16),false,5,5⟩,
 ⟨mv_ 2 24,(List.range 17),false,5,5⟩])
 .ret)))
def o5:List Tmp:=[]
def r5:List RV:=[.tmp 2]
theorem t5:Text Tryz.prog 5 o5 c5 r5 25:=.mk_ Tryz.f5 rfl
def c6:ACode :=
 (sq_ [pr_ 2 mf_]
 (.seq (sq_ [mv_ 7 0,
 pr_ 8 (.lenv (.tmp 7)),
 pr_ 9 (bk_ .gtr 8 .i64 800)]
 (.cond (.tmp 9)
 (sq_ [cl_ 10 24 [],
 mv_ 2 10]
 .ret)
 .skip))
 (sq_ [mv_ 12 0,
 c1_ 13 29 12,
 mv_ 11 13,
 pr_ 14 (ex_ 0 11),
 pr_ 15 (ex_ 1 11),
 ⟨some 3,none,.fresh 4 3 (.tmp 14)⟩,
 mv_ 4 15]
 (sq_ [mv_ 17 0,
 c1_ 18 30 17,
 mv_ 16 18,
 pr_ 19 (ex_ 0 16),
 pr_ 20 (ex_ 1 16),
 ⟨some 5,none,.fresh 4 5 (.tmp 19)⟩,
 mv_ 6 20]
 (sq_ [mv_ 21 4,
 mv_ 22 6,
 pr_ 23 (.bin true .eql (.tmp 21) (.tmp 22)),
 mv_ 24 23,
 gp_ 25 24 true (lt_ 4 3),
 gp_ 26 24 true (lt_ 4 5),
 gc_ 27 24 true 31 [(.tmp 25),(.tmp 26)],
 pr_ 28 (pa_ 24 27),
 mv_ 29 28,
 gc_ 30 29 true 24 [],
 pr_ 31 (pa_ 29 30),
 mv_ 2 31]
 .ret)))))
def o6:List Tmp:=[]
def r6:List RV:=[.tmp 2]
theorem t6:Text Tryz.prog 6 o6 c6 r6 32:=.mk_ Tryz.f6 rfl
def c7:ACode :=
 (sq_ [pr_ 6 (.boxr (.tmp 2)),
 pr_ 8 mf_]
 (sq_ [mv_ 13 0,
 mv_ 14 1,
 pr_ 15 (lt_ 19 6),
 mv_ 16 3,
 cl_ 17 32 [(.tmp 13),(.tmp 14),(.tmp 15),(.tmp 16)],
 ⟨some 9,none,.fresh 4 9 (.tmp 17)⟩]
 (sq_ [pr_ 18 (lt_ 4 9),
 c1_ 19 27 18,
 mv_ 10 19]
 (sq_ [mv_ 21 10,
 c1_ 22 29 21,
 mv_ 20 22,
 pr_ 23 (ex_ 0 20),
 pr_ 24 (ex_ 1 20),
 ⟨some 11,none,.fresh 4 11 (.tmp 23)⟩,
 mv_ 12 24]
 (.seq (.draw [⟨pr_ 25 (lt_ 4 9),[],false,0,0⟩,
 ⟨c1_ 26 25 25,[0],true,0,0⟩,
 ⟨pr_ 27 (lt_ 4 9),[],false,0,1⟩,
 ⟨c1_ 28 26 27,[0,1,2],true,0,0⟩,
 ⟨pr_ 29 (.bin true .eql (.tmp 26) (.tmp 28)),[0,1,2,3],false,2,2⟩,
 ⟨mv_ 30 29,[0,1,2,3,4],false,2,2⟩,
 ⟨gp_ 31 30 true (mo_ 10),(List.range 6),false,2,3⟩,
 ⟨gp_ 32 30 true (.b2s (.tmp 31)),(List.range 7),false,2,3⟩,
 ⟨gp_ 33 30 true (lt_ 4 9),(List.range 6),false,2,2⟩,
 ⟨gc_ 34 30 true 28 [(.tmp 33)],[0,1,2,3,4,5,8],true,0,0⟩,
 ⟨gp_ 35 30 true (.b2s (.tmp 34)),[0,1,2,3,4,5,8,9],false,3,3⟩,
 ⟨gp_ 36 30 true (bt_ .eql 32 35),(List.range 11),false,3,3⟩,
 ⟨pr_ 37 (pa_ 30 36),(List.range 12),false,3,3⟩,
 ⟨mv_ 38 37,(List.range 13),false,3,3⟩,
 ⟨gp_ 39 38 true (mo_ 12),(List.range 14),false,3,4⟩,
 ⟨gp_ 40 38 true (lt_ 4 9),(List.range 14),false,3,3⟩,
 ⟨gc_ 41 38 true 25 [(.tmp 40)],[0,1,2,3,4,5,6,7,8,9,10,11,12,13,15],true,0,0⟩,
 ⟨gp_ 42 38 true (.bin true .eql (.tmp 39) (.tmp 41)),(List.range 17),false,4,4⟩,
 ⟨pr_ 43 (pa_ 38 42),(List.range 18),false,4,4⟩,
 ⟨mv_ 44 43,(List.range 19),false,4,4⟩,
 ⟨gp_ 45 44 true (mo_ 12),(List.range 20),false,4,4⟩,
 ⟨gp_ 46 44 true (no_ 45),(List.range 21),false,4,4⟩,
 ⟨gp_ 47 44 true (mo_ 46),(List.range 22),false,4,4⟩,
 ⟨gp_ 48 47 false (lt_ 4 11),(List.range 23),false,4,4⟩,
 ⟨gp_ 49 47 false (lt_ 4 9),(List.range 23),false,4,4⟩,
 ⟨gc_ 50 47 false 31 [(.tmp 48),(.tmp 49)],(List.range 25),true,0,0⟩,
 ⟨gp_ 51 44 true (po_ 47 50),(List.range 26),false,5,5⟩,
 ⟨pr_ 52 (pa_ 44 51),(List.range 27),false,5,5⟩,
 ⟨mv_ 53 52,(List.range 28),false,5,5⟩,
 ⟨gc_ 54 53 true 24 [],(List.range 29),true,0,0⟩,
 ⟨pr_ 55 (pa_ 53 54),(List.range 30),false,6,6⟩,
 ⟨mv_ 8 55,(List.range 31),false,6,6⟩])
 .ret)))))
def o7:List Tmp:=[]
def r7:List RV:=[.tmp 8]
theorem t7:Text Tryz.prog 7 o7 c7 r7 56:=.mk_ Tryz.f7 rfl
end Go.Proofs.YtmkmhhjkdaklbaaGreat
namespace Go.Proofs.YtmkmhhjkdaklbaaGreat
open Go Go.Ab Go.Cod
set_option maxRecDepth 100000
theorem zbO (b:Bool):(b==b)=true:=by cases b<;>rfl
theorem zfr (o:Option RcM):∃(x:RcM) (ok:Bool),rcT o=.tup [rcV x,Bo ok]:=by
 cases o with
 |none=>exact⟨noRc,false,rfl⟩
 |some x=>exact⟨x,true,rfl⟩
theorem z6i (b:Byt):Ans Tryz.prog 6 [.sl 1 (byv b)] [] (.pl (.bool true)) []:=by
 have d8:decide ((800:Int)<b.length)=decide (800<b.length):=decNN 800 _;refine Ans.of_run t6 ?_;by_cases h8:800<b.length
 · rw[decide_eq_true h8]at d8;simp -implicitDefEqProofs only[c6,r6,go_sem,z01,d8];refine CO.intro (rd_b _) ?_;simp -implicitDefEqProofs only[go_sem];exact Fini.ret rfl
 · rw[decide_eq_false h8]at d8;have p1:=fun s=>(z3L s b (by omega)).subR (z8X _)
   have p2:=fun s=>(z9S s b (by omega)).subR (z8X _)
   obtain⟨x,ok,hv⟩:=zfr (rdRc b);rw[hv]at p1 p2;have s1:=fun s=>z74 s x x
   rw[z6h]at s1;have e0:=zbO;unfold rcV rcC at *;simp -implicitDefEqProofs only[c6,r6,go_sem,z01,d8];refine CO.intro (p1 _) ?_;simp -implicitDefEqProofs only[go_sem];refine CO.intro (p2 _) ?_;simp -implicitDefEqProofs only[go_sem,e0];refine CO.intro (s1 _) ?_;simp -implicitDefEqProofs only[go_sem];refine CO.intro (rd_b _) ?_;simp -implicitDefEqProofs only[go_sem];exact Fini.ret rfl
end Go.Proofs.YtmkmhhjkdaklbaaGreat
