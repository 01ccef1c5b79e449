/- What the functions do, over abstract values: printed by a program, checked by the kernel. No condition. -/
import Derived.Test.YtmkmhhjkdaklbaaProg
import Derived.Test.YtmkmhhjkdaklbaaAbStep
import Derived.Test.YtmkmhhjkdaklbaaAbSX
import Derived.Test.YtmkmhhjkdaklbaaAbArg
set_option linter.unusedSimpArgs false
set_option linter.unusedVariables false
set_option linter.unusedSectionVars false
namespace Go.Proofs.Ytmkmhhjkdaklbaa
open Go Go.Ab
set_option maxRecDepth 100000
def c3:ACode :=
 (sq_ [pr_ 2 mf_]
 (.seq (sq_ [mv_ 7 0,
 pr_ 8 (.lenv (.tmp 7)),
 pr_ 9 (bk_ .gtr 8 .i64 800)]
 (.cond (.tmp 9)
 (sq_ [cl_ 10 4 [],
 mv_ 2 10]
 .ret)
 .skip))
 (sq_ [mv_ 12 0,
 c1_ 13 5 12,
 mv_ 11 13,
 pr_ 14 (ex_ 0 11),
 pr_ 15 (ex_ 1 11),
 ⟨some 3,none,.fresh 19 3 (.tmp 14)⟩,
 mv_ 4 15]
 (sq_ [mv_ 17 0,
 c1_ 18 6 17,
 mv_ 16 18,
 pr_ 19 (ex_ 0 16),
 pr_ 20 (ex_ 1 16),
 ⟨some 5,none,.fresh 19 5 (.tmp 19)⟩,
 mv_ 6 20]
 (.seq (.seq (.draw [⟨mv_ 21 4,[],false,0,1⟩,
 ⟨pr_ 22 (lt_ 19 3),[],false,0,0⟩,
 ⟨c1_ 23 7 22,[1],true,0,0⟩,
 ⟨pr_ 24 (.bin true .neq (.tmp 21) (.tmp 23)),[0,1,2],false,1,1⟩,
 ⟨mv_ 25 24,[0,1,2,3],false,1,1⟩,
 ⟨gp_ 26 25 false (mo_ 4),[0,1,2,3,4],false,1,1⟩,
 ⟨gp_ 27 25 false (mo_ 26),(List.range 6),false,1,1⟩,
 ⟨gp_ 28 27 true (lt_ 19 3),(List.range 7),false,1,1⟩,
 ⟨gc_ 29 27 true 8 [(.tmp 28)],(List.range 8),true,0,0⟩,
 ⟨gp_ 30 27 true (.b2s (.tmp 29)),(List.range 9),false,2,2⟩,
 ⟨gp_ 31 27 true (mo_ 0),(List.range 7),false,1,2⟩,
 ⟨gp_ 32 27 true (.b2s (.tmp 31)),[0,1,2,3,4,5,6,10],false,1,2⟩,
 ⟨gp_ 33 27 true (bt_ .neq 30 32),(List.range 12),false,2,2⟩,
 ⟨gp_ 34 25 false (pa_ 27 33),(List.range 13),false,2,2⟩,
 ⟨pr_ 35 (po_ 25 34),(List.range 14),false,2,2⟩,
 ⟨mv_ 36 35,(List.range 15),false,2,2⟩,
 ⟨gp_ 37 36 false (mo_ 6),(List.range 16),false,2,2⟩,
 ⟨gp_ 38 36 false (mo_ 37),(List.range 17),false,2,2⟩,
 ⟨gp_ 39 38 true (lt_ 19 5),(List.range 18),false,2,2⟩,
 ⟨gc_ 40 38 true 9 [(.tmp 39)],(List.range 19),true,0,0⟩,
 ⟨gp_ 41 38 true (.b2s (.tmp 40)),(List.range 20),false,3,3⟩,
 ⟨gp_ 42 38 true (mo_ 0),(List.range 18),false,2,3⟩,
 ⟨gp_ 43 38 true (.b2s (.tmp 42)),[0,1,2,3,4,5,6,7,8,9,10,11,12,13,14,15,16,17,21],false,2,3⟩,
 ⟨gp_ 44 38 true (bt_ .neq 41 43),(List.range 23),false,3,3⟩,
 ⟨gp_ 45 38 true (mo_ 44),(List.range 24),false,3,3⟩,
 ⟨gp_ 46 45 false (fa_ 0 5),(List.range 25),false,3,3⟩,
 ⟨gp_ 47 45 false (lf_ 1 46),(List.range 26),false,3,3⟩,
 ⟨gp_ 48 45 false (.bin false .neq (.tmp 47) (.const (.string (ByteArray.mk #[])))),(List.range 27),false,3,3⟩,
 ⟨gp_ 49 38 true (po_ 45 48),(List.range 28),false,3,3⟩,
 ⟨gp_ 50 36 false (pa_ 38 49),(List.range 29),false,3,3⟩,
 ⟨pr_ 51 (po_ 36 50),(List.range 30),false,3,3⟩,
 ⟨mv_ 52 51,(List.range 31),false,3,3⟩,
 ⟨gp_ 53 52 false (mo_ 6),(List.range 32),false,3,3⟩,
 ⟨gp_ 54 52 false (no_ 53),(List.range 33),false,3,3⟩,
 ⟨gp_ 55 52 false (mo_ 54),(List.range 34),false,3,3⟩,
 ⟨gp_ 56 55 true (fa_ 1 5),(List.range 35),false,3,3⟩,
 ⟨gp_ 57 55 true (lf_ 1 56),(List.range 36),false,3,3⟩,
 ⟨gp_ 58 55 true (bk_ .neq 57 .i64 0),(List.range 37),false,3,3⟩,
 ⟨gp_ 59 52 false (pa_ 55 58),(List.range 38),false,3,3⟩,
 ⟨pr_ 60 (po_ 52 59),(List.range 39),false,3,3⟩])
 (.cond (.tmp 60)
 (sq_ [pr_ 2 mf_]
 .ret)
 .skip))
 (sq_ [cl_ 61 4 [],
 mv_ 2 61]
 .ret))))))
def o3:List Tmp:=[]
def r3:List RV:=[.tmp 2]
theorem t3:Text Try.prog 3 o3 c3 r3 62:=.mk_ Try.f3 rfl
def c4:ACode :=
 (sq_ [pr_ 0 mf_]
 (sq_ [pr_ 6 (.build z19_ [(0,1,(.const (.string (ByteArray.mk #[114,111,111,116])))),(1,1,(.const (.int .i64 1)))]),
 ⟨some 1,none,.fresh 19 1 (.tmp 6)⟩]
 (sq_ [pr_ 8 (.bsl true 1 false 6 [.pl (.int .u8 0)] [(0,1,(.const (.int .u8 4))),(1,1,(.const (.int .u8 114))),(2,1,(.const (.int .u8 111))),(3,1,(.const (.int .u8 111))),(4,1,(.const (.int .u8 116))),(5,1,(.const (.int .u8 1)))]),
 pr_ 9 (.strm (.tmp 8)),
 c1_ 10 5 9,
 mv_ 7 10,
 pr_ 11 (ex_ 0 7),
 pr_ 12 (ex_ 1 7),
 ⟨some 2,none,.fresh 19 2 (.tmp 11)⟩,
 mv_ 3 12]
 (sq_ [pr_ 14 (.bsl true 1 false 7 [.pl (.int .u8 0)] [(0,1,(.const (.int .u8 4))),(1,1,(.const (.int .u8 114))),(2,1,(.const (.int .u8 111))),(3,1,(.const (.int .u8 111))),(4,1,(.const (.int .u8 116))),(5,1,(.const (.int .u8 1))),(6,1,(.const (.int .u8 0)))]),
 pr_ 15 (.strm (.tmp 14)),
 c1_ 16 5 15,
 mv_ 13 16,
 pr_ 17 (ex_ 0 13),
 pr_ 18 (ex_ 1 13),
 ⟨some 4,none,.fresh 19 4 (.tmp 17)⟩,
 mv_ 5 18]
 (sq_ [pr_ 19 (lt_ 19 1),
 c1_ 20 8 19,
 pr_ 21 (.b2s (.tmp 20)),
 pr_ 22 (.bin false .eql (.tmp 21) (.const (.string (ByteArray.mk #[4,114,111,111,116,1])))),
 mv_ 23 22,
 gp_ 24 23 true (mo_ 3),
 pr_ 25 (pa_ 23 24),
 mv_ 26 25,
 gp_ 27 26 true (fa_ 0 2),
 gp_ 28 26 true (lf_ 1 27),
 gp_ 29 26 true (.bin false .eql (.tmp 28) (.const (.string (ByteArray.mk #[114,111,111,116])))),
 pr_ 30 (pa_ 26 29),
 mv_ 31 30,
 gp_ 32 31 true (fa_ 1 2),
 gp_ 33 31 true (lf_ 1 32),
 gp_ 34 31 true (bk_ .eql 33 .i64 1),
 pr_ 35 (pa_ 31 34),
 mv_ 36 35,
 gp_ 37 36 true (mo_ 5),
 gp_ 38 36 true (no_ 37),
 pr_ 39 (pa_ 36 38),
 mv_ 40 39,
 gp_ 41 40 true (lt_ 19 1),
 gc_ 42 40 true 7 [(.tmp 41)],
 pr_ 43 (pa_ 40 42),
 mv_ 44 43,
 gp_ 45 44 true (lt_ 19 1),
 gc_ 46 44 true 9 [(.tmp 45)],
 gp_ 47 44 true (.b2s (.tmp 46)),
 gp_ 48 44 true (.bin false .eql (.tmp 47) (.const (.string (ByteArray.mk #[1])))),
 pr_ 49 (pa_ 44 48),
 mv_ 0 49]
 .ret)))))
def o4:List Tmp:=[8,14]
def r4:List RV:=[.tmp 0]
theorem t4:Text Try.prog 4 o4 c4 r4 50:=.mk_ Try.f4 rfl
def c5:ACode :=
 (sq_ [pr_ 2 (.allocm z19_),
 pr_ 3 mf_]
 (sq_ [mv_ 7 0,
 c1_ 8 10 7,
 mv_ 4 8]
 (sq_ [mv_ 9 4,
 cl_ 10 11 [(.tmp 9),(.const (.int .i64 16))],
 mv_ 5 10]
 (sq_ [mv_ 11 4,
 mv_ 12 5,
 c1_ 13 13 12,
 cl_ 14 12 [(.tmp 11),(.tmp 13)]]
 (sq_ [mv_ 15 4,
 c1_ 16 14 15,
 pr_ 6 (.allocm z19_),
 st_ (so_ 19 6 16)]
 (sq_ [mv_ 17 5,
 pr_ 18 (fa_ 0 6),
 st_ (so_ 1 18 17)]
 (sq_ [pr_ 19 (lt_ 19 6),
 mv_ 20 4,
 mv_ 21 0,
 cl_ 22 15 [(.tmp 19),(.tmp 20),(.tmp 21)],
 pr_ 23 (ex_ 0 22),
 pr_ 24 (ex_ 1 22),
 st_ (so_ 19 2 23),
 mv_ 3 24]
 .ret)))))))
def o5:List Tmp:=[2,6]
def r5:List RV:=[.cell 2 19 true,.tmp 3]
theorem t5:Text Try.prog 5 o5 c5 r5 25:=.mk_ Try.f5 rfl
def c6:ACode :=
 (sq_ [pr_ 2 (.allocm z19_),
 pr_ 3 mf_]
 (sq_ [mv_ 5 0,
 c1_ 6 10 5,
 mv_ 4 6]
 (sq_ [mv_ 7 4,
 c1_ 8 14 7,
 mv_ 9 4,
 mv_ 10 0,
 cl_ 11 15 [(.tmp 8),(.tmp 9),(.tmp 10)],
 pr_ 12 (ex_ 0 11),
 pr_ 13 (ex_ 1 11),
 st_ (so_ 19 2 12),
 mv_ 3 13]
 .ret)))
def o6:List Tmp:=[2]
def r6:List RV:=[.cell 2 19 true,.tmp 3]
theorem t6:Text Try.prog 6 o6 c6 r6 14:=.mk_ Try.f6 rfl
def c7:ACode :=
 (sq_ [pr_ 1 (.boxr (.tmp 0)),
 pr_ 2 mf_]
 (sq_ [pr_ 3 (fa_ 0 1),
 pr_ 4 (lf_ 1 3),
 c1_ 5 13 4,
 mv_ 6 5,
 gp_ 7 6 true (lt_ 19 1),
 gc_ 8 6 true 16 [(.tmp 7)],
 pr_ 9 (pa_ 6 8),
 mv_ 2 9]
 .ret))
def o7:List Tmp:=[]
def r7:List RV:=[.tmp 2]
theorem t7:Text Try.prog 7 o7 c7 r7 10:=.mk_ Try.f7 rfl
def c8:ACode :=
 (sq_ [pr_ 1 (.boxr (.tmp 0)),
 pr_ 2 (.mov (.const (.slice none 0 0)))]
 (.seq (sq_ [pr_ 3 (lt_ 19 1),
 c1_ 4 7 3,
 pr_ 5 (no_ 4)]
 (.cond (.tmp 5)
 (sq_ [pr_ 2 (.mov (.const (.slice none 0 0)))]
 (.ghost (.shut 2) .ret))
 .skip))
 (.seq (.draw [⟨pr_ 6 (fa_ 0 1),[],false,0,0⟩,
 ⟨pr_ 7 (lf_ 1 6),[0],false,0,0⟩,
 ⟨c1_ 8 17 7,[0,1],true,0,0⟩,
 ⟨pr_ 9 (lt_ 19 1),[],false,0,1⟩,
 ⟨c1_ 10 9 9,[0,1,2,3],true,0,0⟩,
 ⟨pr_ 11 (.app 1 (.tmp 8) (.tmp 10)),[0,1,2,3,4],true,0,0⟩,
 ⟨mv_ 2 11,(List.range 6),false,3,3⟩])
 (.ghost (.shut 2) .ret))))
def o8:List Tmp:=[]
def r8:List RV:=[.tmp 2]
theorem t8:Text Try.prog 8 o8 c8 r8 12:=.mk_ Try.f8 rfl
def c9:ACode :=
 (sq_ [pr_ 1 (.boxr (.tmp 0)),
 pr_ 2 (.mov (.const (.slice none 0 0)))]
 (.seq (sq_ [pr_ 7 (lt_ 19 1),
 c1_ 8 16 7,
 pr_ 9 (no_ 8)]
 (.cond (.tmp 9)
 (sq_ [pr_ 2 (.mov (.const (.slice none 0 0)))]
 (.ghost (.shut 2) .ret))
 .skip))
 (sq_ [pr_ 10 (fa_ 1 1),
 pr_ 11 (lf_ 1 10),
 pr_ 12 (.convi .u8 (.tmp 11)),
 pr_ 13 (.bsl true 1 false 1 [.pl (.int .u8 0)] [(0,1,(.tmp 12))]),
 pr_ 3 (.allocm [.nils]),
 st_ (so_ 1 3 13)]
 (sq_ [pr_ 15 (fa_ 1 1),
 pr_ 16 (lf_ 1 15),
 c1_ 17 18 16,
 mv_ 14 17,
 pr_ 18 (ex_ 0 14),
 pr_ 19 (ex_ 1 14),
 ⟨some 4,none,.fresh 1 4 (.tmp 18)⟩,
 mv_ 5 19]
 (sq_ [pr_ 20 (.mkfn 19 [] [(.tmp 4),(.tmp 3)]),
 mv_ 6 20]
 (sq_ [mv_ 21 6,
 pr_ 22 (fa_ 2 1),
 pr_ 23 (lf_ 1 22),
 pr_ 24 (.convi .u64 (.tmp 23)),
 c1_ 25 21 24,
 pr_ 26 (.bsl false 1 false 1 [.nils] [(0,1,(.tmp 25))]),
 ⟨some 27,none,.call (.tmp 21) [(.const (.int .i64 1)),(.tmp 26)]⟩]
 (sq_ [mv_ 28 6,
 pr_ 29 (fa_ 3 1),
 pr_ 30 (lf_ 1 29),
 c1_ 31 17 30,
 pr_ 32 (.bsl false 1 false 1 [.nils] [(0,1,(.tmp 31))]),
 ⟨some 33,none,.call (.tmp 28) [(.const (.int .i64 2)),(.tmp 32)]⟩]
 (.seq (.draw [⟨mv_ 34 6,[],false,0,2⟩,
 ⟨pr_ 35 (fa_ 4 1),[],false,0,0⟩,
 ⟨pr_ 36 (lf_ 1 35),[1],false,0,0⟩,
 ⟨c1_ 37 21 36,[1,2],true,0,0⟩,
 ⟨pr_ 38 (fa_ 5 1),[],false,0,1⟩,
 ⟨pr_ 39 (lf_ 1 38),[4],false,0,1⟩,
 ⟨c1_ 40 21 39,[1,2,3,4,5],true,0,0⟩,
 ⟨pr_ 41 (.bsl false 1 false 2 [.nils] [(0,1,(.tmp 37)),(1,1,(.tmp 40))]),[1,2,3,4,5,6],false,2,2⟩,
 ⟨⟨some 42,none,.call (.tmp 34) [(.const (.int .i64 4)),(.tmp 41)]⟩,(List.range 8),true,0,0⟩])
 (sq_ [mv_ 43 6,
 pr_ 44 (fa_ 6 1),
 pr_ 45 (lf_ 1 44),
 pr_ 46 (.convi .u8 (.tmp 45)),
 pr_ 47 (.bsl false 1 false 1 [.pl (.int .u8 0)] [(0,1,(.tmp 46))]),
 pr_ 48 (.bsl false 1 false 1 [.nils] [(0,1,(.tmp 47))]),
 ⟨some 49,none,.call (.tmp 43) [(.const (.int .i64 8)),(.tmp 48)]⟩]
 (sq_ [mv_ 50 6,
 pr_ 51 (fa_ 7 1),
 pr_ 52 (lf_ 1 51),
 c1_ 53 22 52,
 pr_ 54 (.bsl false 1 false 1 [.nils] [(0,1,(.tmp 53))]),
 ⟨some 55,none,.call (.tmp 50) [(.const (.int .i64 16)),(.tmp 54)]⟩]
 (sq_ [mv_ 56 6,
 pr_ 57 (fa_ 8 1),
 pr_ 58 (lt_ 3 57),
 c1_ 59 23 58,
 pr_ 60 (.bsl false 1 false 1 [.nils] [(0,1,(.tmp 59))]),
 ⟨some 61,none,.call (.tmp 56) [(.const (.int .i64 64)),(.tmp 60)]⟩]
 (sq_ [mv_ 62 6,
 pr_ 63 (fa_ 11 1),
 pr_ 64 (lt_ 6 63),
 c1_ 65 24 64,
 pr_ 66 (.bsl false 1 false 1 [.nils] [(0,1,(.tmp 65))]),
 ⟨some 67,none,.call (.tmp 62) [(.const (.int .i64 128)),(.tmp 66)]⟩]
 (sq_ [mv_ 68 6,
 pr_ 69 (fa_ 17 1),
 pr_ 70 (lf_ 1 69),
 c1_ 71 25 70,
 pr_ 72 (.bsl false 1 false 1 [.nils] [(0,1,(.tmp 71))]),
 ⟨some 73,none,.call (.tmp 68) [(.const (.int .i64 256)),(.tmp 72)]⟩]
 (sq_ [mv_ 74 6,
 pr_ 75 (fa_ 18 1),
 pr_ 76 (lf_ 1 75),
 c1_ 77 27 76,
 c1_ 78 26 77,
 pr_ 79 (.bsl false 1 false 1 [.nils] [(0,1,(.tmp 78))]),
 ⟨some 80,none,.call (.tmp 74) [(.const (.int .i64 512)),(.tmp 79)]⟩]
 (sq_ [pr_ 81 (lf_ 1 3),
 mv_ 2 81]
 (.ghost (.shut 2) .ret))))))))))))))))
def o9:List Tmp:=[3,13]
def r9:List RV:=[.tmp 2]
theorem t9:Text Try.prog 9 o9 c9 r9 82:=.mk_ Try.f9 rfl
def c10:ACode :=
 (sq_ [pr_ 2 (.mov (.const (.pointer none)))]
 (sq_ [mv_ 3 0,
 pr_ 4 (.build [.nils,.pl (.int .i64 0),.pl (.bool false)] [(0,1,(.tmp 3))]),
 pr_ 5 (.boxm (.tmp 4)),
 mv_ 2 5]
 .ret))
def o10:List Tmp:=[5]
def r10:List RV:=[.tmp 2]
theorem t10:Text Try.prog 10 o10 c10 r10 6:=.mk_ Try.f10 rfl
def c11:ACode :=
 (sq_ [pr_ 4 (.mov (.const (.string (ByteArray.mk #[]))))]
 (sq_ [mv_ 9 0,
 c1_ 10 29 9,
 mv_ 11 1,
 cl_ 12 28 [(.tmp 10),(.tmp 11)],
 mv_ 8 12,
 pr_ 13 (ex_ 0 8),
 pr_ 14 (ex_ 1 8),
 pr_ 15 (ex_ 2 8),
 mv_ 5 13,
 mv_ 6 14,
 mv_ 7 15]
 (.seq (sq_ [mv_ 16 0,
 mv_ 17 6,
 mv_ 18 7,
 cl_ 19 30 [(.tmp 16),(.tmp 17),(.tmp 18)],
 pr_ 20 (no_ 19)]
 (.cond (.tmp 20)
 (sq_ [pr_ 4 (.mov (.const (.string (ByteArray.mk #[]))))]
 .ret)
 .skip))
 (sq_ [mv_ 21 5,
 mv_ 4 21]
 .ret))))
def o11:List Tmp:=[]
def r11:List RV:=[.tmp 4]
theorem t11:Text Try.prog 11 o11 c11 r11 22:=.mk_ Try.f11 rfl
def c12:ACode :=
 (.ops [mv_ 4 0,
 mv_ 5 1,
 cl_ 6 30 [(.tmp 4),(.const (.int .i64 0)),(.tmp 5)]])
def o12:List Tmp:=[]
def r12:List RV:=[]
theorem t12:Text Try.prog 12 o12 c12 r12 7:=.mk_ Try.f12 rfl
def c13:ACode :=
 (sq_ [pr_ 2 mf_]
 (sq_ [mv_ 3 0,
 pr_ 4 (.lens (.tmp 3)),
 pr_ 5 (bk_ .geq 4 .i64 4),
 mv_ 6 5,
 gp_ 7 6 true (mo_ 0),
 gp_ 8 6 true (.lens (.tmp 7)),
 gp_ 9 6 true (bk_ .leq 8 .i64 16),
 pr_ 10 (pa_ 6 9),
 mv_ 2 10]
 .ret))
def o13:List Tmp:=[]
def r13:List RV:=[.tmp 2]
theorem t13:Text Try.prog 13 o13 c13 r13 11:=.mk_ Try.f13 rfl
def c14:ACode :=
 (sq_ [pr_ 2 (.allocm z19_)]
 (sq_ [mv_ 8 0,
 c1_ 9 31 8,
 pr_ 10 (.convi .i64 (.tmp 9)),
 pr_ 11 (.build z19_ [(1,1,(.tmp 10))]),
 pr_ 3 (.allocm z19_),
 st_ (so_ 19 3 11)]
 (sq_ [pr_ 13 (fa_ 1 3),
 pr_ 14 (lf_ 1 13),
 c1_ 15 18 14,
 mv_ 12 15,
 pr_ 16 (ex_ 0 12),
 pr_ 17 (ex_ 1 12),
 mv_ 4 16,
 mv_ 5 17]
 (sq_ [mv_ 18 0,
 mv_ 19 5,
 cl_ 20 12 [(.tmp 18),(.tmp 19)]]
 (.seq (sq_ [mv_ 21 4,
 pr_ 22 (bk_ .and 21 .i64 1),
 pr_ 23 (bk_ .gtr 22 .i64 0)]
 (.cond (.tmp 23)
 (.ops [mv_ 24 0,
 cl_ 25 32 [(.tmp 24),(.const (.int .u64 2147483647))],
 pr_ 26 (.convi .i64 (.tmp 25)),
 pr_ 27 (fa_ 2 3),
 st_ (so_ 1 27 26)])
 .skip))
 (.seq (sq_ [mv_ 28 4,
 pr_ 29 (bk_ .and 28 .i64 2),
 pr_ 30 (bk_ .gtr 29 .i64 0)]
 (.cond (.tmp 30)
 (.ops [mv_ 31 0,
 cl_ 32 11 [(.tmp 31),(.const (.int .i64 16))],
 pr_ 33 (fa_ 3 3),
 st_ (so_ 1 33 32)])
 .skip))
 (.seq (sq_ [mv_ 34 4,
 pr_ 35 (bk_ .and 34 .i64 4),
 pr_ 36 (bk_ .gtr 35 .i64 0)]
 (.cond (.tmp 36)
 (.ops [mv_ 37 0,
 cl_ 38 32 [(.tmp 37),(.const (.int .u64 1099511627776))],
 mv_ 39 0,
 cl_ 40 32 [(.tmp 39),(.const (.int .u64 1099511627776))],
 pr_ 41 (fa_ 4 3),
 st_ (so_ 1 41 38),
 pr_ 42 (fa_ 5 3),
 st_ (so_ 1 42 40)])
 .skip))
 (.seq (sq_ [mv_ 43 4,
 pr_ 44 (bk_ .and 43 .i64 8),
 pr_ 45 (bk_ .gtr 44 .i64 0)]
 (.cond (.tmp 45)
 (.ops [mv_ 46 0,
 c1_ 47 31 46,
 pr_ 48 (.convi .i64 (.tmp 47)),
 pr_ 49 (fa_ 6 3),
 st_ (so_ 1 49 48)])
 .skip))
 (.seq (sq_ [mv_ 50 4,
 pr_ 51 (bk_ .and 50 .i64 16),
 pr_ 52 (bk_ .gtr 51 .i64 0)]
 (.cond (.tmp 52)
 (.ops [mv_ 53 0,
 cl_ 54 33 [(.tmp 53),(.func 34)],
 pr_ 55 (fa_ 7 3),
 st_ (so_ 1 55 54)])
 .skip))
 (.seq (sq_ [mv_ 56 4,
 pr_ 57 (bk_ .and 56 .i64 64),
 pr_ 58 (bk_ .gtr 57 .i64 0)]
 (.cond (.tmp 58)
 (.ops [mv_ 59 0,
 cl_ 60 35 [(.tmp 59),(.func 36)],
 pr_ 61 (fa_ 8 3),
 st_ (so_ 3 61 60)])
 .skip))
 (.seq (sq_ [mv_ 62 4,
 pr_ 63 (bk_ .and 62 .i64 128),
 pr_ 64 (bk_ .gtr 63 .i64 0)]
 (.cond (.tmp 64)
 (.ops [mv_ 65 0,
 cl_ 66 37 [(.tmp 65),(.func 38)],
 pr_ 67 (fa_ 11 3),
 st_ (so_ 6 67 66)])
 .skip))
 (.seq (sq_ [mv_ 68 4,
 pr_ 69 (bk_ .and 68 .i64 256),
 pr_ 70 (bk_ .gtr 69 .i64 0)]
 (.cond (.tmp 70)
 (.ops [mv_ 71 0,
 cl_ 72 39 [(.tmp 71),(.func 40)],
 pr_ 73 (fa_ 17 3),
 st_ (so_ 1 73 72)])
 .skip))
 (.seq (sq_ [mv_ 74 4,
 pr_ 75 (bk_ .and 74 .i64 512),
 pr_ 76 (bk_ .gtr 75 .i64 0)]
 (.cond (.tmp 76)
 (sq_ [mv_ 78 0,
 c1_ 79 42 78,
 c1_ 80 41 79,
 mv_ 77 80,
 pr_ 81 (ex_ 0 77),
 pr_ 82 (ex_ 1 77),
 mv_ 6 81,
 mv_ 7 82]
 (sq_ [mv_ 83 0,
 mv_ 84 7,
 cl_ 85 12 [(.tmp 83),(.tmp 84)]]
 (.ops [mv_ 86 6,
 pr_ 87 (fa_ 18 3),
 st_ (so_ 1 87 86)])))
 .skip))
 (sq_ [mv_ 88 0,
 pr_ 89 (lt_ 19 3),
 c1_ 90 16 89,
 cl_ 91 12 [(.tmp 88),(.tmp 90)]]
 (sq_ [pr_ 92 (lt_ 19 3),
 st_ (so_ 19 2 92)]
 .ret)))))))))))))))
def o14:List Tmp:=[2,3]
def r14:List RV:=[.cell 2 19 true]
theorem t14:Text Try.prog 14 o14 c14 r14 93:=.mk_ Try.f14 rfl
def c15:ACode :=
 (sq_ [pr_ 3 (.boxr (.tmp 0)),
 pr_ 6 (.allocm z19_),
 pr_ 7 mf_]
 (.seq (sq_ [mv_ 11 1,
 c1_ 12 43 11,
 mv_ 10 12,
 pr_ 13 (ex_ 0 10),
 pr_ 14 (ex_ 1 10),
 mv_ 8 13,
 mv_ 9 14]
 (sq_ [mv_ 15 9,
 pr_ 16 (no_ 15),
 mv_ 17 16,
 gp_ 18 17 false (mo_ 8),
 gp_ 19 17 false (mo_ 2),
 gp_ 20 17 false (.lenv (.tmp 19)),
 gp_ 21 17 false (bt_ .neq 18 20),
 pr_ 22 (po_ 17 21)]
 (.cond (.tmp 22)
 (sq_ [pr_ 23 (.build z19_ []),
 st_ (so_ 19 6 23),
 pr_ 7 mf_]
 .ret)
 .skip)))
 (sq_ [pr_ 24 (lt_ 19 3),
 st_ (so_ 19 6 24),
 pr_ 7 mt_]
 .ret)))
def o15:List Tmp:=[6]
def r15:List RV:=[.cell 6 19 true,.tmp 7]
theorem t15:Text Try.prog 15 o15 c15 r15 25:=.mk_ Try.f15 rfl
def c16:ACode :=
 (sq_ [pr_ 1 (.boxr (.tmp 0)),
 pr_ 2 mf_]
 (sq_ [pr_ 6 (fa_ 1 1),
 pr_ 7 (lf_ 1 6),
 c1_ 8 18 7,
 mv_ 5 8,
 pr_ 9 (ex_ 0 5),
 pr_ 10 (ex_ 1 5),
 mv_ 3 9,
 mv_ 4 10]
 (sq_ [mv_ 11 4,
 mv_ 12 11,
 gp_ 13 12 true (lt_ 19 1),
 gp_ 14 12 true (mo_ 3),
 gc_ 15 12 true 44 [(.tmp 13),(.tmp 14)],
 pr_ 16 (pa_ 12 15),
 mv_ 17 16,
 gp_ 18 17 true (lt_ 19 1),
 gp_ 19 17 true (mo_ 3),
 gc_ 20 17 true 45 [(.tmp 18),(.tmp 19)],
 pr_ 21 (pa_ 17 20),
 mv_ 2 21]
 .ret)))
def o16:List Tmp:=[]
def r16:List RV:=[.tmp 2]
theorem t16:Text Try.prog 16 o16 c16 r16 22:=.mk_ Try.f16 rfl
def c17:ACode :=
 (sq_ [pr_ 2 (.mov (.const (.slice none 0 0)))]
 (sq_ [mv_ 3 0,
 pr_ 4 (.lens (.tmp 3)),
 pr_ 5 (.convi .u64 (.tmp 4)),
 c1_ 6 21 5,
 mv_ 7 0,
 pr_ 8 (.app 1 (.tmp 6) (.tmp 7)),
 mv_ 2 8]
 .ret))
def o17:List Tmp:=[]
def r17:List RV:=[.tmp 2]
theorem t17:Text Try.prog 17 o17 c17 r17 9:=.mk_ Try.f17 rfl
def c18:ACode :=
 (sq_ [pr_ 2 (mi_ .i64 0),
 pr_ 3 mf_]
 (.seq (sq_ [mv_ 4 0]
 (.block 0 (.seq (sq_ [pr_ 6 (bk_ .eql 4 .i64 1),
 mv_ 5 6]
 (.cond (.tmp 5)
 .skip
 (sq_ [pr_ 7 (bk_ .eql 4 .i64 14),
 mv_ 5 7]
 (.cond (.tmp 5)
 .skip
 (sq_ [pr_ 8 (bk_ .eql 4 .i64 16),
 mv_ 5 8]
 (.cond (.tmp 5)
 .skip
 (.ops [pr_ 9 (bk_ .eql 4 .i64 17),
 mv_ 5 9])))))))
 (.cond (.tmp 5)
 (sq_ [pr_ 2 (mi_ .i64 0),
 pr_ 3 mt_]
 .ret)
 (.seq (sq_ [pr_ 11 (bk_ .eql 4 .i64 2),
 mv_ 10 11]
 (.cond (.tmp 10)
 .skip
 (sq_ [pr_ 12 (bk_ .eql 4 .i64 7),
 mv_ 10 12]
 (.cond (.tmp 10)
 .skip
 (sq_ [pr_ 13 (bk_ .eql 4 .i64 10),
 mv_ 10 13]
 (.cond (.tmp 10)
 .skip
 (sq_ [pr_ 14 (bk_ .eql 4 .i64 12),
 mv_ 10 14]
 (.cond (.tmp 10)
 .skip
 (.ops [pr_ 15 (bk_ .eql 4 .i64 15),
 mv_ 10 15])))))))))
 (.cond (.tmp 10)
 (sq_ [pr_ 2 (mi_ .i64 1),
 pr_ 3 mt_]
 .ret)
 (.seq (sq_ [pr_ 17 (bk_ .eql 4 .i64 3),
 mv_ 16 17]
 (.cond (.tmp 16)
 .skip
 (.ops [pr_ 18 (bk_ .eql 4 .i64 4),
 mv_ 16 18])))
 (.cond (.tmp 16)
 (sq_ [pr_ 2 (mi_ .i64 3),
 pr_ 3 mt_]
 .ret)
 (sq_ [pr_ 20 (bk_ .eql 4 .i64 5),
 mv_ 19 20]
 (.cond (.tmp 19)
 (sq_ [pr_ 2 (mi_ .i64 116),
 pr_ 3 mt_]
 .ret)
 (sq_ [pr_ 22 (bk_ .eql 4 .i64 6),
 mv_ 21 22]
 (.cond (.tmp 21)
 (sq_ [pr_ 2 (mi_ .i64 117),
 pr_ 3 mt_]
 .ret)
 (sq_ [pr_ 24 (bk_ .eql 4 .i64 8),
 mv_ 23 24]
 (.cond (.tmp 23)
 (sq_ [pr_ 2 (mi_ .i64 8),
 pr_ 3 mt_]
 .ret)
 (sq_ [pr_ 26 (bk_ .eql 4 .i64 9),
 mv_ 25 26]
 (.cond (.tmp 25)
 (sq_ [pr_ 2 (mi_ .i64 128),
 pr_ 3 mt_]
 .ret)
 (sq_ [pr_ 28 (bk_ .eql 4 .i64 11),
 mv_ 27 28]
 (.cond (.tmp 27)
 (sq_ [pr_ 2 (mi_ .i64 768),
 pr_ 3 mt_]
 .ret)
 (sq_ [pr_ 30 (bk_ .eql 4 .i64 13),
 mv_ 29 30]
 (.cond (.tmp 29)
 (sq_ [pr_ 2 (mi_ .i64 16),
 pr_ 3 mt_]
 .ret)
 .skip))))))))))))))))))))
 (sq_ [pr_ 2 (mi_ .i64 0),
 pr_ 3 mf_]
 .ret)))
def o18:List Tmp:=[]
def r18:List RV:=[.tmp 2,.tmp 3]
theorem t18:Text Try.prog 18 o18 c18 r18 31:=.mk_ Try.f18 rfl
def c19:ACode :=
 (sq_ [pr_ 6 (lf_ 1 2),
 mv_ 7 0,
 pr_ 8 (bt_ .and 6 7),
 pr_ 9 (bk_ .gtr 8 .i64 0)]
 (.cond (.tmp 9)
 (.draw [⟨pr_ 10 (lf_ 1 3),[],false,0,1⟩,
 ⟨mv_ 11 1,[],false,0,0⟩,
 ⟨c1_ 12 20 11,[1],true,0,0⟩,
 ⟨pr_ 13 (.app 1 (.tmp 10) (.tmp 12)),[0,1,2],true,0,0⟩,
 ⟨st_ (so_ 1 3 13),[0,1,2,3],true,0,0⟩])
 .skip))
def o19:List Tmp:=[]
def r19:List RV:=[]
theorem t19:Text Try.prog 19 o19 c19 r19 14:=.mk_ Try.f19 rfl
def c20:ACode :=
 (sq_ [pr_ 2 (.mov (.const (.slice none 0 0)))]
 (sq_ [pr_ 3 (mi_ .i64 0)]
 (.seq (sq_ [mv_ 9 0,
 pr_ 10 (.lenv (.tmp 9)),
 pr_ 11 (mi_ .i64 0)]
 (.block 0 (.loop [1,2,4,5,6,7,8,12,13,14,15,16,17,18,19,20,21,22,23,24,25,26,27,28,29,30,31,32,33,34,35] (sq_ [pr_ 12 (bt_ .lss 11 10)]
 (.seq (.cond (.tmp 12)
 .skip
 (.exit 0))
 (.seq (.block 1 (sq_ [pr_ 13 (.iadrs 1 (.tmp 9) (.tmp 11)),
 pr_ 14 (lf_ 1 13),
 mv_ 5 14]
 (sq_ [mv_ 15 3,
 mv_ 16 5,
 pr_ 17 (.lenv (.tmp 16)),
 pr_ 18 (bt_ .add 15 17),
 mv_ 3 18]
 (sq_ [mv_ 19 3,
 pr_ 20 (bk_ .lss 19 .i64 0)]
 (.cond (.tmp 20)
 (.ops [pr_ 21 (.bad),
 st_ (.bad)])
 .skip)))))
 (.ops [pr_ 22 (bk_ .add 11 .i64 1),
 mv_ 11 22])))))))
 (sq_ [mv_ 23 3,
 cl_ 24 46 [(.const (.slice none 0 0)),(.tmp 23)],
 mv_ 6 24]
 (.seq (sq_ [mv_ 25 0,
 pr_ 26 (.lenv (.tmp 25)),
 pr_ 27 (mi_ .i64 0)]
 (.block 2 (.loop [0,1,2,3,4,5,7,8,9,10,11,12,13,14,15,16,17,18,19,20,21,22,23,24,28,29,30,31,32,33,34,35] (sq_ [pr_ 28 (bt_ .lss 27 26)]
 (.seq (.cond (.tmp 28)
 .skip
 (.exit 2))
 (.seq (.block 3 (sq_ [pr_ 29 (.iadrs 1 (.tmp 25) (.tmp 27)),
 pr_ 30 (lf_ 1 29),
 mv_ 8 30]
 (.ops [mv_ 31 6,
 mv_ 32 8,
 pr_ 33 (.app 1 (.tmp 31) (.tmp 32)),
 mv_ 6 33])))
 (.ops [pr_ 34 (bk_ .add 27 .i64 1),
 mv_ 27 34])))))))
 (sq_ [mv_ 35 6,
 mv_ 2 35]
 .ret))))))
def o20:List Tmp:=[]
def r20:List RV:=[.tmp 2]
theorem t20:Text Try.prog 20 o20 c20 r20 36:=.mk_ Try.f20 rfl
def c21:ACode :=
 (sq_ [pr_ 2 (.mov (.const (.slice none 0 0)))]
 (.seq (.after (.ops [pr_ 3 (.mov (.const (.slice none 0 0)))]) (.own 3 1))
 (.seq (.block 0 (.loop [1,2,4,5,6,7,8,9,10,11,12,13,14,15,16,17,18] (.seq (sq_ [mv_ 4 0,
 pr_ 5 (bk_ .geq 4 .u64 128)]
 (.cond (.tmp 5)
 .skip
 (.exit 0)))
 (.block 1 (sq_ [mv_ 6 3,
 mv_ 7 0,
 pr_ 8 (.convi .u8 (.tmp 7)),
 pr_ 9 (bk_ .or 8 .u8 128),
 pr_ 10 (.bsl false 1 false 1 [.pl (.int .u8 0)] [(0,1,(.tmp 9))]),
 pr_ 11 (.app 1 (.tmp 6) (.tmp 10)),
 mv_ 3 11]
 (.ops [mv_ 12 0,
 pr_ 13 (bk_ .shr 12 .u64 7),
 mv_ 0 13]))))))
 (sq_ [mv_ 14 3,
 mv_ 15 0,
 pr_ 16 (.convi .u8 (.tmp 15)),
 pr_ 17 (.bsl false 1 false 1 [.pl (.int .u8 0)] [(0,1,(.tmp 16))]),
 pr_ 18 (.app 1 (.tmp 14) (.tmp 17)),
 mv_ 2 18]
 .ret))))
def o21:List Tmp:=[]
def r21:List RV:=[.tmp 2]
theorem t21:Text Try.prog 21 o21 c21 r21 19:=.mk_ Try.f21 rfl
def c22:ACode :=
 (sq_ [pr_ 2 (.mov (.const (.slice none 0 0)))]
 (.seq (sq_ [mv_ 6 0,
 c1_ 7 47 6,
 pr_ 8 (no_ 7)]
 (.cond (.tmp 8)
 (sq_ [pr_ 2 (.mov (.const (.slice none 0 0)))]
 (.ghost (.shut 2) .ret))
 .skip))
 (sq_ [mv_ 9 0,
 pr_ 10 (.lenv (.tmp 9)),
 pr_ 11 (.convi .u64 (.tmp 10)),
 c1_ 12 21 11,
 mv_ 3 12]
 (.seq (sq_ [mv_ 13 0,
 pr_ 14 (.lenv (.tmp 13)),
 pr_ 15 (mi_ .i64 0)]
 (.block 0 (.loop [0,1,2,4,5,6,7,8,9,10,11,12,16,17,18,19,20,21,22,23,24,25,26,27,28,29,30,31,32,33,34,35,36] (sq_ [pr_ 16 (bt_ .lss 15 14)]
 (.seq (.cond (.tmp 16)
 .skip
 (.exit 0))
 (.seq (.block 1 (sq_ [pr_ 17 (.iadrs 3 (.tmp 13) (.tmp 15)),
 pr_ 18 (lt_ 3 17),
 ⟨some 5,none,.fresh 3 5 (.tmp 18)⟩]
 (sq_ [mv_ 19 3,
 pr_ 20 (fa_ 0 5),
 pr_ 21 (lf_ 1 20),
 pr_ 22 (.convi .u8 (.tmp 21)),
 pr_ 23 (.bsl false 1 false 1 [.pl (.int .u8 0)] [(0,1,(.tmp 22))]),
 pr_ 24 (.app 1 (.tmp 19) (.tmp 23)),
 mv_ 3 24]
 (sq_ [mv_ 25 3,
 pr_ 26 (fa_ 1 5),
 pr_ 27 (lf_ 1 26),
 c1_ 28 17 27,
 pr_ 29 (.app 1 (.tmp 25) (.tmp 28)),
 mv_ 3 29]
 (.ops [mv_ 30 3,
 pr_ 31 (fa_ 2 5),
 pr_ 32 (lf_ 1 31),
 c1_ 33 17 32,
 pr_ 34 (.app 1 (.tmp 30) (.tmp 33)),
 mv_ 3 34])))))
 (.ops [pr_ 35 (bk_ .add 15 .i64 1),
 mv_ 15 35])))))))
 (sq_ [mv_ 36 3,
 mv_ 2 36]
 (.ghost (.shut 2) .ret))))))
def o22:List Tmp:=[]
def r22:List RV:=[.tmp 2]
theorem t22:Text Try.prog 22 o22 c22 r22 37:=.mk_ Try.f22 rfl
def c23:ACode :=
 (sq_ [pr_ 1 (.boxr (.tmp 0)),
 pr_ 2 (.mov (.const (.slice none 0 0)))]
 (.seq (sq_ [pr_ 3 (fa_ 0 1),
 pr_ 4 (lf_ 1 3)]
 (.cond (.tmp 4)
 (sq_ [pr_ 5 (.bsl false 1 false 1 [.pl (.int .u8 0)] [(0,1,(.const (.int .u8 1)))]),
 mv_ 2 5]
 (.ghost (.shut 2) .ret))
 .skip))
 (.seq (.draw [⟨pr_ 6 (.bsl false 1 false 1 [.pl (.int .u8 0)] [(0,1,(.const (.int .u8 0)))]),[],false,0,4⟩,
 ⟨pr_ 7 (fa_ 1 1),[],false,0,0⟩,
 ⟨pr_ 8 (lf_ 1 7),[1],false,0,0⟩,
 ⟨c1_ 9 27 8,[1,2],true,0,0⟩,
 ⟨c1_ 10 26 9,[1,2,3],true,0,0⟩,
 ⟨pr_ 11 (fa_ 2 1),[],false,0,2⟩,
 ⟨pr_ 12 (lf_ 1 11),[5],false,0,2⟩,
 ⟨c1_ 13 27 12,[1,2,3,4,5,6],true,0,0⟩,
 ⟨c1_ 14 26 13,[1,2,3,4,5,6,7],true,0,0⟩,
 ⟨pr_ 15 (.bsl false 1 false 3 [.nils] [(0,1,(.tmp 6)),(1,1,(.tmp 10)),(2,1,(.tmp 14))]),(List.range 9),false,4,4⟩,
 ⟨c1_ 16 20 15,(List.range 10),true,0,0⟩,
 ⟨mv_ 2 16,(List.range 11),false,5,5⟩])
 (.ghost (.shut 2) .ret))))
def o23:List Tmp:=[]
def r23:List RV:=[.tmp 2]
theorem t23:Text Try.prog 23 o23 c23 r23 17:=.mk_ Try.f23 rfl
def c24:ACode :=
 (sq_ [pr_ 1 (.boxr (.tmp 0)),
 pr_ 2 (.mov (.const (.slice none 0 0)))]
 (.seq (sq_ [pr_ 6 (lt_ 6 1),
 c1_ 7 48 6,
 pr_ 8 (no_ 7)]
 (.cond (.tmp 8)
 (sq_ [pr_ 2 (.mov (.const (.slice none 0 0)))]
 (.ghost (.shut 2) .ret))
 .skip))
 (.seq (.draw [⟨pr_ 9 (fa_ 0 1),[],false,0,0⟩,
 ⟨pr_ 10 (lf_ 1 9),[0],false,0,0⟩,
 ⟨c1_ 11 22 10,[0,1],true,0,0⟩,
 ⟨pr_ 12 (fa_ 1 1),[],false,0,1⟩,
 ⟨pr_ 13 (lf_ 1 12),[3],false,0,1⟩,
 ⟨c1_ 14 22 13,[0,1,2,3,4],true,0,0⟩,
 ⟨pr_ 15 (fa_ 2 1),[],false,0,2⟩,
 ⟨pr_ 16 (lt_ 3 15),[6],false,0,2⟩,
 ⟨c1_ 17 23 16,(List.range 8),true,0,0⟩,
 ⟨pr_ 18 (fa_ 5 1),[],false,0,3⟩,
 ⟨pr_ 19 (lf_ 1 18),[9],false,0,3⟩,
 ⟨pr_ 20 (.lenv (.tmp 19)),[9,10],false,0,3⟩,
 ⟨pr_ 21 (.convi .u64 (.tmp 20)),[9,10,11],false,0,3⟩,
 ⟨c1_ 22 21 21,(List.range 13),true,0,0⟩,
 ⟨pr_ 23 (.bsl false 1 false 4 [.nils] [(0,1,(.tmp 11)),(1,1,(.tmp 14)),(2,1,(.tmp 17)),(3,1,(.tmp 22))]),(List.range 14),false,4,4⟩,
 ⟨c1_ 24 20 23,(List.range 15),true,0,0⟩,
 ⟨mv_ 3 24,(List.range 16),false,5,5⟩])
 (.seq (sq_ [pr_ 25 (fa_ 5 1),
 pr_ 26 (lf_ 1 25),
 pr_ 27 (.lenv (.tmp 26)),
 pr_ 28 (mi_ .i64 0)]
 (.block 0 (.loop [0,1,2,4,5,6,7,8,9,10,11,12,13,14,15,16,17,18,19,20,21,22,23,24,25,29,30,31,32,33,34,35,36,37] (sq_ [pr_ 29 (bt_ .lss 28 27)]
 (.seq (.cond (.tmp 29)
 .skip
 (.exit 0))
 (.seq (.block 1 (sq_ [pr_ 30 (.iadrs 1 (.tmp 26) (.tmp 28)),
 pr_ 31 (lf_ 1 30),
 mv_ 5 31]
 (.ops [mv_ 32 3,
 mv_ 33 5,
 c1_ 34 17 33,
 pr_ 35 (.app 1 (.tmp 32) (.tmp 34)),
 mv_ 3 35])))
 (.ops [pr_ 36 (bk_ .add 28 .i64 1),
 mv_ 28 36])))))))
 (sq_ [mv_ 37 3,
 mv_ 2 37]
 (.ghost (.shut 2) .ret))))))
def o24:List Tmp:=[]
def r24:List RV:=[.tmp 2]
theorem t24:Text Try.prog 24 o24 c24 r24 38:=.mk_ Try.f24 rfl
def c25:ACode :=
 (sq_ [pr_ 2 (.mov (.const (.slice none 0 0)))]
 (.seq (sq_ [mv_ 6 0,
 c1_ 7 49 6,
 pr_ 8 (no_ 7)]
 (.cond (.tmp 8)
 (sq_ [pr_ 2 (.mov (.const (.slice none 0 0)))]
 (.ghost (.shut 2) .ret))
 .skip))
 (sq_ [mv_ 9 0,
 pr_ 10 (.lenv (.tmp 9)),
 pr_ 11 (.convi .u64 (.tmp 10)),
 c1_ 12 21 11,
 mv_ 3 12]
 (.seq (sq_ [mv_ 13 0,
 pr_ 14 (.lenv (.tmp 13)),
 pr_ 15 (mi_ .i64 0)]
 (.block 0 (.loop [0,1,2,4,5,6,7,8,9,10,11,12,16,17,18,19,20,21,22,23,24,25,26,27,28,29,30] (sq_ [pr_ 16 (bt_ .lss 15 14)]
 (.seq (.cond (.tmp 16)
 .skip
 (.exit 0))
 (.seq (.block 1 (sq_ [pr_ 17 (.iadrs 2 (.tmp 13) (.tmp 15)),
 pr_ 18 (lt_ 2 17),
 ⟨some 5,none,.fresh 2 5 (.tmp 18)⟩]
 (sq_ [mv_ 19 3,
 pr_ 20 (fa_ 0 5),
 pr_ 21 (lf_ 1 20),
 c1_ 22 17 21,
 pr_ 23 (.app 1 (.tmp 19) (.tmp 22)),
 mv_ 3 23]
 (.ops [mv_ 24 3,
 pr_ 25 (fa_ 1 5),
 pr_ 26 (lf_ 1 25),
 c1_ 27 17 26,
 pr_ 28 (.app 1 (.tmp 24) (.tmp 27)),
 mv_ 3 28]))))
 (.ops [pr_ 29 (bk_ .add 15 .i64 1),
 mv_ 15 29])))))))
 (sq_ [mv_ 30 3,
 mv_ 2 30]
 (.ghost (.shut 2) .ret))))))
def o25:List Tmp:=[]
def r25:List RV:=[.tmp 2]
theorem t25:Text Try.prog 25 o25 c25 r25 31:=.mk_ Try.f25 rfl
def c26:ACode :=
 (sq_ [pr_ 2 (.mov (.const (.slice none 0 0)))]
 (sq_ [pr_ 5 (.mks 1 false [.pl (.int .u8 0)] (.const (.int .i64 8)) (.const (.int .i64 8))),
 mv_ 3 5]
 (.seq (sq_ [mv_ 6 3,
 pr_ 7 (.lenv (.tmp 6)),
 pr_ 8 (mi_ .i64 0)]
 (.block 0 (.loop [1,2,4,5,6,9,10,11,12,13,14,15,16,17,18,19,20,21] (sq_ [pr_ 9 (bt_ .lss 8 7)]
 (.seq (.cond (.tmp 9)
 .skip
 (.exit 0))
 (.seq (.block 1 (sq_ [mv_ 10 8,
 mv_ 4 10]
 (.ops [mv_ 11 3,
 mv_ 12 4,
 mv_ 13 0,
 mv_ 14 4,
 pr_ 15 (.bin false .mul (.const (.int .i64 8)) (.tmp 14)),
 pr_ 16 (.bin false .sub (.const (.int .i64 56)) (.tmp 15)),
 pr_ 17 (bt_ .shr 13 16),
 pr_ 18 (.convi .u8 (.tmp 17)),
 pr_ 19 (.iadrs 1 (.tmp 11) (.tmp 12)),
 st_ (so_ 1 19 18)])))
 (.ops [pr_ 20 (bk_ .add 8 .i64 1),
 mv_ 8 20])))))))
 (sq_ [mv_ 21 3,
 mv_ 2 21]
 (.ghost (.shut 2) .ret)))))
def o26:List Tmp:=[]
def r26:List RV:=[.tmp 2]
theorem t26:Text Try.prog 26 o26 c26 r26 22:=.mk_ Try.f26 rfl
def c27:ACode :=
 (sq_ [pr_ 2 (mi_ .u64 0)]
 (.seq (sq_ [mv_ 3 0,
 c1_ 4 50 3]
 (.cond (.tmp 4)
 (sq_ [pr_ 2 (mi_ .u64 9221120237041090561)]
 .ret)
 .skip))
 (sq_ [mv_ 5 0,
 c1_ 6 51 5,
 mv_ 2 6]
 .ret)))
def o27:List Tmp:=[]
def r27:List RV:=[.tmp 2]
theorem t27:Text Try.prog 27 o27 c27 r27 7:=.mk_ Try.f27 rfl
def c28:ACode :=
 (sq_ [pr_ 4 (.mov (.const (.string (ByteArray.mk #[])))),
 pr_ 5 (mi_ .i64 0),
 pr_ 6 mf_]
 (sq_ [mv_ 12 0,
 c1_ 13 52 12,
 mv_ 11 13,
 pr_ 14 (ex_ 0 11),
 pr_ 15 (ex_ 1 11),
 pr_ 16 (ex_ 2 11),
 mv_ 7 14,
 mv_ 8 15,
 mv_ 9 16]
 (.seq (sq_ [mv_ 17 9,
 pr_ 18 (no_ 17),
 mv_ 19 18,
 gp_ 20 19 false (mo_ 1),
 gp_ 21 19 false (bk_ .lss 20 .i64 0),
 pr_ 22 (po_ 19 21),
 mv_ 23 22,
 gp_ 24 23 false (mo_ 7),
 gp_ 25 23 false (mo_ 1),
 gp_ 26 23 false (.convi .u64 (.tmp 25)),
 gp_ 27 23 false (bt_ .gtr 24 26),
 pr_ 28 (po_ 23 27),
 mv_ 29 28,
 gp_ 30 29 false (mo_ 7),
 gp_ 31 29 false (mo_ 0),
 gp_ 32 29 false (.lenv (.tmp 31)),
 gp_ 33 29 false (mo_ 8),
 gp_ 34 29 false (bt_ .sub 32 33),
 gp_ 35 29 false (.convi .u64 (.tmp 34)),
 gp_ 36 29 false (bt_ .gtr 30 35),
 pr_ 37 (po_ 29 36)]
 (.cond (.tmp 37)
 (sq_ [pr_ 4 (.mov (.const (.string (ByteArray.mk #[])))),
 pr_ 5 (mi_ .i64 0),
 pr_ 6 mf_]
 .ret)
 .skip))
 (sq_ [mv_ 38 8,
 mv_ 39 7,
 pr_ 40 (.convi .i64 (.tmp 39)),
 pr_ 41 (bt_ .add 38 40),
 mv_ 10 41]
 (sq_ [mv_ 42 0,
 mv_ 43 8,
 mv_ 44 10,
 pr_ 45 (.slcv 1 (.tmp 42) (some (.tmp 43)) (some (.tmp 44))),
 pr_ 46 (.b2s (.tmp 45)),
 mv_ 47 10,
 mv_ 4 46,
 mv_ 5 47,
 pr_ 6 mt_]
 .ret)))))
def o28:List Tmp:=[]
def r28:List RV:=[.tmp 4,.tmp 5,.tmp 6]
theorem t28:Text Try.prog 28 o28 c28 r28 48:=.mk_ Try.f28 rfl
def c29:ACode :=
 (sq_ [pr_ 2 (.mov (.const (.slice none 0 0)))]
 (.seq (.draw [⟨mv_ 3 0,[],false,0,0⟩,
 ⟨pr_ 4 (nc_ 3),[0],false,0,0⟩,
 ⟨pr_ 5 (fa_ 0 4),[0,1],false,0,0⟩,
 ⟨pr_ 6 (lf_ 1 5),[0,1,2],false,0,0⟩,
 ⟨mv_ 7 0,[],false,0,0⟩,
 ⟨pr_ 8 (nc_ 7),[4],false,0,0⟩,
 ⟨pr_ 9 (fa_ 1 8),[4,5],false,0,0⟩,
 ⟨pr_ 10 (lf_ 1 9),[4,5,6],false,0,0⟩,
 ⟨pr_ 11 (.slcv 1 (.tmp 6) (some (.tmp 10)) none),(List.range 8),false,0,0⟩,
 ⟨mv_ 2 11,(List.range 9),false,0,0⟩])
 (.ghost (.shut 2) .ret)))
def o29:List Tmp:=[]
def r29:List RV:=[.tmp 2]
theorem t29:Text Try.prog 29 o29 c29 r29 12:=.mk_ Try.f29 rfl
def c30:ACode :=
 (sq_ [pr_ 6 mf_]
 (sq_ [mv_ 7 0,
 mv_ 8 0,
 pr_ 9 (nc_ 8),
 pr_ 10 (fa_ 2 9),
 pr_ 11 (lf_ 1 10),
 mv_ 12 11,
 gp_ 13 12 false (mo_ 2),
 gp_ 14 12 false (no_ 13),
 pr_ 15 (po_ 12 14),
 pr_ 16 (nc_ 7),
 pr_ 17 (fa_ 2 16),
 st_ (so_ 1 17 15)]
 (.seq (sq_ [mv_ 18 0,
 pr_ 19 (nc_ 18),
 pr_ 20 (fa_ 2 19),
 pr_ 21 (lf_ 1 20),
 pr_ 22 (no_ 21)]
 (.cond (.tmp 22)
 (.ops [mv_ 23 0,
 pr_ 24 (nc_ 23),
 pr_ 25 (fa_ 1 24),
 pr_ 26 (lf_ 1 25),
 mv_ 27 1,
 pr_ 28 (bt_ .add 26 27),
 pr_ 29 (nc_ 23),
 pr_ 30 (fa_ 1 29),
 st_ (so_ 1 30 28)])
 .skip))
 (sq_ [mv_ 31 0,
 pr_ 32 (nc_ 31),
 pr_ 33 (fa_ 2 32),
 pr_ 34 (lf_ 1 33),
 pr_ 35 (no_ 34),
 mv_ 6 35]
 .ret))))
def o30:List Tmp:=[]
def r30:List RV:=[.tmp 6]
theorem t30:Text Try.prog 30 o30 c30 r30 36:=.mk_ Try.f30 rfl
def c31:ACode :=
 (sq_ [pr_ 2 (mi_ .u8 0)]
 (sq_ [mv_ 4 0,
 c1_ 5 29 4,
 mv_ 3 5]
 (.seq (sq_ [mv_ 6 0,
 mv_ 7 3,
 pr_ 8 (.lenv (.tmp 7)),
 pr_ 9 (bk_ .gtr 8 .i64 0),
 cl_ 10 30 [(.tmp 6),(.const (.int .i64 1)),(.tmp 9)],
 pr_ 11 (no_ 10)]
 (.cond (.tmp 11)
 (sq_ [pr_ 2 (mi_ .u8 0)]
 .ret)
 .skip))
 (sq_ [mv_ 12 3,
 pr_ 13 (.iadrs 1 (.tmp 12) (.const (.int .i64 0))),
 pr_ 14 (lf_ 1 13),
 mv_ 2 14]
 .ret))))
def o31:List Tmp:=[]
def r31:List RV:=[.tmp 2]
theorem t31:Text Try.prog 31 o31 c31 r31 15:=.mk_ Try.f31 rfl
def c32:ACode :=
 (sq_ [pr_ 4 (mi_ .u64 0)]
 (sq_ [mv_ 9 0,
 c1_ 10 29 9,
 c1_ 11 52 10,
 mv_ 8 11,
 pr_ 12 (ex_ 0 8),
 pr_ 13 (ex_ 1 8),
 pr_ 14 (ex_ 2 8),
 mv_ 5 12,
 mv_ 6 13,
 mv_ 7 14]
 (.seq (sq_ [mv_ 15 0,
 mv_ 16 6,
 mv_ 17 7,
 mv_ 18 17,
 gp_ 19 18 true (mo_ 5),
 gp_ 20 18 true (mo_ 1),
 gp_ 21 18 true (bt_ .leq 19 20),
 pr_ 22 (pa_ 18 21),
 cl_ 23 30 [(.tmp 15),(.tmp 16),(.tmp 22)],
 pr_ 24 (no_ 23)]
 (.cond (.tmp 24)
 (sq_ [pr_ 4 (mi_ .u64 0)]
 .ret)
 .skip))
 (sq_ [mv_ 25 5,
 mv_ 4 25]
 .ret))))
def o32:List Tmp:=[]
def r32:List RV:=[.tmp 4]
theorem t32:Text Try.prog 32 o32 c32 r32 26:=.mk_ Try.f32 rfl
def c33:ACode :=
 (sq_ [pr_ 4 (.mov (.const (.slice none 0 0)))]
 (sq_ [mv_ 10 1,
 mv_ 11 0,
 c1_ 12 29 11,
 ⟨some 13,none,.call (.tmp 10) [(.tmp 12)]⟩,
 mv_ 9 13,
 pr_ 14 (ex_ 0 9),
 pr_ 15 (ex_ 1 9),
 pr_ 16 (ex_ 2 9),
 mv_ 5 14,
 mv_ 6 15,
 mv_ 7 16]
 (.seq (sq_ [mv_ 17 0,
 mv_ 18 6,
 mv_ 19 7,
 cl_ 20 30 [(.tmp 17),(.tmp 18),(.tmp 19)],
 pr_ 21 (no_ 20)]
 (.cond (.tmp 21)
 (sq_ [pr_ 8 (.mov (.const (.slice none 0 0)))]
 (sq_ [mv_ 22 8,
 mv_ 4 22]
 .ret))
 .skip))
 (sq_ [mv_ 23 5,
 mv_ 4 23]
 .ret))))
def o33:List Tmp:=[]
def r33:List RV:=[.tmp 4]
theorem t33:Text Try.prog 33 o33 c33 r33 24:=.mk_ Try.f33 rfl
def c34:ACode :=
 (sq_ [pr_ 2 (.mov (.const (.slice none 0 0))),
 pr_ 3 (mi_ .i64 0),
 pr_ 4 mf_]
 (sq_ [mv_ 9 0,
 c1_ 10 10 9,
 mv_ 5 10]
 (.seq (.after (.ops [pr_ 6 (.mov (.const (.slice none 0 0)))]) (.own 6 3))
 (.seq (sq_ [mv_ 11 5,
 cl_ 12 32 [(.tmp 11),(.const (.int .u64 5))],
 pr_ 13 (mi_ .u64 0)]
 (.block 0 (.loop [0,1,2,3,4,7,8,9,10,11,14,15,16,17,18,19,20,21,22,23,24,25,26,27,28,29,30,31,32,33,34,35,36,37,38,39] (sq_ [pr_ 14 (bt_ .lss 13 12)]
 (.seq (.cond (.tmp 14)
 .skip
 (.exit 0))
 (.seq (.block 1 (.ops [mv_ 15 6,
 mv_ 16 5,
 c1_ 17 31 16,
 pr_ 18 (.convi .i64 (.tmp 17)),
 mv_ 19 5,
 cl_ 20 11 [(.tmp 19),(.const (.int .i64 12))],
 mv_ 21 5,
 cl_ 22 11 [(.tmp 21),(.const (.int .i64 40))],
 pr_ 23 (.build [.pl (.int .i64 0),.pl (.string .empty),.pl (.string .empty)] [(0,1,(.tmp 18)),(1,1,(.tmp 20)),(2,1,(.tmp 22))]),
 pr_ 24 (.bsl false 3 true 1 [.pl (.int .i64 0),.pl (.string .empty),.pl (.string .empty)] [(0,3,(.tmp 23))]),
 pr_ 25 (.app 3 (.tmp 15) (.tmp 24)),
 mv_ 6 25]))
 (.ops [pr_ 26 (bk_ .add 13 .u64 1),
 mv_ 13 26])))))))
 (.seq (.ghost (.shut 6) (.ops [mv_ 27 5,
 mv_ 28 6,
 c1_ 29 47 28,
 cl_ 30 12 [(.tmp 27),(.tmp 29)]]))
 (sq_ [mv_ 32 5,
 c1_ 33 43 32,
 mv_ 31 33,
 pr_ 34 (ex_ 0 31),
 pr_ 35 (ex_ 1 31),
 mv_ 7 34,
 mv_ 8 35]
 (.seq (sq_ [mv_ 36 8,
 pr_ 37 (no_ 36)]
 (.cond (.tmp 37)
 (sq_ [pr_ 2 (.mov (.const (.slice none 0 0))),
 pr_ 3 (mi_ .i64 0),
 pr_ 4 mf_]
 (.ghost (.shut 2) .ret))
 .skip))
 (sq_ [mv_ 38 6,
 mv_ 39 7,
 mv_ 2 38,
 mv_ 3 39,
 pr_ 4 mt_]
 (.ghost (.shut 2) .ret)))))))))
def o34:List Tmp:=[]
def r34:List RV:=[.tmp 2,.tmp 3,.tmp 4]
theorem t34:Text Try.prog 34 o34 c34 r34 40:=.mk_ Try.f34 rfl
def c35:ACode :=
 (sq_ [pr_ 4 (.allocm [.pl (.bool false),.pl (.float .f64 0),.pl (.float .f64 0)])]
 (sq_ [mv_ 10 1,
 mv_ 11 0,
 c1_ 12 29 11,
 ⟨some 13,none,.call (.tmp 10) [(.tmp 12)]⟩,
 mv_ 9 13,
 pr_ 14 (ex_ 0 9),
 pr_ 15 (ex_ 1 9),
 pr_ 16 (ex_ 2 9),
 ⟨some 5,none,.fresh 3 5 (.tmp 14)⟩,
 mv_ 6 15,
 mv_ 7 16]
 (.seq (sq_ [mv_ 17 0,
 mv_ 18 6,
 mv_ 19 7,
 cl_ 20 30 [(.tmp 17),(.tmp 18),(.tmp 19)],
 pr_ 21 (no_ 20)]
 (.cond (.tmp 21)
 (sq_ [pr_ 8 (.allocm [.pl (.bool false),.pl (.float .f64 0),.pl (.float .f64 0)])]
 (sq_ [pr_ 22 (lt_ 3 8),
 st_ (so_ 3 4 22)]
 .ret))
 .skip))
 (sq_ [pr_ 23 (lt_ 3 5),
 st_ (so_ 3 4 23)]
 .ret))))
def o35:List Tmp:=[4]
def r35:List RV:=[.cell 4 3 true]
theorem t35:Text Try.prog 35 o35 c35 r35 24:=.mk_ Try.f35 rfl
def c36:ACode :=
 (sq_ [pr_ 2 (.allocm [.pl (.bool false),.pl (.float .f64 0),.pl (.float .f64 0)]),
 pr_ 3 (mi_ .i64 0),
 pr_ 4 mf_]
 (sq_ [mv_ 9 0,
 c1_ 10 10 9,
 mv_ 5 10]
 (sq_ [pr_ 6 (.allocm [.pl (.bool false),.pl (.float .f64 0),.pl (.float .f64 0)])]
 (.seq (sq_ [mv_ 11 5,
 c1_ 12 31 11]
 (.block 0 (sq_ [pr_ 16 (bk_ .eql 12 .u8 0),
 mv_ 15 16]
 (.cond (.tmp 15)
 (.ops [mv_ 17 5,
 c1_ 18 53 17,
 mv_ 19 5,
 c1_ 20 53 19,
 pr_ 21 (fa_ 1 6),
 st_ (so_ 1 21 18),
 pr_ 22 (fa_ 2 6),
 st_ (so_ 1 22 20)])
 (sq_ [pr_ 24 (bk_ .eql 12 .u8 1),
 mv_ 23 24]
 (.cond (.tmp 23)
 (.ops [pr_ 25 (fa_ 0 6),
 st_ (.store 1 (.tmp 25) (.const (.bool true)))])
 (.ops [mv_ 13 5,
 cl_ 14 12 [(.tmp 13),(.const (.bool false))]])))))))
 (sq_ [mv_ 26 5,
 pr_ 27 (lt_ 3 6),
 c1_ 28 54 27,
 cl_ 29 12 [(.tmp 26),(.tmp 28)]]
 (sq_ [mv_ 31 5,
 c1_ 32 43 31,
 mv_ 30 32,
 pr_ 33 (ex_ 0 30),
 pr_ 34 (ex_ 1 30),
 mv_ 7 33,
 mv_ 8 34]
 (.seq (sq_ [mv_ 35 8,
 pr_ 36 (no_ 35)]
 (.cond (.tmp 36)
 (sq_ [pr_ 37 (.build [.pl (.bool false),.pl (.float .f64 0),.pl (.float .f64 0)] []),
 st_ (so_ 3 2 37),
 pr_ 3 (mi_ .i64 0),
 pr_ 4 mf_]
 .ret)
 .skip))
 (sq_ [pr_ 38 (lt_ 3 6),
 mv_ 39 7,
 st_ (so_ 3 2 38),
 mv_ 3 39,
 pr_ 4 mt_]
 .ret))))))))
def o36:List Tmp:=[2,6]
def r36:List RV:=[.cell 2 3 true,.tmp 3,.tmp 4]
theorem t36:Text Try.prog 36 o36 c36 r36 40:=.mk_ Try.f36 rfl
def c37:ACode :=
 (sq_ [pr_ 4 (.allocm [.nils,.nils,.pl (.bool false),.pl (.float .f64 0),.pl (.float .f64 0),.nils])]
 (sq_ [mv_ 10 1,
 mv_ 11 0,
 c1_ 12 29 11,
 ⟨some 13,none,.call (.tmp 10) [(.tmp 12)]⟩,
 mv_ 9 13,
 pr_ 14 (ex_ 0 9),
 pr_ 15 (ex_ 1 9),
 pr_ 16 (ex_ 2 9),
 ⟨some 5,none,.fresh 6 5 (.tmp 14)⟩,
 mv_ 6 15,
 mv_ 7 16]
 (.seq (sq_ [mv_ 17 0,
 mv_ 18 6,
 mv_ 19 7,
 cl_ 20 30 [(.tmp 17),(.tmp 18),(.tmp 19)],
 pr_ 21 (no_ 20)]
 (.cond (.tmp 21)
 (sq_ [pr_ 8 (.allocm [.nils,.nils,.pl (.bool false),.pl (.float .f64 0),.pl (.float .f64 0),.nils])]
 (sq_ [pr_ 22 (lt_ 6 8),
 st_ (so_ 6 4 22)]
 .ret))
 .skip))
 (sq_ [pr_ 23 (lt_ 6 5),
 st_ (so_ 6 4 23)]
 .ret))))
def o37:List Tmp:=[4]
def r37:List RV:=[.cell 4 6 true]
theorem t37:Text Try.prog 37 o37 c37 r37 24:=.mk_ Try.f37 rfl
def c38:ACode :=
 (sq_ [pr_ 2 (.allocm [.nils,.nils,.pl (.bool false),.pl (.float .f64 0),.pl (.float .f64 0),.nils]),
 pr_ 3 (mi_ .i64 0),
 pr_ 4 mf_]
 (sq_ [mv_ 9 0,
 c1_ 10 10 9,
 mv_ 5 10]
 (sq_ [mv_ 11 5,
 cl_ 12 33 [(.tmp 11),(.func 34)],
 mv_ 13 5,
 cl_ 14 33 [(.tmp 13),(.func 34)],
 mv_ 15 5,
 cl_ 16 35 [(.tmp 15),(.func 36)],
 pr_ 17 (.build [.nils,.nils,.pl (.bool false),.pl (.float .f64 0),.pl (.float .f64 0),.nils] [(0,1,(.tmp 12)),(1,1,(.tmp 14)),(2,3,(.tmp 16))]),
 pr_ 6 (.allocm [.nils,.nils,.pl (.bool false),.pl (.float .f64 0),.pl (.float .f64 0),.nils]),
 st_ (so_ 6 6 17)]
 (.seq (sq_ [mv_ 18 5,
 cl_ 19 32 [(.tmp 18),(.const (.int .u64 4))],
 pr_ 20 (mi_ .u64 0)]
 (.block 0 (.loop [0,1,3,4,7,8,9,10,11,12,13,14,15,16,17,18,21,22,23,24,25,26,27,28,29,30,31,32,33,34,35,36,37,38,39,40,41,42,43] (sq_ [pr_ 21 (bt_ .lss 20 19)]
 (.seq (.cond (.tmp 21)
 .skip
 (.exit 0))
 (.seq (.block 1 (.draw [⟨pr_ 22 (fa_ 5 6),[],false,0,1⟩,
 ⟨pr_ 23 (lf_ 1 22),[0],false,0,1⟩,
 ⟨mv_ 24 5,[],false,0,0⟩,
 ⟨cl_ 25 11 [(.tmp 24),(.const (.int .i64 12))],[2],true,0,0⟩,
 ⟨pr_ 26 (.bsl false 1 false 1 [.pl (.string .empty)] [(0,1,(.tmp 25))]),[2,3],false,1,1⟩,
 ⟨pr_ 27 (.app 1 (.tmp 23) (.tmp 26)),[0,1,2,3,4],true,0,0⟩,
 ⟨pr_ 28 (fa_ 5 6),(List.range 6),false,2,2⟩,
 ⟨st_ (so_ 1 28 27),(List.range 7),true,0,0⟩]))
 (.ops [pr_ 29 (bk_ .add 20 .u64 1),
 mv_ 20 29])))))))
 (.seq (.ghost (.shutc 6 5 1) (.ops [mv_ 30 5,
 pr_ 31 (lt_ 6 6),
 c1_ 32 48 31,
 cl_ 33 12 [(.tmp 30),(.tmp 32)]]))
 (sq_ [mv_ 35 5,
 c1_ 36 43 35,
 mv_ 34 36,
 pr_ 37 (ex_ 0 34),
 pr_ 38 (ex_ 1 34),
 mv_ 7 37,
 mv_ 8 38]
 (.seq (sq_ [mv_ 39 8,
 pr_ 40 (no_ 39)]
 (.cond (.tmp 40)
 (sq_ [pr_ 41 (.build [.nils,.nils,.pl (.bool false),.pl (.float .f64 0),.pl (.float .f64 0),.nils] []),
 st_ (so_ 6 2 41),
 pr_ 3 (mi_ .i64 0),
 pr_ 4 mf_]
 .ret)
 .skip))
 (sq_ [pr_ 42 (lt_ 6 6),
 mv_ 43 7,
 st_ (so_ 6 2 42),
 mv_ 3 43,
 pr_ 4 mt_]
 .ret))))))))
def o38:List Tmp:=[2,6]
def r38:List RV:=[.cell 2 6 true,.tmp 3,.tmp 4]
theorem t38:Text Try.prog 38 o38 c38 r38 44:=.mk_ Try.f38 rfl
def c39:ACode :=
 (sq_ [pr_ 4 (.mov (.const (.slice none 0 0)))]
 (sq_ [mv_ 10 1,
 mv_ 11 0,
 c1_ 12 29 11,
 ⟨some 13,none,.call (.tmp 10) [(.tmp 12)]⟩,
 mv_ 9 13,
 pr_ 14 (ex_ 0 9),
 pr_ 15 (ex_ 1 9),
 pr_ 16 (ex_ 2 9),
 mv_ 5 14,
 mv_ 6 15,
 mv_ 7 16]
 (.seq (sq_ [mv_ 17 0,
 mv_ 18 6,
 mv_ 19 7,
 cl_ 20 30 [(.tmp 17),(.tmp 18),(.tmp 19)],
 pr_ 21 (no_ 20)]
 (.cond (.tmp 21)
 (sq_ [pr_ 8 (.mov (.const (.slice none 0 0)))]
 (sq_ [mv_ 22 8,
 mv_ 4 22]
 .ret))
 .skip))
 (sq_ [mv_ 23 5,
 mv_ 4 23]
 .ret))))
def o39:List Tmp:=[]
def r39:List RV:=[.tmp 4]
theorem t39:Text Try.prog 39 o39 c39 r39 24:=.mk_ Try.f39 rfl
def c40:ACode :=
 (sq_ [pr_ 2 (.mov (.const (.slice none 0 0))),
 pr_ 3 (mi_ .i64 0),
 pr_ 4 mf_]
 (sq_ [mv_ 9 0,
 c1_ 10 10 9,
 mv_ 5 10]
 (.seq (.after (.ops [pr_ 6 (.mov (.const (.slice none 0 0)))]) (.own 6 2))
 (.seq (sq_ [mv_ 11 5,
 cl_ 12 32 [(.tmp 11),(.const (.int .u64 6))],
 pr_ 13 (mi_ .u64 0)]
 (.block 0 (.loop [0,1,2,3,4,7,8,9,10,11,14,15,16,17,18,19,20,21,22,23,24,25,26,27,28,29,30,31,32,33,34,35,36] (sq_ [pr_ 14 (bt_ .lss 13 12)]
 (.seq (.cond (.tmp 14)
 .skip
 (.exit 0))
 (.seq (.block 1 (.ops [mv_ 15 6,
 mv_ 16 5,
 cl_ 17 11 [(.tmp 16),(.const (.int .i64 12))],
 mv_ 18 5,
 cl_ 19 11 [(.tmp 18),(.const (.int .i64 24))],
 pr_ 20 (.build [.pl (.string .empty),.pl (.string .empty)] [(0,1,(.tmp 17)),(1,1,(.tmp 19))]),
 pr_ 21 (.bsl false 2 true 1 [.pl (.string .empty),.pl (.string .empty)] [(0,2,(.tmp 20))]),
 pr_ 22 (.app 2 (.tmp 15) (.tmp 21)),
 mv_ 6 22]))
 (.ops [pr_ 23 (bk_ .add 13 .u64 1),
 mv_ 13 23])))))))
 (.seq (.ghost (.shut 6) (.ops [mv_ 24 5,
 mv_ 25 6,
 c1_ 26 49 25,
 cl_ 27 12 [(.tmp 24),(.tmp 26)]]))
 (sq_ [mv_ 29 5,
 c1_ 30 43 29,
 mv_ 28 30,
 pr_ 31 (ex_ 0 28),
 pr_ 32 (ex_ 1 28),
 mv_ 7 31,
 mv_ 8 32]
 (.seq (sq_ [mv_ 33 8,
 pr_ 34 (no_ 33)]
 (.cond (.tmp 34)
 (sq_ [pr_ 2 (.mov (.const (.slice none 0 0))),
 pr_ 3 (mi_ .i64 0),
 pr_ 4 mf_]
 (.ghost (.shut 2) .ret))
 .skip))
 (sq_ [mv_ 35 6,
 mv_ 36 7,
 mv_ 2 35,
 mv_ 3 36,
 pr_ 4 mt_]
 (.ghost (.shut 2) .ret)))))))))
def o40:List Tmp:=[]
def r40:List RV:=[.tmp 2,.tmp 3,.tmp 4]
theorem t40:Text Try.prog 40 o40 c40 r40 37:=.mk_ Try.f40 rfl
def c41:ACode :=
 (sq_ [pr_ 2 (.mov (.const (.float Go.FloatKind.f64 0))),
 pr_ 3 mf_]
 (sq_ [mv_ 5 0,
 c1_ 6 55 5,
 mv_ 4 6]
 (.seq (sq_ [mv_ 7 4,
 c1_ 8 27 7,
 mv_ 9 0,
 pr_ 10 (bt_ .neq 8 9)]
 (.cond (.tmp 10)
 (sq_ [pr_ 2 (.mov (.const (.float Go.FloatKind.f64 0))),
 pr_ 3 mf_]
 .ret)
 .skip))
 (sq_ [mv_ 11 4,
 mv_ 2 11,
 pr_ 3 mt_]
 .ret))))
def o41:List Tmp:=[]
def r41:List RV:=[.tmp 2,.tmp 3]
theorem t41:Text Try.prog 41 o41 c41 r41 12:=.mk_ Try.f41 rfl
def c42:ACode :=
 (sq_ [pr_ 2 (mi_ .u64 0)]
 (sq_ [mv_ 6 0,
 c1_ 7 29 6,
 c1_ 8 56 7,
 mv_ 5 8,
 pr_ 9 (ex_ 0 5),
 pr_ 10 (ex_ 1 5),
 mv_ 3 9,
 mv_ 4 10]
 (.seq (sq_ [mv_ 11 0,
 mv_ 12 4,
 cl_ 13 30 [(.tmp 11),(.const (.int .i64 8)),(.tmp 12)],
 pr_ 14 (no_ 13)]
 (.cond (.tmp 14)
 (sq_ [pr_ 2 (mi_ .u64 0)]
 .ret)
 .skip))
 (sq_ [mv_ 15 3,
 mv_ 2 15]
 .ret))))
def o42:List Tmp:=[]
def r42:List RV:=[.tmp 2]
theorem t42:Text Try.prog 42 o42 c42 r42 16:=.mk_ Try.f42 rfl
def c43:ACode :=
 (sq_ [pr_ 2 (mi_ .i64 0),
 pr_ 3 mf_]
 (.seq (sq_ [mv_ 4 0,
 pr_ 5 (nc_ 4),
 pr_ 6 (fa_ 2 5),
 pr_ 7 (lf_ 1 6)]
 (.cond (.tmp 7)
 (sq_ [pr_ 2 (mi_ .i64 0),
 pr_ 3 mf_]
 .ret)
 .skip))
 (sq_ [mv_ 8 0,
 pr_ 9 (nc_ 8),
 pr_ 10 (fa_ 1 9),
 pr_ 11 (lf_ 1 10),
 mv_ 2 11,
 pr_ 3 mt_]
 .ret)))
def o43:List Tmp:=[]
def r43:List RV:=[.tmp 2,.tmp 3]
theorem t43:Text Try.prog 43 o43 c43 r43 12:=.mk_ Try.f43 rfl
def c44:ACode :=
 (sq_ [pr_ 2 (.boxr (.tmp 0)),
 pr_ 4 mf_]
 (sq_ [mv_ 5 1,
 pr_ 6 (bk_ .and 5 .i64 1),
 pr_ 7 (bk_ .gtr 6 .i64 0),
 mv_ 8 7,
 gp_ 9 8 false (fa_ 2 2),
 gp_ 10 8 false (lf_ 1 9),
 gp_ 11 8 false (bk_ .eql 10 .i64 0),
 pr_ 12 (po_ 8 11),
 mv_ 13 12,
 gp_ 14 13 true (mo_ 1),
 gp_ 15 13 true (bk_ .and 14 .i64 2),
 gp_ 16 13 true (bk_ .gtr 15 .i64 0),
 gp_ 17 13 true (mo_ 16),
 gp_ 18 17 false (fa_ 3 2),
 gp_ 19 17 false (lf_ 1 18),
 gp_ 20 17 false (.bin false .eql (.tmp 19) (.const (.string (ByteArray.mk #[])))),
 gp_ 21 13 true (po_ 17 20),
 pr_ 22 (pa_ 13 21),
 mv_ 23 22,
 gp_ 24 23 true (mo_ 1),
 gp_ 25 23 true (bk_ .and 24 .i64 4),
 gp_ 26 23 true (bk_ .gtr 25 .i64 0),
 gp_ 27 23 true (mo_ 26),
 gp_ 28 27 false (fa_ 4 2),
 gp_ 29 27 false (lf_ 1 28),
 gp_ 30 27 false (bk_ .eql 29 .u64 0),
 gp_ 31 27 false (mo_ 30),
 gp_ 32 31 true (fa_ 5 2),
 gp_ 33 31 true (lf_ 1 32),
 gp_ 34 31 true (bk_ .eql 33 .u64 0),
 gp_ 35 27 false (pa_ 31 34),
 gp_ 36 23 true (po_ 27 35),
 pr_ 37 (pa_ 23 36),
 mv_ 38 37,
 gp_ 39 38 true (mo_ 1),
 gp_ 40 38 true (bk_ .and 39 .i64 8),
 gp_ 41 38 true (bk_ .gtr 40 .i64 0),
 gp_ 42 38 true (mo_ 41),
 gp_ 43 42 false (fa_ 6 2),
 gp_ 44 42 false (lf_ 1 43),
 gp_ 45 42 false (bk_ .eql 44 .i64 0),
 gp_ 46 38 true (po_ 42 45),
 pr_ 47 (pa_ 38 46),
 mv_ 48 47,
 gp_ 49 48 true (mo_ 1),
 gp_ 50 48 true (bk_ .and 49 .i64 16),
 gp_ 51 48 true (bk_ .gtr 50 .i64 0),
 gp_ 52 48 true (mo_ 51),
 gp_ 53 52 false (fa_ 7 2),
 gp_ 54 52 false (lf_ 1 53),
 gp_ 55 52 false (.lenv (.tmp 54)),
 gp_ 56 52 false (bk_ .eql 55 .i64 0),
 gp_ 57 48 true (po_ 52 56),
 pr_ 58 (pa_ 48 57),
 mv_ 59 58,
 gp_ 60 59 true (mo_ 1),
 gp_ 61 59 true (bk_ .and 60 .i64 64),
 gp_ 62 59 true (bk_ .gtr 61 .i64 0),
 gp_ 63 59 true (mo_ 62),
 gp_ 64 63 false (fa_ 8 2),
 gp_ 65 63 false (lt_ 3 64),
 gc_ 66 63 false 57 [(.tmp 65)],
 gp_ 67 59 true (po_ 63 66),
 pr_ 68 (pa_ 59 67),
 mv_ 69 68,
 gp_ 70 69 true (mo_ 1),
 gp_ 71 69 true (bk_ .and 70 .i64 128),
 gp_ 72 69 true (bk_ .gtr 71 .i64 0),
 gp_ 73 69 true (mo_ 72),
 gp_ 74 73 false (fa_ 11 2),
 gp_ 75 73 false (lt_ 6 74),
 gc_ 76 73 false 58 [(.tmp 75)],
 gp_ 77 69 true (po_ 73 76),
 pr_ 78 (pa_ 69 77),
 mv_ 79 78,
 gp_ 80 79 true (mo_ 1),
 gp_ 81 79 true (bk_ .and 80 .i64 256),
 gp_ 82 79 true (bk_ .gtr 81 .i64 0),
 gp_ 83 79 true (mo_ 82),
 gp_ 84 83 false (fa_ 17 2),
 gp_ 85 83 false (lf_ 1 84),
 gp_ 86 83 false (.lenv (.tmp 85)),
 gp_ 87 83 false (bk_ .eql 86 .i64 0),
 gp_ 88 79 true (po_ 83 87),
 pr_ 89 (pa_ 79 88),
 mv_ 90 89,
 gp_ 91 90 true (mo_ 1),
 gp_ 92 90 true (bk_ .and 91 .i64 512),
 gp_ 93 90 true (bk_ .gtr 92 .i64 0),
 gp_ 94 90 true (mo_ 93),
 gp_ 95 94 false (fa_ 18 2),
 gp_ 96 94 false (lf_ 1 95),
 gc_ 97 94 false 59 [(.tmp 96)],
 gp_ 98 90 true (po_ 94 97),
 pr_ 99 (pa_ 90 98),
 mv_ 4 99]
 .ret))
def o44:List Tmp:=[]
def r44:List RV:=[.tmp 4]
theorem t44:Text Try.prog 44 o44 c44 r44 100:=.mk_ Try.f44 rfl
def c45:ACode :=
 (sq_ [pr_ 2 (.boxr (.tmp 0)),
 pr_ 4 mf_]
 (sq_ [pr_ 5 (fa_ 2 2),
 pr_ 6 (lf_ 1 5),
 pr_ 7 (bk_ .geq 6 .i64 0),
 mv_ 8 7,
 gp_ 9 8 true (fa_ 2 2),
 gp_ 10 8 true (lf_ 1 9),
 gp_ 11 8 true (bk_ .leq 10 .i64 2147483647),
 pr_ 12 (pa_ 8 11),
 mv_ 13 12,
 gp_ 14 13 true (mo_ 1),
 gp_ 15 13 true (bk_ .and 14 .i64 2),
 gp_ 16 13 true (bk_ .eql 15 .i64 0),
 gp_ 17 13 true (mo_ 16),
 gp_ 18 17 false (fa_ 3 2),
 gp_ 19 17 false (lf_ 1 18),
 gc_ 20 17 false 13 [(.tmp 19)],
 gp_ 21 13 true (po_ 17 20),
 pr_ 22 (pa_ 13 21),
 mv_ 23 22,
 gp_ 24 23 true (fa_ 4 2),
 gp_ 25 23 true (lf_ 1 24),
 gp_ 26 23 true (bk_ .leq 25 .u64 1099511627776),
 pr_ 27 (pa_ 23 26),
 mv_ 28 27,
 gp_ 29 28 true (fa_ 5 2),
 gp_ 30 28 true (lf_ 1 29),
 gp_ 31 28 true (bk_ .leq 30 .u64 1099511627776),
 pr_ 32 (pa_ 28 31),
 mv_ 33 32,
 gp_ 34 33 true (fa_ 6 2),
 gp_ 35 33 true (lf_ 1 34),
 gp_ 36 33 true (bk_ .geq 35 .i64 0),
 pr_ 37 (pa_ 33 36),
 mv_ 38 37,
 gp_ 39 38 true (fa_ 6 2),
 gp_ 40 38 true (lf_ 1 39),
 gp_ 41 38 true (bk_ .leq 40 .i64 3),
 pr_ 42 (pa_ 38 41),
 mv_ 43 42,
 gp_ 44 43 true (fa_ 7 2),
 gp_ 45 43 true (lf_ 1 44),
 gc_ 46 43 true 47 [(.tmp 45)],
 pr_ 47 (pa_ 43 46),
 mv_ 48 47,
 gp_ 49 48 true (mo_ 1),
 gp_ 50 48 true (bk_ .and 49 .i64 32),
 gp_ 51 48 true (bk_ .eql 50 .i64 0),
 gp_ 52 48 true (mo_ 51),
 gp_ 53 52 false (fa_ 7 2),
 gp_ 54 52 false (lf_ 1 53),
 gp_ 55 52 false (.lenv (.tmp 54)),
 gp_ 56 52 false (bk_ .gtr 55 .i64 0),
 gp_ 57 48 true (po_ 52 56),
 pr_ 58 (pa_ 48 57),
 mv_ 59 58,
 gp_ 60 59 true (mo_ 1),
 gp_ 61 59 true (bk_ .and 60 .i64 64),
 gp_ 62 59 true (bk_ .eql 61 .i64 0),
 gp_ 63 59 true (mo_ 62),
 gp_ 64 63 false (fa_ 8 2),
 gp_ 65 63 false (lt_ 3 64),
 gc_ 66 63 false 54 [(.tmp 65)],
 gp_ 67 59 true (po_ 63 66),
 pr_ 68 (pa_ 59 67),
 mv_ 69 68,
 gp_ 70 69 true (mo_ 1),
 gp_ 71 69 true (bk_ .and 70 .i64 128),
 gp_ 72 69 true (bk_ .eql 71 .i64 0),
 gp_ 73 69 true (mo_ 72),
 gp_ 74 73 false (fa_ 11 2),
 gp_ 75 73 false (lt_ 6 74),
 gc_ 76 73 false 48 [(.tmp 75)],
 gp_ 77 69 true (po_ 73 76),
 pr_ 78 (pa_ 69 77),
 mv_ 79 78,
 gp_ 80 79 true (mo_ 1),
 gp_ 81 79 true (bk_ .and 80 .i64 256),
 gp_ 82 79 true (bk_ .eql 81 .i64 0),
 gp_ 83 79 true (mo_ 82),
 gp_ 84 83 false (fa_ 17 2),
 gp_ 85 83 false (lf_ 1 84),
 gc_ 86 83 false 49 [(.tmp 85)],
 gp_ 87 79 true (po_ 83 86),
 pr_ 88 (pa_ 79 87),
 mv_ 4 88]
 .ret))
def o45:List Tmp:=[]
def r45:List RV:=[.tmp 4]
theorem t45:Text Try.prog 45 o45 c45 r45 89:=.mk_ Try.f45 rfl
def c46:ACode :=
 (sq_ [pr_ 4 (.mov (.const (.slice none 0 0)))]
 (.seq (sq_ [mv_ 5 1,
 pr_ 6 (bk_ .lss 5 .i64 0)]
 (.cond (.tmp 6)
 (.ops [pr_ 7 (.bad),
 st_ (.bad)])
 .skip))
 (.seq (sq_ [mv_ 8 1,
 mv_ 9 0,
 pr_ 10 (.capn (.tmp 9)),
 mv_ 11 0,
 pr_ 12 (.lenv (.tmp 11)),
 pr_ 13 (bt_ .sub 10 12),
 pr_ 14 (bt_ .sub 8 13),
 mv_ 1 14]
 (sq_ [mv_ 15 1,
 pr_ 16 (bk_ .gtr 15 .i64 0)]
 (.cond (.tmp 16)
 (.ops [mv_ 17 0,
 mv_ 18 0,
 pr_ 19 (.capn (.tmp 18)),
 pr_ 20 (.slco 1 (.tmp 17) none (some (.tmp 19))),
 mv_ 21 1,
 pr_ 22 (.appz 1 false [.pl (.int .u8 0)] (.tmp 20) (.tmp 21)),
 mv_ 23 0,
 pr_ 24 (.lenv (.tmp 23)),
 pr_ 25 (.slco 1 (.tmp 22) none (some (.tmp 24))),
 mv_ 0 25])
 .skip)))
 (sq_ [mv_ 26 0,
 mv_ 4 26]
 .ret))))
def o46:List Tmp:=[20,25]
def r46:List RV:=[.tmp 4]
theorem t46:Text Try.prog 46 o46 c46 r46 27:=.mk_ Try.f46 rfl
def c47:ACode :=
 (sq_ [pr_ 2 mf_]
 (.seq (sq_ [mv_ 5 0,
 pr_ 6 (.lenv (.tmp 5)),
 pr_ 7 (bk_ .gtr 6 .i64 5)]
 (.cond (.tmp 7)
 (sq_ [pr_ 2 mf_]
 .ret)
 .skip))
 (.seq (sq_ [mv_ 8 0,
 pr_ 9 (.lenv (.tmp 8)),
 pr_ 10 (mi_ .i64 0)]
 (.block 0 (.loop [1,2,3,4,5,6,7,11,12,13,14,15,16,17,18,19,20,21,22,23,24,25,26,27,28,29,30,31,32] (sq_ [pr_ 11 (bt_ .lss 10 9)]
 (.seq (.cond (.tmp 11)
 .skip
 (.exit 0))
 (.seq (.block 1 (sq_ [mv_ 12 10,
 pr_ 13 (.iadrs 3 (.tmp 8) (.tmp 10)),
 pr_ 14 (lt_ 3 13),
 pr_ 4 (.allocm [.pl (.int .i64 0),.pl (.string .empty),.pl (.string .empty)]),
 mv_ 3 12,
 st_ (so_ 3 4 14)]
 (.seq (.draw [⟨pr_ 15 (lt_ 3 4),[],false,0,0⟩,
 ⟨c1_ 16 60 15,[0],true,0,0⟩,
 ⟨pr_ 17 (no_ 16),[0,1],false,1,1⟩,
 ⟨mv_ 18 17,[0,1,2],false,1,1⟩,
 ⟨gp_ 19 18 false (mo_ 3),[0,1,2,3],false,1,1⟩,
 ⟨gp_ 20 18 false (bk_ .gtr 19 .i64 0),[0,1,2,3,4],false,1,1⟩,
 ⟨gp_ 21 18 false (mo_ 20),(List.range 6),false,1,1⟩,
 ⟨gp_ 22 21 true (mo_ 0),(List.range 7),false,1,1⟩,
 ⟨gp_ 23 21 true (mo_ 3),(List.range 7),false,1,1⟩,
 ⟨gp_ 24 21 true (bk_ .sub 23 .i64 1),[0,1,2,3,4,5,6,8],false,1,1⟩,
 ⟨gp_ 25 21 true (.iadrs 3 (.tmp 22) (.tmp 24)),(List.range 10),false,1,1⟩,
 ⟨gp_ 26 21 true (lt_ 3 25),(List.range 11),false,1,1⟩,
 ⟨gp_ 27 21 true (lt_ 3 4),(List.range 7),false,1,1⟩,
 ⟨gc_ 28 21 true 61 [(.tmp 26),(.tmp 27)],(List.range 13),true,0,0⟩,
 ⟨gp_ 29 21 true (bk_ .geq 28 .i64 0),(List.range 14),false,2,2⟩,
 ⟨gp_ 30 18 false (pa_ 21 29),(List.range 15),false,2,2⟩,
 ⟨pr_ 31 (po_ 18 30),(List.range 16),false,2,2⟩])
 (.cond (.tmp 31)
 (sq_ [pr_ 2 mf_]
 .ret)
 .skip))))
 (.after (.after (.ops [pr_ 32 (bk_ .add 10 .i64 1),
 mv_ 10 32]) (.clear [4])) (.keep 0))))))))
 (sq_ [pr_ 2 mt_]
 .ret))))
def o47:List Tmp:=[4]
def r47:List RV:=[.tmp 2]
theorem t47:Text Try.prog 47 o47 c47 r47 33:=.mk_ Try.f47 rfl
def c48:ACode :=
 (sq_ [pr_ 1 (.boxr (.tmp 0)),
 pr_ 2 mf_]
 (.seq (sq_ [pr_ 5 (fa_ 0 1),
 pr_ 6 (lf_ 1 5),
 pr_ 7 (.lenv (.tmp 6)),
 pr_ 8 (bk_ .eql 7 .i64 0),
 mv_ 9 8,
 gp_ 10 9 false (fa_ 1 1),
 gp_ 11 9 false (lf_ 1 10),
 gp_ 12 9 false (.lenv (.tmp 11)),
 gp_ 13 9 false (bk_ .eql 12 .i64 0),
 pr_ 14 (po_ 9 13),
 mv_ 15 14,
 gp_ 16 15 false (fa_ 0 1),
 gp_ 17 15 false (lf_ 1 16),
 gc_ 18 15 false 47 [(.tmp 17)],
 gp_ 19 15 false (no_ 18),
 pr_ 20 (po_ 15 19),
 mv_ 21 20,
 gp_ 22 21 false (fa_ 1 1),
 gp_ 23 21 false (lf_ 1 22),
 gc_ 24 21 false 47 [(.tmp 23)],
 gp_ 25 21 false (no_ 24),
 pr_ 26 (po_ 21 25),
 mv_ 27 26,
 gp_ 28 27 false (fa_ 2 1),
 gp_ 29 27 false (lt_ 3 28),
 gc_ 30 27 false 54 [(.tmp 29)],
 gp_ 31 27 false (no_ 30),
 pr_ 32 (po_ 27 31),
 mv_ 33 32,
 gp_ 34 33 false (fa_ 5 1),
 gp_ 35 33 false (lf_ 1 34),
 gp_ 36 33 false (.lenv (.tmp 35)),
 gp_ 37 33 false (bk_ .gtr 36 .i64 4),
 pr_ 38 (po_ 33 37)]
 (.cond (.tmp 38)
 (sq_ [pr_ 2 mf_]
 .ret)
 .skip))
 (.seq (sq_ [pr_ 39 (fa_ 5 1),
 pr_ 40 (lf_ 1 39),
 pr_ 41 (.lenv (.tmp 40)),
 pr_ 42 (mi_ .i64 0)]
 (.block 0 (.loop [0,2,3,4,5,6,7,8,9,10,11,12,13,14,15,16,17,18,19,20,21,22,23,24,25,26,27,28,29,30,31,32,33,34,35,36,37,38,39,43,44,45,46,47,48,49,50,51,52,53,54,55,56,57,58,59,60,61,62,63,64] (sq_ [pr_ 43 (bt_ .lss 42 41)]
 (.seq (.cond (.tmp 43)
 .skip
 (.exit 0))
 (.seq (.block 1 (sq_ [mv_ 44 42,
 pr_ 45 (.iadrs 1 (.tmp 40) (.tmp 42)),
 pr_ 46 (lf_ 1 45),
 mv_ 3 44,
 mv_ 4 46]
 (sq_ [mv_ 47 4,
 c1_ 48 62 47,
 pr_ 49 (no_ 48),
 mv_ 50 49,
 gp_ 51 50 false (mo_ 3),
 gp_ 52 50 false (bk_ .gtr 51 .i64 0),
 gp_ 53 50 false (mo_ 52),
 gp_ 54 53 true (mo_ 4),
 gp_ 55 53 true (fa_ 5 1),
 gp_ 56 53 true (lf_ 1 55),
 gp_ 57 53 true (mo_ 3),
 gp_ 58 53 true (bk_ .sub 57 .i64 1),
 gp_ 59 53 true (.iadrs 1 (.tmp 56) (.tmp 58)),
 gp_ 60 53 true (lf_ 1 59),
 gp_ 61 53 true (bt_ .leq 54 60),
 gp_ 62 50 false (pa_ 53 61),
 pr_ 63 (po_ 50 62)]
 (.cond (.tmp 63)
 (sq_ [pr_ 2 mf_]
 .ret)
 .skip))))
 (.ops [pr_ 64 (bk_ .add 42 .i64 1),
 mv_ 42 64])))))))
 (sq_ [pr_ 2 mt_]
 .ret))))
def o48:List Tmp:=[]
def r48:List RV:=[.tmp 2]
theorem t48:Text Try.prog 48 o48 c48 r48 65:=.mk_ Try.f48 rfl
def c49:ACode :=
 (sq_ [pr_ 2 mf_]
 (.seq (sq_ [mv_ 5 0,
 pr_ 6 (.lenv (.tmp 5)),
 pr_ 7 (bk_ .lss 6 .i64 1),
 mv_ 8 7,
 gp_ 9 8 false (mo_ 0),
 gp_ 10 8 false (.lenv (.tmp 9)),
 gp_ 11 8 false (bk_ .gtr 10 .i64 6),
 pr_ 12 (po_ 8 11)]
 (.cond (.tmp 12)
 (sq_ [pr_ 2 mf_]
 .ret)
 .skip))
 (.seq (sq_ [mv_ 13 0,
 pr_ 14 (.lenv (.tmp 13)),
 pr_ 15 (mi_ .i64 0)]
 (.block 0 (.loop [1,2,3,4,5,6,7,8,9,10,11,12,16,17,18,19,20,21,22,23,24,25,26,27,28,29,30,31,32,33,34,35,36,37,38,39,40,41,42,43,44,45] (sq_ [pr_ 16 (bt_ .lss 15 14)]
 (.seq (.cond (.tmp 16)
 .skip
 (.exit 0))
 (.seq (.block 1 (sq_ [mv_ 17 15,
 pr_ 18 (.iadrs 2 (.tmp 13) (.tmp 15)),
 pr_ 19 (lt_ 2 18),
 pr_ 4 (.allocm [.pl (.string .empty),.pl (.string .empty)]),
 mv_ 3 17,
 st_ (so_ 2 4 19)]
 (.seq (.after (.after (.draw [⟨pr_ 20 (fa_ 0 4),[],false,0,0⟩,
 ⟨pr_ 21 (lf_ 1 20),[0],false,0,0⟩,
 ⟨c1_ 22 62 21,[0,1],true,0,0⟩,
 ⟨pr_ 23 (no_ 22),[0,1,2],false,1,1⟩,
 ⟨mv_ 24 23,[0,1,2,3],false,1,1⟩,
 ⟨gp_ 25 24 false (fa_ 1 4),[0,1,2,3,4],false,1,1⟩,
 ⟨gp_ 26 24 false (lf_ 1 25),(List.range 6),false,1,1⟩,
 ⟨gc_ 27 24 false 63 [(.tmp 26)],(List.range 7),true,0,0⟩,
 ⟨gp_ 28 24 false (no_ 27),(List.range 8),false,2,2⟩,
 ⟨pr_ 29 (po_ 24 28),(List.range 9),false,2,2⟩,
 ⟨mv_ 30 29,(List.range 10),false,2,2⟩,
 ⟨gp_ 31 30 false (mo_ 3),(List.range 11),false,2,2⟩,
 ⟨gp_ 32 30 false (bk_ .gtr 31 .i64 0),(List.range 12),false,2,2⟩,
 ⟨gp_ 33 30 false (mo_ 32),(List.range 13),false,2,2⟩,
 ⟨gp_ 34 33 true (fa_ 0 4),(List.range 14),false,2,2⟩,
 ⟨gp_ 35 33 true (lf_ 1 34),(List.range 15),false,2,2⟩,
 ⟨gp_ 36 33 true (mo_ 0),(List.range 14),false,2,2⟩,
 ⟨gp_ 37 33 true (mo_ 3),(List.range 14),false,2,2⟩,
 ⟨gp_ 38 33 true (bk_ .sub 37 .i64 1),[0,1,2,3,4,5,6,7,8,9,10,11,12,13,17],false,2,2⟩,
 ⟨gp_ 39 33 true (.iadrs 2 (.tmp 36) (.tmp 38)),[0,1,2,3,4,5,6,7,8,9,10,11,12,13,16,17,18],false,2,2⟩,
 ⟨gp_ 40 33 true (fa_ 0 39),[0,1,2,3,4,5,6,7,8,9,10,11,12,13,16,17,18,19],false,2,2⟩,
 ⟨gp_ 41 33 true (lf_ 1 40),[0,1,2,3,4,5,6,7,8,9,10,11,12,13,16,17,18,19,20],false,2,2⟩,
 ⟨gp_ 42 33 true (bt_ .leq 35 41),(List.range 22),false,2,2⟩,
 ⟨gp_ 43 30 false (pa_ 33 42),(List.range 23),false,2,2⟩,
 ⟨pr_ 44 (po_ 30 43),(List.range 24),false,2,2⟩]) (.clear [4,20,25,34])) (.keep 0))
 (.cond (.tmp 44)
 (sq_ [pr_ 2 mf_]
 .ret)
 .skip))))
 (.ops [pr_ 45 (bk_ .add 15 .i64 1),
 mv_ 15 45])))))))
 (sq_ [pr_ 2 mt_]
 .ret))))
def o49:List Tmp:=[]
def r49:List RV:=[.tmp 2]
theorem t49:Text Try.prog 49 o49 c49 r49 46:=.mk_ Try.f49 rfl
def c50:ACode :=
 (sq_ [pr_ 2 mf_]
 (sq_ [mv_ 3 0,
 mv_ 4 0,
 pr_ 5 (bt_ .neq 3 4),
 mv_ 2 5]
 .ret))
def o50:List Tmp:=[]
def r50:List RV:=[.tmp 2]
theorem t50:Text Try.prog 50 o50 c50 r50 6:=.mk_ Try.f50 rfl
def c52:ACode :=
 (sq_ [pr_ 2 (mi_ .u64 0),
 pr_ 3 (mi_ .i64 0),
 pr_ 4 mf_]
 (sq_ [pr_ 5 (mi_ .u64 0)]
 (.seq (sq_ [mv_ 8 0,
 pr_ 9 (.lenv (.tmp 8)),
 pr_ 10 (mi_ .i64 0)]
 (.block 0 (.loop [0,1,2,3,4,6,7,11,12,13,14,15,16,17,18,19,20,21,22,23,24,25,26,27,28,29,30,31,32,33,34,35,36,37,38,39,40,41,42] (sq_ [pr_ 11 (bt_ .lss 10 9)]
 (.seq (.cond (.tmp 11)
 .skip
 (.exit 0))
 (.seq (.block 1 (sq_ [mv_ 12 10,
 pr_ 13 (.iadrs 1 (.tmp 8) (.tmp 10)),
 pr_ 14 (lf_ 1 13),
 mv_ 6 12,
 mv_ 7 14]
 (.seq (sq_ [mv_ 15 6,
 pr_ 16 (bk_ .eql 15 .i64 9),
 mv_ 17 16,
 gp_ 18 17 true (mo_ 7),
 gp_ 19 17 true (bk_ .gtr 18 .u8 1),
 pr_ 20 (pa_ 17 19),
 mv_ 21 20,
 gp_ 22 21 false (mo_ 6),
 gp_ 23 21 false (bk_ .gtr 22 .i64 0),
 gp_ 24 21 false (mo_ 23),
 gp_ 25 24 true (mo_ 7),
 gp_ 26 24 true (bk_ .eql 25 .u8 0),
 gp_ 27 21 false (pa_ 24 26),
 pr_ 28 (po_ 21 27)]
 (.cond (.tmp 28)
 (.exit 0)
 .skip))
 (sq_ [mv_ 29 5,
 mv_ 30 7,
 pr_ 31 (bk_ .and 30 .u8 127),
 pr_ 32 (.convi .u64 (.tmp 31)),
 mv_ 33 6,
 pr_ 34 (.bin false .mul (.const (.int .i64 7)) (.tmp 33)),
 pr_ 35 (bt_ .shl 32 34),
 pr_ 36 (bt_ .or 29 35),
 mv_ 5 36]
 (sq_ [mv_ 37 7,
 pr_ 38 (bk_ .lss 37 .u8 128)]
 (.cond (.tmp 38)
 (sq_ [mv_ 39 5,
 mv_ 40 6,
 pr_ 41 (bk_ .add 40 .i64 1),
 mv_ 2 39,
 mv_ 3 41,
 pr_ 4 mt_]
 .ret)
 .skip))))))
 (.ops [pr_ 42 (bk_ .add 10 .i64 1),
 mv_ 10 42])))))))
 (sq_ [pr_ 2 (mi_ .u64 0),
 pr_ 3 (mi_ .i64 0),
 pr_ 4 mf_]
 .ret))))
def o52:List Tmp:=[]
def r52:List RV:=[.tmp 2,.tmp 3,.tmp 4]
theorem t52:Text Try.prog 52 o52 c52 r52 43:=.mk_ Try.f52 rfl
def c53:ACode :=
 (sq_ [pr_ 2 (.mov (.const (.float Go.FloatKind.f64 0)))]
 (sq_ [mv_ 6 0,
 c1_ 7 42 6,
 c1_ 8 41 7,
 mv_ 5 8,
 pr_ 9 (ex_ 0 5),
 pr_ 10 (ex_ 1 5),
 mv_ 3 9,
 mv_ 4 10]
 (sq_ [mv_ 11 0,
 mv_ 12 4,
 cl_ 13 12 [(.tmp 11),(.tmp 12)]]
 (sq_ [mv_ 14 3,
 mv_ 2 14]
 .ret))))
def o53:List Tmp:=[]
def r53:List RV:=[.tmp 2]
theorem t53:Text Try.prog 53 o53 c53 r53 15:=.mk_ Try.f53 rfl
def c54:ACode :=
 (sq_ [pr_ 1 (.boxr (.tmp 0)),
 pr_ 2 mf_]
 (.seq (sq_ [pr_ 3 (fa_ 0 1),
 pr_ 4 (lf_ 1 3)]
 (.cond (.tmp 4)
 (sq_ [pr_ 5 (fa_ 1 1),
 pr_ 6 (lf_ 1 5),
 c1_ 7 27 6,
 pr_ 8 (bk_ .eql 7 .u64 0),
 mv_ 9 8,
 gp_ 10 9 true (fa_ 2 1),
 gp_ 11 9 true (lf_ 1 10),
 gc_ 12 9 true 27 [(.tmp 11)],
 gp_ 13 9 true (bk_ .eql 12 .u64 0),
 pr_ 14 (pa_ 9 13),
 mv_ 2 14]
 .ret)
 .skip))
 (sq_ [pr_ 15 (fa_ 1 1),
 pr_ 16 (lf_ 1 15),
 pr_ 17 (fa_ 2 1),
 pr_ 18 (lf_ 1 17),
 pr_ 19 (bt_ .leq 16 18),
 mv_ 2 19]
 .ret)))
def o54:List Tmp:=[]
def r54:List RV:=[.tmp 2]
theorem t54:Text Try.prog 54 o54 c54 r54 20:=.mk_ Try.f54 rfl
def c56:ACode :=
 (sq_ [pr_ 2 (mi_ .u64 0),
 pr_ 3 mf_]
 (.seq (sq_ [mv_ 7 0,
 pr_ 8 (.lenv (.tmp 7)),
 pr_ 9 (bk_ .lss 8 .i64 8)]
 (.cond (.tmp 9)
 (sq_ [pr_ 2 (mi_ .u64 0),
 pr_ 3 mf_]
 .ret)
 .skip))
 (sq_ [pr_ 4 (mi_ .u64 0)]
 (.seq (sq_ [mv_ 10 0,
 pr_ 11 (.slcv 1 (.tmp 10) none (some (.const (.int .i64 8)))),
 pr_ 12 (.lenv (.tmp 11)),
 pr_ 13 (mi_ .i64 0)]
 (.block 0 (.loop [0,1,2,3,5,6,7,8,9,10,14,15,16,17,18,19,20,21,22,23] (sq_ [pr_ 14 (bt_ .lss 13 12)]
 (.seq (.cond (.tmp 14)
 .skip
 (.exit 0))
 (.seq (.block 1 (sq_ [pr_ 15 (.iadrs 1 (.tmp 11) (.tmp 13)),
 pr_ 16 (lf_ 1 15),
 mv_ 6 16]
 (.ops [mv_ 17 4,
 pr_ 18 (bk_ .shl 17 .u64 8),
 mv_ 19 6,
 pr_ 20 (.convi .u64 (.tmp 19)),
 pr_ 21 (bt_ .or 18 20),
 mv_ 4 21])))
 (.ops [pr_ 22 (bk_ .add 13 .i64 1),
 mv_ 13 22])))))))
 (sq_ [mv_ 23 4,
 mv_ 2 23,
 pr_ 3 mt_]
 .ret)))))
def o56:List Tmp:=[]
def r56:List RV:=[.tmp 2,.tmp 3]
theorem t56:Text Try.prog 56 o56 c56 r56 24:=.mk_ Try.f56 rfl
def c57:ACode :=
 (sq_ [pr_ 1 (.boxr (.tmp 0)),
 pr_ 2 mf_]
 (sq_ [pr_ 3 (fa_ 0 1),
 pr_ 4 (lf_ 1 3),
 pr_ 5 (no_ 4),
 mv_ 6 5,
 gp_ 7 6 true (fa_ 1 1),
 gp_ 8 6 true (lf_ 1 7),
 gc_ 9 6 true 59 [(.tmp 8)],
 pr_ 10 (pa_ 6 9),
 mv_ 11 10,
 gp_ 12 11 true (fa_ 2 1),
 gp_ 13 11 true (lf_ 1 12),
 gc_ 14 11 true 59 [(.tmp 13)],
 pr_ 15 (pa_ 11 14),
 mv_ 2 15]
 .ret))
def o57:List Tmp:=[]
def r57:List RV:=[.tmp 2]
theorem t57:Text Try.prog 57 o57 c57 r57 16:=.mk_ Try.f57 rfl
def c58:ACode :=
 (sq_ [pr_ 1 (.boxr (.tmp 0)),
 pr_ 2 mf_]
 (sq_ [pr_ 3 (fa_ 0 1),
 pr_ 4 (lf_ 1 3),
 pr_ 5 (.lenv (.tmp 4)),
 pr_ 6 (bk_ .eql 5 .i64 0),
 mv_ 7 6,
 gp_ 8 7 true (fa_ 1 1),
 gp_ 9 7 true (lf_ 1 8),
 gp_ 10 7 true (.lenv (.tmp 9)),
 gp_ 11 7 true (bk_ .eql 10 .i64 0),
 pr_ 12 (pa_ 7 11),
 mv_ 13 12,
 gp_ 14 13 true (fa_ 5 1),
 gp_ 15 13 true (lf_ 1 14),
 gp_ 16 13 true (.lenv (.tmp 15)),
 gp_ 17 13 true (bk_ .eql 16 .i64 0),
 pr_ 18 (pa_ 13 17),
 mv_ 19 18,
 gp_ 20 19 true (fa_ 2 1),
 gp_ 21 19 true (lt_ 3 20),
 gc_ 22 19 true 57 [(.tmp 21)],
 pr_ 23 (pa_ 19 22),
 mv_ 2 23]
 .ret))
def o58:List Tmp:=[]
def r58:List RV:=[.tmp 2]
theorem t58:Text Try.prog 58 o58 c58 r58 24:=.mk_ Try.f58 rfl
def c59:ACode :=
 (sq_ [pr_ 2 mf_]
 (sq_ [mv_ 3 0,
 c1_ 4 27 3,
 pr_ 5 (bk_ .eql 4 .u64 0),
 mv_ 2 5]
 .ret))
def o59:List Tmp:=[]
def r59:List RV:=[.tmp 2]
theorem t59:Text Try.prog 59 o59 c59 r59 6:=.mk_ Try.f59 rfl
def c60:ACode :=
 (sq_ [pr_ 1 (.boxr (.tmp 0)),
 pr_ 2 mf_]
 (.seq (sq_ [pr_ 5 (fa_ 1 1),
 pr_ 6 (lf_ 1 5),
 c1_ 7 62 6,
 pr_ 8 (no_ 7)]
 (.cond (.tmp 8)
 (sq_ [pr_ 2 mf_]
 .ret)
 .skip))
 (.seq (sq_ [pr_ 9 (lt_ 3 1),
 c1_ 10 64 9]
 (.cond (.tmp 10)
 (sq_ [pr_ 12 (fa_ 2 1),
 pr_ 13 (lf_ 1 12),
 c1_ 14 65 13,
 mv_ 11 14,
 pr_ 15 (ex_ 0 11),
 pr_ 16 (ex_ 1 11),
 ⟨some 3,none,.fresh 6 3 (.tmp 15)⟩,
 mv_ 4 16]
 (sq_ [mv_ 17 4,
 mv_ 2 17]
 .ret))
 .skip))
 (sq_ [pr_ 18 (fa_ 0 1),
 pr_ 19 (lf_ 1 18),
 pr_ 20 (bk_ .eql 19 .i64 1),
 mv_ 21 20,
 gp_ 22 21 false (fa_ 0 1),
 gp_ 23 21 false (lf_ 1 22),
 gp_ 24 21 false (bk_ .eql 23 .i64 2),
 pr_ 25 (po_ 21 24),
 mv_ 26 25,
 gp_ 27 26 true (fa_ 2 1),
 gp_ 28 26 true (lf_ 1 27),
 gp_ 29 26 true (.lens (.tmp 28)),
 gp_ 30 26 true (bk_ .leq 29 .i64 24),
 pr_ 31 (pa_ 26 30),
 mv_ 2 31]
 .ret))))
def o60:List Tmp:=[]
def r60:List RV:=[.tmp 2]
theorem t60:Text Try.prog 60 o60 c60 r60 32:=.mk_ Try.f60 rfl
def c61:ACode :=
 (sq_ [pr_ 2 (.boxr (.tmp 0)),
 pr_ 3 (.boxr (.tmp 1)),
 pr_ 4 (mi_ .i64 0)]
 (.seq (.draw [⟨pr_ 5 (fa_ 1 2),[],false,0,0⟩,
 ⟨pr_ 6 (lf_ 1 5),[0],false,0,0⟩,
 ⟨pr_ 7 (fa_ 1 3),[],false,0,0⟩,
 ⟨pr_ 8 (lf_ 1 7),[2],false,0,0⟩,
 ⟨cl_ 9 67 [(.tmp 6),(.tmp 8)],[0,1,2,3],true,0,0⟩,
 ⟨pr_ 10 (fa_ 0 2),[],false,0,1⟩,
 ⟨pr_ 11 (lf_ 1 10),[5],false,0,1⟩,
 ⟨pr_ 12 (fa_ 0 3),[],false,0,1⟩,
 ⟨pr_ 13 (lf_ 1 12),[7],false,0,1⟩,
 ⟨cl_ 14 68 [(.tmp 11),(.tmp 13)],(List.range 9),true,0,0⟩,
 ⟨pr_ 15 (fa_ 2 2),[],false,0,2⟩,
 ⟨pr_ 16 (lf_ 1 15),[10],false,0,2⟩,
 ⟨pr_ 17 (fa_ 2 3),[],false,0,2⟩,
 ⟨pr_ 18 (lf_ 1 17),[12],false,0,2⟩,
 ⟨cl_ 19 67 [(.tmp 16),(.tmp 18)],(List.range 14),true,0,0⟩,
 ⟨pr_ 20 (.bsl false 1 false 3 [.pl (.int .i64 0)] [(0,1,(.tmp 9)),(1,1,(.tmp 14)),(2,1,(.tmp 19))]),(List.range 15),false,3,3⟩,
 ⟨c1_ 21 66 20,(List.range 16),true,0,0⟩,
 ⟨mv_ 4 21,(List.range 17),false,4,4⟩])
 .ret))
def o61:List Tmp:=[]
def r61:List RV:=[.tmp 4]
theorem t61:Text Try.prog 61 o61 c61 r61 22:=.mk_ Try.f61 rfl
def c62:ACode :=
 (sq_ [pr_ 2 mf_]
 (.seq (sq_ [mv_ 4 0,
 pr_ 5 (.lens (.tmp 4)),
 pr_ 6 (bk_ .lss 5 .i64 1),
 mv_ 7 6,
 gp_ 8 7 false (mo_ 0),
 gp_ 9 7 false (.lens (.tmp 8)),
 gp_ 10 7 false (bk_ .gtr 9 .i64 12),
 pr_ 11 (po_ 7 10),
 mv_ 12 11,
 gp_ 13 12 false (mo_ 0),
 gp_ 14 12 false (.idxs (.tmp 13) (.const (.int .i64 0))),
 gc_ 15 12 false 69 [(.tmp 14)],
 gp_ 16 12 false (no_ 15),
 pr_ 17 (po_ 12 16)]
 (.cond (.tmp 17)
 (sq_ [pr_ 2 mf_]
 .ret)
 .skip))
 (.seq (sq_ [mv_ 18 0,
 pr_ 19 (.lens (.tmp 18)),
 pr_ 20 (mi_ .i64 0)]
 (.block 0 (.loop [1,2,3,4,5,6,7,8,9,10,11,12,13,14,15,16,17,18,21,22,23,24,25,26,27,28,29,30,31,32,33,34,35,36,37,38,39,40] (sq_ [pr_ 21 (bt_ .lss 20 19)]
 (.seq (.cond (.tmp 21)
 .skip
 (.exit 0))
 (.seq (.block 1 (sq_ [mv_ 22 20,
 mv_ 3 22]
 (sq_ [mv_ 23 0,
 mv_ 24 3,
 pr_ 25 (.idxs (.tmp 23) (.tmp 24)),
 c1_ 26 69 25,
 pr_ 27 (no_ 26),
 mv_ 28 27,
 gp_ 29 28 true (mo_ 0),
 gp_ 30 28 true (mo_ 3),
 gp_ 31 28 true (.idxs (.tmp 29) (.tmp 30)),
 gp_ 32 28 true (bk_ .lss 31 .u8 48),
 gp_ 33 28 true (mo_ 32),
 gp_ 34 33 false (mo_ 0),
 gp_ 35 33 false (mo_ 3),
 gp_ 36 33 false (.idxs (.tmp 34) (.tmp 35)),
 gp_ 37 33 false (bk_ .gtr 36 .u8 57),
 gp_ 38 28 true (po_ 33 37),
 pr_ 39 (pa_ 28 38)]
 (.cond (.tmp 39)
 (sq_ [pr_ 2 mf_]
 .ret)
 .skip))))
 (.ops [pr_ 40 (bk_ .add 20 .i64 1),
 mv_ 20 40])))))))
 (sq_ [pr_ 2 mt_]
 .ret))))
def o62:List Tmp:=[]
def r62:List RV:=[.tmp 2]
theorem t62:Text Try.prog 62 o62 c62 r62 41:=.mk_ Try.f62 rfl
def c63:ACode :=
 (sq_ [pr_ 2 mf_]
 (sq_ [mv_ 3 0,
 pr_ 4 (.lens (.tmp 3)),
 pr_ 5 (bk_ .geq 4 .i64 1),
 mv_ 6 5,
 gp_ 7 6 true (mo_ 0),
 gp_ 8 6 true (.lens (.tmp 7)),
 gp_ 9 6 true (bk_ .leq 8 .i64 24),
 pr_ 10 (pa_ 6 9),
 mv_ 2 10]
 .ret))
def o63:List Tmp:=[]
def r63:List RV:=[.tmp 2]
theorem t63:Text Try.prog 63 o63 c63 r63 11:=.mk_ Try.f63 rfl
def c64:ACode :=
 (sq_ [pr_ 1 (.boxr (.tmp 0)),
 pr_ 2 mf_]
 (sq_ [pr_ 3 (fa_ 0 1),
 pr_ 4 (lf_ 1 3),
 pr_ 5 (bk_ .eql 4 .i64 3),
 mv_ 6 5,
 gp_ 7 6 false (fa_ 0 1),
 gp_ 8 6 false (lf_ 1 7),
 gp_ 9 6 false (bk_ .eql 8 .i64 4),
 pr_ 10 (po_ 6 9),
 mv_ 2 10]
 .ret))
def o64:List Tmp:=[]
def r64:List RV:=[.tmp 2]
theorem t64:Text Try.prog 64 o64 c64 r64 11:=.mk_ Try.f64 rfl
def c65:ACode :=
 (sq_ [pr_ 2 (.allocm z6_),
 pr_ 3 mf_]
 (sq_ [mv_ 6 0,
 mv_ 7 0,
 pr_ 8 (.lens (.tmp 7)),
 pr_ 9 (bk_ .gtr 8 .i64 40),
 pr_ 10 (.build [.pl (.string .empty),.pl (.int .i64 0),.pl (.bool false)] [(0,1,(.tmp 6)),(2,1,(.tmp 9))]),
 pr_ 11 (.boxm (.tmp 10)),
 mv_ 4 11]
 (sq_ [mv_ 12 4,
 cl_ 13 70 [(.tmp 12),(.const (.int .i64 0))],
 ⟨some 5,none,.fresh 6 5 (.tmp 13)⟩]
 (.seq (sq_ [mv_ 14 4,
 pr_ 15 (nc_ 14),
 pr_ 16 (fa_ 2 15),
 pr_ 17 (lf_ 1 16),
 mv_ 18 17,
 gp_ 19 18 false (mo_ 4),
 gp_ 20 18 false (nc_ 19),
 gp_ 21 18 false (fa_ 1 20),
 gp_ 22 18 false (lf_ 1 21),
 gp_ 23 18 false (mo_ 0),
 gp_ 24 18 false (.lens (.tmp 23)),
 gp_ 25 18 false (bt_ .lss 22 24),
 pr_ 26 (po_ 18 25)]
 (.cond (.tmp 26)
 (sq_ [pr_ 27 (.build z6_ []),
 st_ (so_ 6 2 27),
 pr_ 3 mf_]
 .ret)
 .skip))
 (sq_ [pr_ 28 (lt_ 6 5),
 st_ (so_ 6 2 28),
 pr_ 3 mt_]
 .ret)))))
def o65:List Tmp:=[2,11]
def r65:List RV:=[.cell 2 6 true,.tmp 3]
theorem t65:Text Try.prog 65 o65 c65 r65 29:=.mk_ Try.f65 rfl
def c66:ACode :=
 (sq_ [pr_ 2 (mi_ .i64 0)]
 (sq_ [pr_ 3 (mi_ .i64 0)]
 (.seq (sq_ [mv_ 6 0,
 pr_ 7 (.lenv (.tmp 6)),
 pr_ 8 (mi_ .i64 0)]
 (.block 0 (.loop [0,1,2,4,5,9,10,11,12,13,14,15,16,17] (sq_ [pr_ 9 (bt_ .lss 8 7)]
 (.seq (.cond (.tmp 9)
 .skip
 (.exit 0))
 (.seq (.block 1 (sq_ [pr_ 10 (.iadrs 1 (.tmp 6) (.tmp 8)),
 pr_ 11 (lf_ 1 10),
 mv_ 5 11]
 (sq_ [mv_ 12 5,
 mv_ 13 3,
 pr_ 14 (bt_ .neq 12 13)]
 (.cond (.tmp 14)
 (sq_ [mv_ 15 5,
 mv_ 2 15]
 .ret)
 .skip))))
 (.ops [pr_ 16 (bk_ .add 8 .i64 1),
 mv_ 8 16])))))))
 (sq_ [mv_ 17 3,
 mv_ 2 17]
 .ret))))
def o66:List Tmp:=[]
def r66:List RV:=[.tmp 2]
theorem t66:Text Try.prog 66 o66 c66 r66 18:=.mk_ Try.f66 rfl
def c67:ACode :=
 (sq_ [pr_ 4 (mi_ .i64 0)]
 (sq_ [mv_ 5 0,
 mv_ 6 1,
 cl_ 7 71 [(.tmp 5),(.tmp 6)],
 mv_ 4 7]
 .ret))
def o67:List Tmp:=[]
def r67:List RV:=[.tmp 4]
theorem t67:Text Try.prog 67 o67 c67 r67 8:=.mk_ Try.f67 rfl
def c68:ACode :=
 (sq_ [pr_ 4 (mi_ .i64 0)]
 (sq_ [mv_ 7 0,
 c1_ 8 72 7,
 mv_ 5 8]
 (sq_ [mv_ 9 1,
 c1_ 10 72 9,
 mv_ 6 10]
 (.seq (sq_ [mv_ 11 5]
 (.cond (.tmp 11)
 (.seq (sq_ [mv_ 12 6]
 (.cond (.tmp 12)
 (sq_ [pr_ 4 (mi_ .i64 0)]
 .ret)
 .skip))
 (sq_ [pr_ 4 (.mov (.const (.int .i64 (-1))))]
 .ret))
 .skip))
 (.seq (sq_ [mv_ 13 6]
 (.cond (.tmp 13)
 (sq_ [pr_ 4 (mi_ .i64 1)]
 .ret)
 .skip))
 (.seq (sq_ [mv_ 14 0,
 mv_ 15 1,
 pr_ 16 (bt_ .lss 14 15)]
 (.cond (.tmp 16)
 (sq_ [pr_ 4 (.mov (.const (.int .i64 (-1))))]
 .ret)
 .skip))
 (.seq (sq_ [mv_ 17 0,
 mv_ 18 1,
 pr_ 19 (bt_ .gtr 17 18)]
 (.cond (.tmp 19)
 (sq_ [pr_ 4 (mi_ .i64 1)]
 .ret)
 .skip))
 (sq_ [pr_ 4 (mi_ .i64 0)]
 .ret))))))))
def o68:List Tmp:=[]
def r68:List RV:=[.tmp 4]
theorem t68:Text Try.prog 68 o68 c68 r68 20:=.mk_ Try.f68 rfl
def c69:ACode :=
 (sq_ [pr_ 2 mf_]
 (sq_ [mv_ 3 0,
 pr_ 4 (bk_ .geq 3 .u8 97),
 mv_ 5 4,
 gp_ 6 5 true (mo_ 0),
 gp_ 7 5 true (bk_ .leq 6 .u8 122),
 pr_ 8 (pa_ 5 7),
 mv_ 9 8,
 gp_ 10 9 false (mo_ 0),
 gp_ 11 9 false (bk_ .geq 10 .u8 65),
 gp_ 12 9 false (mo_ 11),
 gp_ 13 12 true (mo_ 0),
 gp_ 14 12 true (bk_ .leq 13 .u8 90),
 gp_ 15 9 false (pa_ 12 14),
 pr_ 16 (po_ 9 15),
 mv_ 17 16,
 gp_ 18 17 false (mo_ 0),
 gp_ 19 17 false (bk_ .eql 18 .u8 95),
 pr_ 20 (po_ 17 19),
 mv_ 2 20]
 .ret))
def o69:List Tmp:=[]
def r69:List RV:=[.tmp 2]
theorem t69:Text Try.prog 69 o69 c69 r69 21:=.mk_ Try.f69 rfl
def c70:ACode :=
 (sq_ [pr_ 4 (.allocm z6_)]
 (sq_ [mv_ 6 0,
 mv_ 7 1,
 cl_ 8 73 [(.tmp 6),(.tmp 7)],
 pr_ 9 (.bsl true 6 true 1 z6_ [(0,6,(.tmp 8))]),
 mv_ 5 9]
 (.seq (.block 0 (.loop [2,3,6,7,8,9,10,11,12,13,14,15,16,17,18,19,20,21,22,23,24,25] (.seq (sq_ [mv_ 10 0,
 cl_ 11 74 [(.tmp 10),(.const (.int .u8 124))]]
 (.cond (.tmp 11)
 .skip
 (.exit 0)))
 (.block 1 (.ops [mv_ 12 5,
 mv_ 13 0,
 mv_ 14 1,
 cl_ 15 73 [(.tmp 13),(.tmp 14)],
 pr_ 16 (.bsl false 6 true 1 z6_ [(0,6,(.tmp 15))]),
 pr_ 17 (.app 6 (.tmp 12) (.tmp 16)),
 mv_ 5 17])))))
 (.seq (sq_ [mv_ 18 5,
 pr_ 19 (.lenv (.tmp 18)),
 pr_ 20 (bk_ .eql 19 .i64 1)]
 (.cond (.tmp 20)
 (sq_ [mv_ 21 5,
 pr_ 22 (.iadrs 6 (.tmp 21) (.const (.int .i64 0))),
 pr_ 23 (lt_ 6 22),
 st_ (so_ 6 4 23)]
 .ret)
 .skip))
 (.seq (.ghost (.shut 5) (.ops [mv_ 24 5,
 pr_ 25 (.build z6_ [(0,1,(.const (.int .i64 3))),(5,1,(.tmp 24))]),
 st_ (so_ 6 4 25)]))
 .ret)))))
def o70:List Tmp:=[4,9]
def r70:List RV:=[.cell 4 6 true]
theorem t70:Text Try.prog 70 o70 c70 r70 26:=.mk_ Try.f70 rfl
def c71:ACode :=
 (sq_ [pr_ 4 (mi_ .i64 0)]
 (sq_ [mv_ 5 0,
 mv_ 6 1,
 cl_ 7 75 [(.tmp 5),(.tmp 6)],
 mv_ 4 7]
 .ret))
def o71:List Tmp:=[]
def r71:List RV:=[.tmp 4]
theorem t71:Text Try.prog 71 o71 c71 r71 8:=.mk_ Try.f71 rfl
def c72:ACode :=
 (sq_ [pr_ 2 mf_]
 (sq_ [mv_ 3 0,
 mv_ 4 0,
 pr_ 5 (bt_ .neq 3 4),
 mv_ 2 5]
 .ret))
def o72:List Tmp:=[]
def r72:List RV:=[.tmp 2]
theorem t72:Text Try.prog 72 o72 c72 r72 6:=.mk_ Try.f72 rfl
def c73:ACode :=
 (sq_ [pr_ 4 (.allocm z6_)]
 (sq_ [pr_ 5 (.mov (.const (.slice none 0 0)))]
 (.seq (.block 0 (.loop [2,3,6,7,8,9,10,11,12,13,14,15,16,17,18,19,20,21,22,23,24,25,26,27,28,29,30,31,32] (.seq (sq_ [mv_ 6 0,
 c1_ 7 76 6,
 pr_ 8 (no_ 7),
 mv_ 9 8,
 gp_ 10 9 true (mo_ 0),
 gc_ 11 9 true 77 [(.tmp 10),(.const (.int .u8 124))],
 gp_ 12 9 true (no_ 11),
 pr_ 13 (pa_ 9 12),
 mv_ 14 13,
 gp_ 15 14 true (mo_ 0),
 gc_ 16 14 true 77 [(.tmp 15),(.const (.int .u8 41))],
 gp_ 17 14 true (no_ 16),
 pr_ 18 (pa_ 14 17)]
 (.cond (.tmp 18)
 .skip
 (.exit 0)))
 (.block 1 (.ops [mv_ 19 5,
 mv_ 20 0,
 mv_ 21 1,
 cl_ 22 78 [(.tmp 20),(.tmp 21)],
 pr_ 23 (.bsl false 6 true 1 z6_ [(0,6,(.tmp 22))]),
 pr_ 24 (.app 6 (.tmp 19) (.tmp 23)),
 mv_ 5 24])))))
 (.seq (sq_ [mv_ 25 5,
 pr_ 26 (.lenv (.tmp 25)),
 pr_ 27 (bk_ .eql 26 .i64 1)]
 (.cond (.tmp 27)
 (sq_ [mv_ 28 5,
 pr_ 29 (.iadrs 6 (.tmp 28) (.const (.int .i64 0))),
 pr_ 30 (lt_ 6 29),
 st_ (so_ 6 4 30)]
 .ret)
 .skip))
 (.seq (.ghost (.shut 5) (.ops [mv_ 31 5,
 pr_ 32 (.build z6_ [(0,1,(.const (.int .i64 2))),(5,1,(.tmp 31))]),
 st_ (so_ 6 4 32)]))
 .ret)))))
def o73:List Tmp:=[4]
def r73:List RV:=[.cell 4 6 true]
theorem t73:Text Try.prog 73 o73 c73 r73 33:=.mk_ Try.f73 rfl
def c74:ACode :=
 (sq_ [pr_ 4 mf_]
 (.seq (sq_ [mv_ 5 0,
 mv_ 6 1,
 cl_ 7 77 [(.tmp 5),(.tmp 6)],
 pr_ 8 (no_ 7)]
 (.cond (.tmp 8)
 (sq_ [pr_ 4 mf_]
 .ret)
 .skip))
 (sq_ [mv_ 9 0,
 pr_ 10 (nc_ 9),
 pr_ 11 (fa_ 1 10),
 pr_ 12 (lf_ 1 11),
 pr_ 13 (bk_ .add 12 .i64 1),
 pr_ 14 (nc_ 9),
 pr_ 15 (fa_ 1 14),
 st_ (so_ 1 15 13)]
 (sq_ [pr_ 4 mt_]
 .ret))))
def o74:List Tmp:=[]
def r74:List RV:=[.tmp 4]
theorem t74:Text Try.prog 74 o74 c74 r74 16:=.mk_ Try.f74 rfl
def c76:ACode :=
 (sq_ [pr_ 2 mf_]
 (.seq (.draw [⟨mv_ 3 0,[],false,0,0⟩,
 ⟨pr_ 4 (nc_ 3),[0],false,0,0⟩,
 ⟨pr_ 5 (fa_ 2 4),[0,1],false,0,0⟩,
 ⟨pr_ 6 (lf_ 1 5),[0,1,2],false,0,0⟩,
 ⟨mv_ 7 6,[0,1,2,3],false,0,0⟩,
 ⟨gp_ 8 7 false (mo_ 0),[0,1,2,3,4],false,0,0⟩,
 ⟨gp_ 9 7 false (nc_ 8),(List.range 6),false,0,0⟩,
 ⟨gp_ 10 7 false (fa_ 1 9),(List.range 7),false,0,0⟩,
 ⟨gp_ 11 7 false (lf_ 1 10),(List.range 8),false,0,0⟩,
 ⟨gp_ 12 7 false (mo_ 0),[0,1,2,3,4],false,0,0⟩,
 ⟨gp_ 13 7 false (nc_ 12),[0,1,2,3,4,9],false,0,0⟩,
 ⟨gp_ 14 7 false (fa_ 0 13),[0,1,2,3,4,9,10],false,0,0⟩,
 ⟨gp_ 15 7 false (lf_ 1 14),[0,1,2,3,4,9,10,11],false,0,0⟩,
 ⟨gp_ 16 7 false (.lens (.tmp 15)),[0,1,2,3,4,9,10,11,12],false,0,0⟩,
 ⟨gp_ 17 7 false (bt_ .geq 11 16),(List.range 14),false,0,0⟩,
 ⟨pr_ 18 (po_ 7 17),(List.range 15),false,0,0⟩,
 ⟨mv_ 2 18,(List.range 16),false,0,0⟩])
 .ret))
def o76:List Tmp:=[]
def r76:List RV:=[.tmp 2]
theorem t76:Text Try.prog 76 o76 c76 r76 19:=.mk_ Try.f76 rfl
def c77:ACode :=
 (sq_ [pr_ 4 mf_]
 (.seq (.draw [⟨mv_ 5 0,[],false,0,0⟩,
 ⟨c1_ 6 76 5,[0],true,0,0⟩,
 ⟨pr_ 7 (no_ 6),[0,1],false,1,1⟩,
 ⟨mv_ 8 7,[0,1,2],false,1,1⟩,
 ⟨gp_ 9 8 true (mo_ 0),[0,1,2,3],false,1,1⟩,
 ⟨gp_ 10 8 true (nc_ 9),[0,1,2,3,4],false,1,1⟩,
 ⟨gp_ 11 8 true (fa_ 0 10),(List.range 6),false,1,1⟩,
 ⟨gp_ 12 8 true (lf_ 1 11),(List.range 7),false,1,1⟩,
 ⟨gp_ 13 8 true (mo_ 0),[0,1,2,3],false,1,1⟩,
 ⟨gp_ 14 8 true (nc_ 13),[0,1,2,3,8],false,1,1⟩,
 ⟨gp_ 15 8 true (fa_ 1 14),[0,1,2,3,8,9],false,1,1⟩,
 ⟨gp_ 16 8 true (lf_ 1 15),[0,1,2,3,8,9,10],false,1,1⟩,
 ⟨gp_ 17 8 true (.idxs (.tmp 12) (.tmp 16)),(List.range 12),false,1,1⟩,
 ⟨gp_ 18 8 true (mo_ 1),[0,1,2,3],false,1,1⟩,
 ⟨gp_ 19 8 true (bt_ .eql 17 18),(List.range 14),false,1,1⟩,
 ⟨pr_ 20 (pa_ 8 19),(List.range 15),false,1,1⟩,
 ⟨mv_ 4 20,(List.range 16),false,1,1⟩])
 .ret))
def o77:List Tmp:=[]
def r77:List RV:=[.tmp 4]
theorem t77:Text Try.prog 77 o77 c77 r77 21:=.mk_ Try.f77 rfl
def c78:ACode :=
 (sq_ [pr_ 4 (.allocm z6_)]
 (sq_ [mv_ 6 0,
 mv_ 7 1,
 cl_ 8 79 [(.tmp 6),(.tmp 7)],
 ⟨some 5,none,.fresh 6 5 (.tmp 8)⟩]
 (.seq (.block 0 (sq_ [mv_ 10 0,
 cl_ 11 74 [(.tmp 10),(.const (.int .u8 42))],
 mv_ 9 11]
 (.cond (.tmp 9)
 (sq_ [pr_ 12 (lt_ 6 5),
 pr_ 13 (.bsl false 6 true 1 z6_ [(0,6,(.tmp 12))]),
 pr_ 14 (.build z6_ [(0,1,(.const (.int .i64 4))),(5,1,(.tmp 13))]),
 st_ (so_ 6 4 14)]
 .ret)
 (sq_ [mv_ 16 0,
 cl_ 17 74 [(.tmp 16),(.const (.int .u8 43))],
 mv_ 15 17]
 (.cond (.tmp 15)
 (sq_ [pr_ 18 (lt_ 6 5),
 pr_ 19 (.bsl false 6 true 1 z6_ [(0,6,(.tmp 18))]),
 pr_ 20 (.build z6_ [(0,1,(.const (.int .i64 5))),(5,1,(.tmp 19))]),
 st_ (so_ 6 4 20)]
 .ret)
 (sq_ [mv_ 22 0,
 cl_ 23 74 [(.tmp 22),(.const (.int .u8 63))],
 mv_ 21 23]
 (.cond (.tmp 21)
 (sq_ [pr_ 24 (lt_ 6 5),
 pr_ 25 (.bsl false 6 true 1 z6_ [(0,6,(.tmp 24))]),
 pr_ 26 (.build z6_ [(0,1,(.const (.int .i64 6))),(5,1,(.tmp 25))]),
 st_ (so_ 6 4 26)]
 .ret)
 .skip)))))))
 (sq_ [pr_ 27 (lt_ 6 5),
 st_ (so_ 6 4 27)]
 .ret))))
def o78:List Tmp:=[4]
def r78:List RV:=[.cell 4 6 true]
theorem t78:Text Try.prog 78 o78 c78 r78 28:=.mk_ Try.f78 rfl
def c79:ACode :=
 (sq_ [pr_ 4 (.allocm z6_)]
 (sq_ [pr_ 7 (.build z6_ [(0,1,(.const (.int .i64 1)))]),
 pr_ 5 (.allocm z6_),
 st_ (so_ 6 5 7)]
 (.seq (sq_ [mv_ 8 0,
 c1_ 9 80 8,
 mv_ 6 9]
 (sq_ [mv_ 10 6]
 (.block 0 (sq_ [pr_ 27 (bk_ .eql 10 .u8 40),
 mv_ 26 27]
 (.cond (.tmp 26)
 (sq_ [mv_ 28 0,
 mv_ 29 0,
 pr_ 30 (nc_ 29),
 pr_ 31 (fa_ 2 30),
 pr_ 32 (lf_ 1 31),
 mv_ 33 32,
 gp_ 34 33 false (mo_ 1),
 gp_ 35 33 false (bk_ .eql 34 .i64 8),
 pr_ 36 (po_ 33 35),
 pr_ 37 (nc_ 28),
 pr_ 38 (fa_ 2 37),
 st_ (so_ 1 38 36)]
 (.seq (sq_ [mv_ 39 0,
 pr_ 40 (nc_ 39),
 pr_ 41 (fa_ 2 40),
 pr_ 42 (lf_ 1 41),
 pr_ 43 (no_ 42)]
 (.cond (.tmp 43)
 (.ops [mv_ 44 0,
 mv_ 45 1,
 pr_ 46 (bk_ .add 45 .i64 1),
 cl_ 47 70 [(.tmp 44),(.tmp 46)],
 st_ (so_ 6 5 47)])
 .skip))
 (.ops [mv_ 48 0,
 mv_ 49 0,
 cl_ 50 74 [(.tmp 49),(.const (.int .u8 41))],
 pr_ 51 (no_ 50),
 mv_ 52 51,
 gp_ 53 52 false (mo_ 0),
 gp_ 54 52 false (nc_ 53),
 gp_ 55 52 false (fa_ 2 54),
 gp_ 56 52 false (lf_ 1 55),
 pr_ 57 (po_ 52 56),
 pr_ 58 (nc_ 48),
 pr_ 59 (fa_ 2 58),
 st_ (so_ 1 59 57)])))
 (sq_ [pr_ 61 (bk_ .eql 10 .u8 91),
 mv_ 60 61]
 (.cond (.tmp 60)
 (.ops [mv_ 62 0,
 c1_ 63 81 62,
 pr_ 64 (fa_ 1 5),
 st_ (so_ 4 64 63)])
 (sq_ [pr_ 66 (bk_ .eql 10 .u8 46),
 mv_ 65 66]
 (.cond (.tmp 65)
 (.ops [pr_ 67 (fa_ 1 5),
 pr_ 68 (lt_ 4 67),
 c1_ 69 82 68,
 pr_ 70 (fa_ 1 5),
 st_ (so_ 4 70 69)])
 (sq_ [pr_ 72 (bk_ .eql 10 .u8 92),
 mv_ 71 72]
 (.cond (.tmp 71)
 (.ops [pr_ 73 (fa_ 1 5),
 mv_ 74 0,
 c1_ 75 84 74,
 cl_ 76 83 [(.tmp 73),(.tmp 75)]])
 (sq_ [mv_ 11 0,
 mv_ 12 0,
 pr_ 13 (nc_ 12),
 pr_ 14 (fa_ 2 13),
 pr_ 15 (lf_ 1 14),
 mv_ 16 15,
 gp_ 17 16 false (mo_ 6),
 gc_ 18 16 false 85 [(.const (.string (ByteArray.mk #[42,43,63,93]))),(.tmp 17)],
 gp_ 19 16 false (bk_ .geq 18 .i64 0),
 pr_ 20 (po_ 16 19),
 pr_ 21 (nc_ 11),
 pr_ 22 (fa_ 2 21),
 st_ (so_ 1 22 20)]
 (.ops [pr_ 23 (fa_ 1 5),
 mv_ 24 6,
 cl_ 25 83 [(.tmp 23),(.tmp 24)]])))))))))))))
 (sq_ [pr_ 77 (lt_ 6 5),
 st_ (so_ 6 4 77)]
 .ret))))
def o79:List Tmp:=[4,5]
def r79:List RV:=[.cell 4 6 true]
theorem t79:Text Try.prog 79 o79 c79 r79 78:=.mk_ Try.f79 rfl
def c80:ACode :=
 (sq_ [pr_ 2 (mi_ .u8 0)]
 (.seq (sq_ [mv_ 3 0,
 c1_ 4 76 3]
 (.cond (.tmp 4)
 (sq_ [mv_ 5 0,
 pr_ 6 (nc_ 5),
 pr_ 7 (fa_ 2 6),
 st_ (.store 1 (.tmp 7) (.const (.bool true)))]
 (sq_ [pr_ 2 (mi_ .u8 0)]
 .ret))
 .skip))
 (sq_ [mv_ 8 0,
 pr_ 9 (nc_ 8),
 pr_ 10 (fa_ 1 9),
 pr_ 11 (lf_ 1 10),
 pr_ 12 (bk_ .add 11 .i64 1),
 pr_ 13 (nc_ 8),
 pr_ 14 (fa_ 1 13),
 st_ (so_ 1 14 12)]
 (.seq (.draw [⟨mv_ 15 0,[],false,0,0⟩,
 ⟨pr_ 16 (nc_ 15),[0],false,0,0⟩,
 ⟨pr_ 17 (fa_ 0 16),[0,1],false,0,0⟩,
 ⟨pr_ 18 (lf_ 1 17),[0,1,2],false,0,0⟩,
 ⟨mv_ 19 0,[],false,0,0⟩,
 ⟨pr_ 20 (nc_ 19),[4],false,0,0⟩,
 ⟨pr_ 21 (fa_ 1 20),[4,5],false,0,0⟩,
 ⟨pr_ 22 (lf_ 1 21),[4,5,6],false,0,0⟩,
 ⟨pr_ 23 (bk_ .sub 22 .i64 1),[4,5,6,7],false,0,0⟩,
 ⟨pr_ 24 (.idxs (.tmp 18) (.tmp 23)),(List.range 9),false,0,0⟩,
 ⟨mv_ 2 24,(List.range 10),false,0,0⟩])
 .ret))))
def o80:List Tmp:=[]
def r80:List RV:=[.tmp 2]
theorem t80:Text Try.prog 80 o80 c80 r80 25:=.mk_ Try.f80 rfl
def c81:ACode :=
 (sq_ [pr_ 2 (.allocm [.pl (.int .u64 0),.pl (.int .u64 0),.pl (.int .u64 0),.pl (.int .u64 0)])]
 (sq_ [pr_ 3 (.allocm [.pl (.int .u64 0),.pl (.int .u64 0),.pl (.int .u64 0),.pl (.int .u64 0)])]
 (sq_ [mv_ 9 0,
 cl_ 10 74 [(.tmp 9),(.const (.int .u8 94))],
 mv_ 4 10]
 (.seq (sq_ [pr_ 5 mt_]
 (.block 0 (.loop [1,6,7,8,9,10,11,12,13,14,15,16,17,18,19,20,21,22,23,24,25,26,27,28,29,30,31,32,33,34,35,36,37,38,39,40,41,42,43,44,45,46,47,48,49,50,51,52,53,54,55,56,57,58,59,60,61,62,63,64,65,66,67] (.seq (sq_ [mv_ 11 5,
 mv_ 12 11,
 gp_ 13 12 false (mo_ 0),
 gc_ 14 12 false 76 [(.tmp 13)],
 gp_ 15 12 false (no_ 14),
 gp_ 16 12 false (mo_ 15),
 gp_ 17 16 true (mo_ 0),
 gc_ 18 16 true 77 [(.tmp 17),(.const (.int .u8 93))],
 gp_ 19 16 true (no_ 18),
 gp_ 20 12 false (pa_ 16 19),
 pr_ 21 (po_ 12 20)]
 (.cond (.tmp 21)
 .skip
 (.exit 0)))
 (.seq (.block 1 (sq_ [mv_ 22 0,
 c1_ 23 86 22,
 mv_ 6 23]
 (sq_ [mv_ 24 6,
 mv_ 7 24]
 (.seq (sq_ [mv_ 25 0,
 cl_ 26 74 [(.tmp 25),(.const (.int .u8 45))]]
 (.cond (.tmp 26)
 (.ops [mv_ 27 0,
 c1_ 28 86 27,
 mv_ 7 28])
 .skip))
 (sq_ [mv_ 29 0,
 mv_ 30 0,
 pr_ 31 (nc_ 30),
 pr_ 32 (fa_ 2 31),
 pr_ 33 (lf_ 1 32),
 mv_ 34 33,
 gp_ 35 34 false (mo_ 7),
 gp_ 36 34 false (mo_ 6),
 gp_ 37 34 false (bt_ .lss 35 36),
 pr_ 38 (po_ 34 37),
 pr_ 39 (nc_ 29),
 pr_ 40 (fa_ 2 39),
 st_ (so_ 1 40 38)]
 (sq_ [mv_ 41 6,
 pr_ 42 (.convi .i64 (.tmp 41)),
 mv_ 8 42]
 (.block 2 (.loop [1,5,6,9,10,11,12,13,14,15,16,17,18,19,20,21,22,23,24,25,26,27,28,29,30,31,32,33,34,35,36,37,38,39,40,41,42,43,44,45,46,47,48,49,50,51,52,53,54,55,56,57,58,59,60,61,62,63,64,65,66,67] (.seq (sq_ [mv_ 43 8,
 mv_ 44 7,
 pr_ 45 (.convi .i64 (.tmp 44)),
 pr_ 46 (bt_ .leq 43 45)]
 (.cond (.tmp 46)
 .skip
 (.exit 2)))
 (.seq (.block 3 (.ops [mv_ 49 8,
 pr_ 50 (.convi .u8 (.tmp 49)),
 cl_ 51 83 [(.tmp 3),(.tmp 50)]]))
 (.ops [mv_ 47 8,
 pr_ 48 (bk_ .add 47 .i64 1),
 mv_ 8 48])))))))))))
 (.ops [pr_ 5 mf_]))))))
 (sq_ [mv_ 52 0,
 mv_ 53 0,
 cl_ 54 74 [(.tmp 53),(.const (.int .u8 93))],
 pr_ 55 (no_ 54),
 mv_ 56 55,
 gp_ 57 56 false (mo_ 0),
 gp_ 58 56 false (nc_ 57),
 gp_ 59 56 false (fa_ 2 58),
 gp_ 60 56 false (lf_ 1 59),
 pr_ 61 (po_ 56 60),
 pr_ 62 (nc_ 52),
 pr_ 63 (fa_ 2 62),
 st_ (so_ 1 63 61)]
 (.seq (sq_ [mv_ 64 4]
 (.cond (.tmp 64)
 (sq_ [pr_ 65 (lt_ 4 3),
 c1_ 66 82 65,
 st_ (so_ 4 2 66)]
 .ret)
 .skip))
 (sq_ [pr_ 67 (lt_ 4 3),
 st_ (so_ 4 2 67)]
 .ret)))))))
def o81:List Tmp:=[2,3]
def r81:List RV:=[.cell 2 4 true]
theorem t81:Text Try.prog 81 o81 c81 r81 68:=.mk_ Try.f81 rfl
def c82:ACode :=
 (sq_ [pr_ 1 (.boxm (.tmp 0)),
 pr_ 2 (.allocm [.pl (.int .u64 0),.pl (.int .u64 0),.pl (.int .u64 0),.pl (.int .u64 0)])]
 (.seq (sq_ [pr_ 4 (mi_ .i64 0)]
 (.block 0 (.loop [0,3,5,6,7,8,9,10,11,12,13,14] (sq_ [pr_ 5 (bk_ .lss 4 .i64 4)]
 (.seq (.cond (.tmp 5)
 .skip
 (.exit 0))
 (.seq (.block 1 (sq_ [mv_ 6 4,
 mv_ 3 6]
 (.ops [mv_ 7 3,
 mv_ 8 3,
 pr_ 9 (.iadra 1 4 (.tmp 1) (.tmp 8)),
 pr_ 10 (lf_ 1 9),
 pr_ 11 (.un .xor (.tmp 10)),
 pr_ 12 (.iadra 1 4 (.tmp 1) (.tmp 7)),
 st_ (so_ 1 12 11)])))
 (.ops [pr_ 13 (bk_ .add 4 .i64 1),
 mv_ 4 13])))))))
 (sq_ [pr_ 14 (lt_ 4 1),
 st_ (so_ 4 2 14)]
 .ret)))
def o82:List Tmp:=[1,2]
def r82:List RV:=[.cell 2 4 true]
theorem t82:Text Try.prog 82 o82 c82 r82 15:=.mk_ Try.f82 rfl
def c83:ACode :=
 (.draw [⟨mv_ 4 0,[],false,0,0⟩,
 ⟨mv_ 5 1,[],false,0,0⟩,
 ⟨pr_ 6 (bk_ .quo 5 .u8 64),[1],false,0,0⟩,
 ⟨pr_ 7 (nc_ 4),[0],false,0,0⟩,
 ⟨pr_ 8 (.iadra 1 4 (.tmp 7) (.tmp 6)),[0,1,2,3],false,0,0⟩,
 ⟨pr_ 9 (lf_ 1 8),[0,1,2,3,4],false,0,0⟩,
 ⟨mv_ 10 1,[],false,0,0⟩,
 ⟨pr_ 11 (bk_ .rem 10 .u8 64),[6],false,0,0⟩,
 ⟨pr_ 12 (.bin false .shl (.const (.int .u64 1)) (.tmp 11)),[6,7],false,0,0⟩,
 ⟨pr_ 13 (bt_ .or 9 12),(List.range 9),false,0,0⟩,
 ⟨pr_ 14 (nc_ 4),[0],false,0,0⟩,
 ⟨pr_ 15 (.iadra 1 4 (.tmp 14) (.tmp 6)),(List.range 11),false,0,0⟩,
 ⟨st_ (so_ 1 15 13),(List.range 12),true,0,0⟩])
def o83:List Tmp:=[]
def r83:List RV:=[]
theorem t83:Text Try.prog 83 o83 c83 r83 16:=.mk_ Try.f83 rfl
def c84:ACode :=
 (sq_ [pr_ 2 (mi_ .u8 0)]
 (sq_ [mv_ 4 0,
 c1_ 5 80 4,
 mv_ 3 5]
 (sq_ [mv_ 6 0,
 mv_ 7 0,
 pr_ 8 (nc_ 7),
 pr_ 9 (fa_ 2 8),
 pr_ 10 (lf_ 1 9),
 mv_ 11 10,
 gp_ 12 11 false (mo_ 3),
 gc_ 13 11 false 85 [(.const (.string (ByteArray.mk #[124,42,43,63,40,41,91,93,46,92,94,45]))),(.tmp 12)],
 gp_ 14 11 false (bk_ .lss 13 .i64 0),
 pr_ 15 (po_ 11 14),
 pr_ 16 (nc_ 6),
 pr_ 17 (fa_ 2 16),
 st_ (so_ 1 17 15)]
 (sq_ [mv_ 18 3,
 mv_ 2 18]
 .ret))))
def o84:List Tmp:=[]
def r84:List RV:=[.tmp 2]
theorem t84:Text Try.prog 84 o84 c84 r84 19:=.mk_ Try.f84 rfl
def c85:ACode :=
 (sq_ [pr_ 4 (mi_ .i64 0)]
 (sq_ [mv_ 5 0,
 mv_ 6 1,
 cl_ 7 87 [(.tmp 5),(.tmp 6)],
 mv_ 4 7]
 .ret))
def o85:List Tmp:=[]
def r85:List RV:=[.tmp 4]
theorem t85:Text Try.prog 85 o85 c85 r85 8:=.mk_ Try.f85 rfl
def c86:ACode :=
 (sq_ [pr_ 2 (mi_ .u8 0)]
 (sq_ [mv_ 4 0,
 c1_ 5 80 4,
 mv_ 3 5]
 (.seq (sq_ [mv_ 6 3,
 pr_ 7 (bk_ .eql 6 .u8 92)]
 (.cond (.tmp 7)
 (sq_ [mv_ 8 0,
 c1_ 9 84 8,
 mv_ 2 9]
 .ret)
 .skip))
 (sq_ [mv_ 10 0,
 mv_ 11 0,
 pr_ 12 (nc_ 11),
 pr_ 13 (fa_ 2 12),
 pr_ 14 (lf_ 1 13),
 mv_ 15 14,
 gp_ 16 15 false (mo_ 3),
 gc_ 17 15 false 85 [(.const (.string (ByteArray.mk #[92,93,91,94,45]))),(.tmp 16)],
 gp_ 18 15 false (bk_ .geq 17 .i64 0),
 pr_ 19 (po_ 15 18),
 pr_ 20 (nc_ 10),
 pr_ 21 (fa_ 2 20),
 st_ (so_ 1 21 19)]
 (sq_ [mv_ 22 3,
 mv_ 2 22]
 .ret)))))
def o86:List Tmp:=[]
def r86:List RV:=[.tmp 2]
theorem t86:Text Try.prog 86 o86 c86 r86 23:=.mk_ Try.f86 rfl
def c87:ACode :=
 (sq_ [pr_ 4 (mi_ .i64 0)]
 (sq_ [mv_ 5 0,
 mv_ 6 1,
 cl_ 7 88 [(.tmp 5),(.tmp 6)],
 mv_ 4 7]
 .ret))
def o87:List Tmp:=[]
def r87:List RV:=[.tmp 4]
theorem t87:Text Try.prog 87 o87 c87 r87 8:=.mk_ Try.f87 rfl
abbrev I (n:Int):AV:=.pl (.int .i64 n)
abbrev Bo (b:Bool):AV:=.pl (.bool b)
abbrev Sx (s:ByteArray):AV:=.pl (.string s)
theorem wrapN {n:Int} (h: -9223372036854775808≤n) (h':n<9223372036854775808):IntKind.i64.wrap n=n:=by
 simp only[IntKind.wrap,IntKind.bits,IntKind.signed];simp;omega
theorem Fini.ret2 {n m:Nat} {rvs:List RV} {r r':AV} {σ σ':St} {env:Env} (h:resA env σ rvs=some r') (e:r'=r) (e':σ=σ'):Fini m rvs r σ' .ret env σ:=by
 subst e;subst e';exact Fini.ret h
theorem Fini.trim2 {m:Nat} {rvs:List RV} {r:AV} {σ σ' ex:St} {env:Env} (h:resA env σ rvs=some r) (he:σ=σ'++ex) (hl:m≤σ'.length) (hb:Bel σ'.length r) (ho:∀o∈σ',BelO σ'.length o):Fini m rvs r σ' .ret env σ:=by
 subst he;exact⟨r,σ'++ex,h,rfl,rfl,.inr ⟨hl,by simp,hb,ho⟩⟩
def names:List ByteArray:=[⟨#[115,101,118]⟩,⟨#[106,111,98]⟩,⟨#[104,111,115,116]⟩,⟨#[95,120]⟩,⟨#[90,111,110,101,57]⟩]
def values:List ByteArray:=[⟨#[97]⟩,⟨#[98]⟩,⟨#[99,114,105,116]⟩,⟨#[119,97,114,110]⟩,⟨#[97,98]⟩,⟨#[0,255]⟩,⟨#[97,98,97,98,97,98,97,98,97,98,97,98,97,98,97,98,97,98,97,98,97,98,97,98]⟩]
def pats:List ByteArray:=[⟨#[97,124,98]⟩,⟨#[]⟩,⟨#[40,99,114,105,116,124,119,97,114,110,41]⟩,⟨#[91,97,45,99,93,43,46,42]⟩,⟨#[46,43]⟩,⟨#[40,97,98,41,42]⟩,⟨#[97,63,98,63]⟩,⟨#[91,94,97,93,42]⟩,⟨#[97,42,97,42,97,42,97,42,97,42,97,42,97,42,97,42,97,42,97,42,97,42,97,42,97,42,97,42]⟩]
section
variable (σ:St)
abbrev mat (k:Int) (n v:ByteArray):AV:=.agg [I k,Sx n,Sx v]
end
abbrev Lab:=ByteArray×ByteArray
abbrev lv (x:Lab):AV:=.agg [Sx x.1,Sx x.2]
def lvs (L:List Lab):List AV:=L.map lv
theorem z1h (L:List Lab):(lvs L).length=L.length:=List.length_map ..
theorem zay (L:List Lab) (i:Nat) (h:i<L.length):(lvs L)[i]?=some (lv L[i]):=by simp[lvs,h]
section
variable (σ:St)
theorem z14 {i n:Nat} (h:i<n):((i:Int)<(n:Nat))=True:=by simp;omega
theorem zaz {i n:Nat} (h:¬i<n):((i:Int)<(n:Nat))=False:=by simp;omega
theorem dec_lt {i n:Nat} (h:i<n):decide ((i:Int)<(n:Nat))=true:=by simp;omega
theorem zaA {i n:Nat} (h:¬i<n):decide ((i:Int)<(n:Nat))=false:=by simp;omega
theorem wrap_succ {i:Nat} (h:i≤100000):IntKind.i64.wrap ((i:Int)+1)=((i+1:Nat):Int):=by rw[wrapN (by omega) (by omega)];rfl
def leS (a b:ByteArray):Bool:=Op.bytesLess a.toList b.toList||a.toList==b.toList
end
abbrev noL:Lab:=(⟨#[]⟩,⟨#[]⟩)
def pos (out:List Lab) (x:Lab):Nat→Nat
 |0=>0
 |n+1=>if Op.bytesLess x.1.toList (out.getD n noL).1.toList then pos out x n else n+1
theorem B_pl (n:Nat) (v:Value):Bel n (.pl v)=True:=eq_true (.pl v)
theorem B_any (n:Nat):Bel n .any=True:=eq_true .any
theorem z4o (n:Nat):Bel n .nils=True:=eq_true .nils
theorem B_tup (n:Nat):Bel n (.tup [])=True:=eq_true (.tup _ fun i hi=>absurd hi (Nat.not_lt_zero _))
theorem B_sl0 (n k:Nat):Bel n (.sl k [])=True:=eq_true (.sl k [] fun i hi=>absurd hi (Nat.not_lt_zero _))
theorem B_osl (n l k:Nat):Bel n (.osl l k)=(l<n):=by
 apply propext;constructor
 · intro h;cases h;assumption
 · intro h;exact .osl l k h
theorem B_ptr (n l k:Nat):Bel n (.ptr l k)=(l<n):=by
 apply propext;constructor
 · intro h;cases h;assumption
 · intro h;exact .ptr l k h
section
variable (σ:St)
theorem g0 (x:Ob) (ex:St):(σ++x::ex)[σ.length]?=some x:=by rw[List.getElem?_append_right (by simp)];simp
theorem s0 (x y:Ob) (ex:St):(σ++x::ex).set σ.length y=σ++y::ex:=by rw[List.set_append_right _ _ (by simp)];simp
end
section
variable (σ:St)
theorem g1 (x y:Ob) (ex:St):(σ++x::y::ex)[σ.length+1]?=some y:=by rw[List.getElem?_append_right (by simp)];simp
theorem s1 (x y z:Ob) (ex:St):(σ++x::y::ex).set (σ.length+1) z=σ++x::z::ex:=by rw[List.set_append_right _ _ (by simp)];simp
end
end Go.Proofs.Ytmkmhhjkdaklbaa
namespace Go.Proofs.Ytmkmhhjkdaklbaa
open Go Go.Ab Go.Cod
set_option maxRecDepth 100000
abbrev UN (n:Nat):AV:=.pl (.int .u64 n)
def bc (c:UInt8):AV:=.pl (.int .u8 c.toNat)
def byv (b:Byt):List AV:=b.map bc
theorem z05 (b:Byt):(byv b).length=b.length:=List.length_map ..
theorem zaB:byv []=[]:=rfl
theorem z4K (c:UInt8) (b:Byt):byv (c::b)=bc c::byv b:=rfl
theorem z0T (a b:Byt):byv (a++b)=byv a++byv b:=List.map_append ..
theorem z3v (b:Byt) (k:Nat):(byv b).take k=byv (b.take k):=by simp[byv]
theorem z3w (b:Byt) (k:Nat):(byv b).drop k=byv (b.drop k):=by simp[byv]
theorem z0I (b:Byt) (f:AV→Bool) (h:∀c:UInt8,f (bc c)=true):(byv b).all f=true:=by
 simp only[byv,List.all_map,List.all_eq_true];intro c _;exact h c
theorem z82 (b:Byt) (i:Nat) (h:i<b.length):(byv b)[i]?=some (bc b[i]):=by simp[byv,h]
theorem zbc (n:Nat) (c:UInt8):Bel n (bc c):=.pl _
theorem z1i (n:Nat) (b:Byt):Bel n (.sl 1 (byv b)):=.sl 1 _ fun i hi=>by
 have:(byv b)[i]=bc (b[i]'(by rw[←z05];exact hi)):=by simp[byv]
 rw[this];exact zbc n _
theorem z9h (s:ByteArray):(s.data.toList.map fun b=>(AV.pl (.int .u8 b.toNat)))=byv s.data.toList:=rfl
theorem z1u:∀b:Byt,byteL (byv b)=some (b.map fun c=>(c.toNat:Int))
 |[]=>rfl
 |c::b=>by simp only[z4K,bc,byteL,z1u b,Option.map_some,List.map_cons]
theorem z1j (b:Byt):textOf (b.map fun c=>(c.toNat:Int))=⟨b.toArray⟩:=by
 unfold textOf;congr 2
 rw[List.map_map]
 conv=>rhs;rw[←List.map_id b]
 apply List.map_congr_left;intro c _;simp
theorem z1y {n:Nat} (h:n<18446744073709551616):IntKind.u64.wrap (n:Int)=(n:Int):=by
 simp only[IntKind.wrap,IntKind.bits,IntKind.signed];simp;omega
theorem z6D {n:Nat}:IntKind.u8.wrap (n:Int)=((n%256:Nat):Int):=by
 simp only[IntKind.wrap,IntKind.bits,IntKind.signed];simp
theorem or128:∀m:Fin 256,IntKind.u8.wrap ((BitVec.ofInt 8 (m.val:Int) ||| BitVec.ofInt 8 128).toNat:Int)=((m.val%128+128:Nat):Int):=by decide +kernel
theorem bc_of {n:Nat} (h:n<256):AV.pl (.int .u8 n)=bc n.toUInt8:=by
 rw[bc,toNat_toUInt8 h]
theorem row1 (σ:St) (x:Ob):(σ++[x])[σ.length]?=some x:=by simp
theorem shr7 (n:Nat):((n:Int).fdiv (2^min (7:Int).toNat 64))=((n/128:Nat):Int):=by
 have:(min (7:Int).toNat 64)=7:=rfl;rw[this];rw[Int.fdiv_eq_ediv_of_nonneg _ (by decide)]
 rfl
theorem z6E:∀(k n:Nat),n<128^(k+1)→(putN n).length≤k+1
 |0,n,h=>by rw[z2j (by simpa using h)];simp
 |k+1,n,h=>by
  by_cases h1:n<128
  · rw[z2j h1];simp
  · rw[z3O h1,List.length_cons];have:=z6E k (n/128) (Nat.div_lt_of_lt_mul (by rw[Nat.pow_succ,Nat.mul_comm]at h;exact h))
    omega
theorem z0t {n:Nat} (h:n<18446744073709551616):(putN n).length≤10:=z6E 9 n (Nat.lt_of_lt_of_le h (by decide))
theorem z83 (n:Nat):IntKind.u8.wrap ((BitVec.ofInt 8 (((n%256:Nat):Int)) ||| BitVec.ofInt 8 128).toNat:Int)=((n%128+128:Nat):Int):=by
 have:=or128 ⟨n%256,Nat.mod_lt _ (by decide)⟩
 simp only[show(n%256)%128=n%128 by omega]at this
 exact this
theorem u8_or (n:Nat):IntKind.u8.wrap ((BitVec.ofInt IntKind.u8.bits (((n%256:Nat):Int)) ||| BitVec.ofInt IntKind.u8.bits 128).toNat:Int)=((n%128+128:Nat):Int):=z83 n
theorem intle (a b:Nat):decide ((a:Int)≤(b:Int))=decide (a≤b):=by rw[Bool.eq_iff_iff];simp
theorem Fini.ret3 {n m:Nat} {rvs:List RV} {r r':AV} {σ σ':St} {env:Env} (h:resA env σ rvs=some r') (e:r'=r) (e':σ=σ'):Fini m rvs r σ' .ret env σ:=by
 subst e;subst e';exact Fini.ret h
section
variable (σ:St)
theorem z4L (n:Nat) (hn:n<18446744073709551616):Ans Try.prog 21 [UN n] σ (.osl σ.length (putN n).length) (σ++[.row 1 (byv (putN n))]):=by
 have h10:=z0t hn;refine Ans.of_run t21 ?_;simp -implicitDefEqProofs only[c21,r21,go_sem];refine Go.Ab.L.intro (α:={ p:Nat×Byt // p.1<18446744073709551616∧p.2++putN p.1=putN n }) (fun p=>p.1.1) (fun p=>mkE 19 [(0,UN p.1.1),(3,.osl σ.length p.1.2.length)]) (fun p=>σ++[.row 1 (byv p.1.2)]) ?_ ⟨(n,[]),hn,rfl⟩ rfl rfl
 rintro⟨⟨m,pre⟩,hm,hp⟩ J hJ;have hl:pre.length+(putN m).length≤10:=by rw[←List.length_append,hp];exact h10
 have hx:∀c:Int,(byv pre++[AV.pl (.int .u8 c)]).length=pre.length+1:=fun c=>by simp[z05]
 have d0:=intle 128 m;simp only[Int.cast_ofNat_Int]at d0;have hw:=z1y hm;have hle:pre.length+1≤2^32:=by omega
 by_cases h:m<128
 · have d1:decide ((128:Int)≤m)=false:=by simp;omega
   have d2:IntKind.u8.wrap (m:Int)=m:=by rw[z6D];congr 1;omega
   simp -implicitDefEqProofs only[mkE,go_sem,d1,row1,z05,List.length_singleton,hle,d2];refine Fini.ret3 (n:=0) rfl ?_ ?_
   · show AV.osl σ.length (pre.length+1)=AV.osl σ.length (putN n).length;rw[←hp,z2j h];simp
   · rw[List.set_append_right _ _ (Nat.le_refl _)];simp only[Nat.sub_self,List.set_cons_zero];rw[←hp,z0T,z2j h,bc_of (show m<256 by omega)]
     rfl
 · have d1:decide ((128:Int)≤m)=true:=by simp;omega
   simp -implicitDefEqProofs only[mkE,go_sem,d1,row1,z05,List.length_singleton,hle,z6D (n:=m),u8_or,z83,shr7,z1y (show m/128<18446744073709551616 by omega)]
   rw[List.set_append_right _ _ (Nat.le_refl _)];simp only[Nat.sub_self,List.set_cons_zero]
   have hgo:=hJ ⟨(m/128,pre++[(m%128+128).toUInt8]),by simp only;omega,by
    rw[←hp];simp only[List.append_assoc,List.singleton_append];rw[z3O h]⟩ (by simp only;omega)
   simp only[z0T,List.length_append,List.length_singleton]at hgo
   have key:∀v:Int,v=((m%128+128:Nat):Int)→J (mkE 19 [(0,UN (m/128)),(3,.osl σ.length (pre.length+1))]) (σ++[Ob.row 1 (byv pre++[AV.pl (.int .u8 v)])]):=by
    rintro _ rfl;rw[bc_of (show m%128+128<256 by omega)]
    exact hgo
   exact key _ (z83 m)
theorem z3Q (s:ByteArray) (hs:s.size≤4294967280):Ans Try.prog 17 [Sx s] σ (.osl σ.length (txtB s).length) (σ++[.row 1 (byv (txtB s))]):=by
 have h10:=z0t (n:=s.size) (by omega)
 have hsz:=z20 s;have hw:=z1y (n:=s.size) (by omega)
 have hle:(putN s.size).length+s.size≤2^32:=by omega
 refine Ans.of_run' t17 (fun hbel _=>?_)
 simp -implicitDefEqProofs only[c17,r17,go_sem,hw];refine CO.intro (z4L σ s.size (by omega)) ?_
 simp -implicitDefEqProofs only[go_sem,z9h,row1,z05,hsz,hle];simp -implicitDefEqProofs only[go_sem,g0,s0,z05,hsz,←z0T,List.length_append];refine Fini.ret3 (n:=0) rfl ?_ rfl;show AV.osl σ.length ((putN s.size).length+s.size)=AV.osl σ.length (txtB s).length;unfold txtB;rw[List.length_append,hsz]
theorem z1k (s:ByteArray) (hs:s.size≤4294967280):Ans Try.prog 17 [Sx s] σ (.sl 1 (byv (txtB s))) σ :=
 (z3Q σ s hs).shut (by rw[z05]) (z1i _ _)
end
end Go.Proofs.Ytmkmhhjkdaklbaa
