/- What the functions do, over abstract values: printed by a program, checked by the kernel. No condition. -/
import Derived.Test.YthlkjemalepnlaaGreatDoorProg
import Derived.Test.YthlkjemalepnlaaGreatDoorAbSpec
namespace Go.Proofs.YthlkjemalepnlaaGreatDoor
open Go Go.Ab
set_option maxRecDepth 100000

/-- gosem.cut.init -/
def c2 : ACode :=
  (.ops [⟨some 0, none, .call (.func 1) []⟩])
def o2 : List Tmp := []
def r2 : List RV := []
theorem t2 : Text Tryz.prog 2 o2 c2 r2 1 := ⟨⟨Tryz.f2, _, by kernel_rfl, by kernel_rfl, rfl, by kernel_rfl, by kernel_rfl, rfl⟩, by kernel_rfl⟩

/-- sordine/sordinelaw23.ChainLinks -/
def c3 : ACode :=
  (.seq (.ops [⟨some 4, none, .prim (.boxr (.tmp 1))⟩,
      ⟨some 6, none, .prim (.mov (.const (Go.Value.bool Bool.false)))⟩])
    (.seq (.seq (.ops [⟨some 7, none, .prim (.mov (.tmp 2))⟩,
      ⟨some 8, none, .prim (.lenv (.tmp 7))⟩,
      ⟨some 9, none, .prim (.bin false .gtr (.tmp 8) (.const (Go.Value.int Go.IntKind.i64 300)))⟩])
    (.cond (.tmp 9)
    (.seq (.ops [⟨some 10, none, .call (.func 5) []⟩,
      ⟨some 6, none, .prim (.mov (.tmp 10))⟩])
    .ret)
    .skip))
    (.seq (.draw [⟨⟨some 11, none, .prim (.mov (.tmp 0))⟩, [], false, 0, 0⟩,
      ⟨⟨some 12, none, .call (.func 6) [(.tmp 11)]⟩, [0], true, 0, 0⟩,
      ⟨⟨some 13, none, .prim (.b2s (.tmp 12))⟩, [0, 1], false, 1, 2⟩,
      ⟨⟨some 14, none, .prim (.mov (.tmp 0))⟩, [], false, 0, 1⟩,
      ⟨⟨some 15, none, .call (.func 7) [(.tmp 14)]⟩, [0, 1, 3], true, 0, 0⟩,
      ⟨⟨some 16, none, .prim (.b2s (.tmp 15))⟩, [0, 1, 3, 4], false, 2, 2⟩,
      ⟨⟨some 17, none, .prim (.bin false .eql (.tmp 13) (.tmp 16))⟩, [0, 1, 2, 3, 4, 5], false, 2, 2⟩,
      ⟨⟨some 18, none, .prim (.mov (.tmp 17))⟩, [0, 1, 2, 3, 4, 5, 6], false, 2, 2⟩,
      ⟨⟨some 19, (some (18, true)), .prim (.load 32 true (.tmp 4))⟩, [0, 1, 2, 3, 4, 5, 6, 7], false, 2, 2⟩,
      ⟨⟨some 20, (some (18, true)), .prim (.mov (.tmp 2))⟩, [0, 1, 2, 3, 4, 5, 6, 7], false, 2, 2⟩,
      ⟨⟨some 21, (some (18, true)), .call (.func 8) [(.tmp 19), (.tmp 20)]⟩, [0, 1, 2, 3, 4, 5, 6, 7, 8, 9], true, 0, 0⟩,
      ⟨⟨some 22, (some (18, true)), .prim (.b2s (.tmp 21))⟩, [0, 1, 2, 3, 4, 5, 6, 7, 8, 9, 10], false, 3, 4⟩,
      ⟨⟨some 23, (some (18, true)), .prim (.load 32 true (.tmp 4))⟩, [0, 1, 2, 3, 4, 5, 6, 7], false, 2, 3⟩,
      ⟨⟨some 24, (some (18, true)), .prim (.mov (.tmp 2))⟩, [0, 1, 2, 3, 4, 5, 6, 7], false, 2, 3⟩,
      ⟨⟨some 25, (some (18, true)), .call (.func 9) [(.tmp 23), (.tmp 24)]⟩, [0, 1, 2, 3, 4, 5, 6, 7, 8, 9, 10, 12, 13], true, 0, 0⟩,
      ⟨⟨some 26, (some (18, true)), .prim (.b2s (.tmp 25))⟩, [0, 1, 2, 3, 4, 5, 6, 7, 8, 9, 10, 12, 13, 14], false, 4, 4⟩,
      ⟨⟨some 27, (some (18, true)), .prim (.bin false .eql (.tmp 22) (.tmp 26))⟩, [0, 1, 2, 3, 4, 5, 6, 7, 8, 9, 10, 11, 12, 13, 14, 15], false, 4, 4⟩,
      ⟨⟨some 28, none, .prim (.pick (.tmp 18) (.tmp 27) (.const (Go.Value.bool Bool.false)))⟩, [0, 1, 2, 3, 4, 5, 6, 7, 8, 9, 10, 11, 12, 13, 14, 15, 16], false, 4, 4⟩,
      ⟨⟨some 29, none, .prim (.mov (.tmp 28))⟩, [0, 1, 2, 3, 4, 5, 6, 7, 8, 9, 10, 11, 12, 13, 14, 15, 16, 17], false, 4, 4⟩,
      ⟨⟨some 30, (some (29, true)), .call (.func 5) []⟩, [0, 1, 2, 3, 4, 5, 6, 7, 8, 9, 10, 11, 12, 13, 14, 15, 16, 17, 18], true, 0, 0⟩,
      ⟨⟨some 31, none, .prim (.pick (.tmp 29) (.tmp 30) (.const (Go.Value.bool Bool.false)))⟩, [0, 1, 2, 3, 4, 5, 6, 7, 8, 9, 10, 11, 12, 13, 14, 15, 16, 17, 18, 19], false, 5, 5⟩,
      ⟨⟨some 6, none, .prim (.mov (.tmp 31))⟩, [0, 1, 2, 3, 4, 5, 6, 7, 8, 9, 10, 11, 12, 13, 14, 15, 16, 17, 18, 19, 20], false, 5, 5⟩])
    .ret)))
def o3 : List Tmp := []
def r3 : List RV := [.tmp 6]
theorem t3 : Text Tryz.prog 3 o3 c3 r3 32 := ⟨⟨Tryz.f3, _, by kernel_rfl, by kernel_rfl, rfl, by kernel_rfl, by kernel_rfl, rfl⟩, by kernel_rfl⟩

/-- sordine/sordinelaw23.ChainTexts -/
def c4 : ACode :=
  (.seq (.ops [⟨some 8, none, .prim (.boxr (.tmp 2))⟩,
      ⟨some 9, none, .prim (.boxr (.tmp 3))⟩,
      ⟨some 12, none, .prim (.mov (.const (Go.Value.bool Bool.false)))⟩])
    (.seq (.seq (.ops [⟨some 17, none, .prim (.mov (.tmp 4))⟩,
      ⟨some 18, none, .prim (.lenv (.tmp 17))⟩,
      ⟨some 19, none, .prim (.bin false .gtr (.tmp 18) (.const (Go.Value.int Go.IntKind.i64 300)))⟩,
      ⟨some 20, none, .prim (.mov (.tmp 19))⟩,
      ⟨some 21, (some (20, false)), .prim (.mov (.tmp 5))⟩,
      ⟨some 22, (some (20, false)), .prim (.lenv (.tmp 21))⟩,
      ⟨some 23, (some (20, false)), .prim (.bin false .gtr (.tmp 22) (.const (Go.Value.int Go.IntKind.i64 300)))⟩,
      ⟨some 24, none, .prim (.pick (.tmp 20) (.const (Go.Value.bool Bool.true)) (.tmp 23))⟩])
    (.cond (.tmp 24)
    (.seq (.ops [⟨some 25, none, .call (.func 5) []⟩,
      ⟨some 12, none, .prim (.mov (.tmp 25))⟩])
    .ret)
    .skip))
    (.seq (.draw [⟨⟨some 26, none, .prim (.mov (.tmp 0))⟩, [], false, 0, 0⟩,
      ⟨⟨some 27, none, .call (.func 6) [(.tmp 26)]⟩, [0], true, 0, 0⟩,
      ⟨⟨some 28, none, .prim (.b2s (.tmp 27))⟩, [0, 1], false, 1, 2⟩,
      ⟨⟨some 29, none, .prim (.mov (.tmp 1))⟩, [], false, 0, 1⟩,
      ⟨⟨some 30, none, .call (.func 6) [(.tmp 29)]⟩, [0, 1, 3], true, 0, 0⟩,
      ⟨⟨some 31, none, .prim (.b2s (.tmp 30))⟩, [0, 1, 3, 4], false, 2, 2⟩,
      ⟨⟨some 13, none, .prim (.mov (.tmp 28))⟩, [0, 1, 2, 3, 4], false, 2, 2⟩,
      ⟨⟨some 14, none, .prim (.mov (.tmp 31))⟩, [0, 1, 2, 3, 4, 5, 6], false, 2, 2⟩])
    (.seq (.draw [⟨⟨some 32, none, .prim (.load 32 true (.tmp 8))⟩, [], false, 0, 0⟩,
      ⟨⟨some 33, none, .prim (.mov (.tmp 4))⟩, [], false, 0, 0⟩,
      ⟨⟨some 34, none, .call (.func 8) [(.tmp 32), (.tmp 33)]⟩, [0, 1], true, 0, 0⟩,
      ⟨⟨some 35, none, .prim (.b2s (.tmp 34))⟩, [0, 1, 2], false, 1, 2⟩,
      ⟨⟨some 36, none, .prim (.load 32 true (.tmp 9))⟩, [], false, 0, 1⟩,
      ⟨⟨some 37, none, .prim (.mov (.tmp 5))⟩, [], false, 0, 1⟩,
      ⟨⟨some 38, none, .call (.func 8) [(.tmp 36), (.tmp 37)]⟩, [0, 1, 2, 4, 5], true, 0, 0⟩,
      ⟨⟨some 39, none, .prim (.b2s (.tmp 38))⟩, [0, 1, 2, 4, 5, 6], false, 2, 2⟩,
      ⟨⟨some 15, none, .prim (.mov (.tmp 35))⟩, [0, 1, 2, 3, 4, 5, 6], false, 2, 2⟩,
      ⟨⟨some 16, none, .prim (.mov (.tmp 39))⟩, [0, 1, 2, 3, 4, 5, 6, 7, 8], false, 2, 2⟩])
    (.seq (.ops [⟨some 40, none, .prim (.mov (.tmp 13))⟩,
      ⟨some 41, none, .prim (.mov (.tmp 14))⟩,
      ⟨some 42, none, .prim (.bin false .eql (.tmp 40) (.tmp 41))⟩,
      ⟨some 43, none, .prim (.mov (.tmp 0))⟩,
      ⟨some 44, none, .prim (.mov (.tmp 1))⟩,
      ⟨some 45, none, .prim (.bin false .eql (.tmp 43) (.tmp 44))⟩,
      ⟨some 46, none, .prim (.bin true .eql (.tmp 42) (.tmp 45))⟩,
      ⟨some 47, none, .prim (.mov (.tmp 46))⟩,
      ⟨some 48, (some (47, true)), .prim (.mov (.tmp 15))⟩,
      ⟨some 49, (some (47, true)), .prim (.mov (.tmp 16))⟩,
      ⟨some 50, (some (47, true)), .prim (.bin false .eql (.tmp 48) (.tmp 49))⟩,
      ⟨some 51, (some (47, true)), .prim (.load 32 true (.tmp 8))⟩,
      ⟨some 52, (some (47, true)), .prim (.load 32 true (.tmp 9))⟩,
      ⟨some 53, (some (47, true)), .prim (.eqa false [.int, .int, .int, .int, .int, .int, .int, .int, .int, .int, .int, .int, .int, .int, .int, .int, .int, .int, .int, .int, .int, .int, .int, .int, .int, .int, .int, .int, .int, .int, .int, .int] (.tmp 51) (.tmp 52))⟩,
      ⟨some 54, (some (47, true)), .prim (.mov (.tmp 53))⟩,
      ⟨some 55, (some (54, true)), .prim (.mov (.tmp 4))⟩,
      ⟨some 56, (some (54, true)), .prim (.b2s (.tmp 55))⟩,
      ⟨some 57, (some (54, true)), .prim (.mov (.tmp 5))⟩,
      ⟨some 58, (some (54, true)), .prim (.b2s (.tmp 57))⟩,
      ⟨some 59, (some (54, true)), .prim (.bin false .eql (.tmp 56) (.tmp 58))⟩,
      ⟨some 60, (some (47, true)), .prim (.pick (.tmp 54) (.tmp 59) (.const (Go.Value.bool Bool.false)))⟩,
      ⟨some 61, (some (47, true)), .prim (.bin true .eql (.tmp 50) (.tmp 60))⟩,
      ⟨some 62, none, .prim (.pick (.tmp 47) (.tmp 61) (.const (Go.Value.bool Bool.false)))⟩,
      ⟨some 63, none, .prim (.mov (.tmp 62))⟩,
      ⟨some 64, (some (63, true)), .prim (.mov (.tmp 13))⟩,
      ⟨some 65, (some (63, true)), .prim (.mov (.tmp 15))⟩,
      ⟨some 66, (some (63, true)), .prim (.bin false .neq (.tmp 64) (.tmp 65))⟩,
      ⟨some 67, none, .prim (.pick (.tmp 63) (.tmp 66) (.const (Go.Value.bool Bool.false)))⟩,
      ⟨some 68, none, .prim (.mov (.tmp 67))⟩,
      ⟨some 69, (some (68, true)), .prim (.mov (.tmp 13))⟩,
      ⟨some 70, (some (68, true)), .prim (.mov (.tmp 16))⟩,
      ⟨some 71, (some (68, true)), .prim (.bin false .neq (.tmp 69) (.tmp 70))⟩,
      ⟨some 72, none, .prim (.pick (.tmp 68) (.tmp 71) (.const (Go.Value.bool Bool.false)))⟩,
      ⟨some 73, none, .prim (.mov (.tmp 72))⟩,
      ⟨some 74, (some (73, true)), .call (.func 5) []⟩,
      ⟨some 75, none, .prim (.pick (.tmp 73) (.tmp 74) (.const (Go.Value.bool Bool.false)))⟩,
      ⟨some 12, none, .prim (.mov (.tmp 75))⟩])
    .ret)))))
def o4 : List Tmp := []
def r4 : List RV := [.tmp 12]
theorem t4 : Text Tryz.prog 4 o4 c4 r4 76 := ⟨⟨Tryz.f4, _, by kernel_rfl, by kernel_rfl, rfl, by kernel_rfl, by kernel_rfl, rfl⟩, by kernel_rfl⟩

/-- sordine/sordinelaw23.ChainRuns -/
def c5 : ACode :=
  (.seq (.ops [⟨some 0, none, .prim (.mov (.const (Go.Value.bool Bool.false)))⟩])
    (.seq (.ops [⟨some 5, none, .call (.func 10) [(.const (Go.Value.int Go.IntKind.i64 7)), (.const (Go.Value.int Go.IntKind.i64 2))]⟩,
      ⟨some 1, none, .prim (.mov (.tmp 5))⟩])
    (.seq (.seq (.ops [⟨some 6, none, .prim (.mov (.tmp 1))⟩,
      ⟨some 7, none, .prim (.isnil false true (.tmp 6))⟩])
    (.cond (.tmp 7)
    (.seq (.ops [⟨some 0, none, .prim (.mov (.const (Go.Value.bool Bool.false)))⟩])
    .ret)
    .skip))
    (.seq (.ops [⟨some 8, none, .prim (.mov (.tmp 1))⟩,
      ⟨some 9, none, .call (.func 11) [(.tmp 8)]⟩,
      ⟨some 2, none, .prim (.mov (.tmp 9))⟩])
    (.seq (.ops [⟨some 10, none, .prim (.mov (.tmp 1))⟩,
      ⟨some 11, none, .prim (.bsl false 1 false 1 [.pl (.int .u8 0)] [(0, 1, (.const (Go.Value.int Go.IntKind.u8 1)))])⟩,
      ⟨some 12, none, .call (.func 12) [(.tmp 10), (.const (Go.Value.int Go.IntKind.u64 3)), (.tmp 11), (.const (Go.Value.int Go.IntKind.i64 0))]⟩,
      ⟨some 3, none, .prim (.mov (.tmp 12))⟩])
    (.seq (.ops [⟨some 13, none, .prim (.mov (.tmp 1))⟩,
      ⟨some 14, none, .prim (.bsl false 1 false 1 [.pl (.int .u8 0)] [(0, 1, (.const (Go.Value.int Go.IntKind.u8 1)))])⟩,
      ⟨some 15, none, .call (.func 12) [(.tmp 13), (.const (Go.Value.int Go.IntKind.u64 2)), (.tmp 14), (.const (Go.Value.int Go.IntKind.i64 0))]⟩,
      ⟨some 4, none, .prim (.mov (.tmp 15))⟩])
    (.seq (.ops [⟨some 16, none, .prim (.mov (.tmp 2))⟩,
      ⟨some 17, none, .prim (.lenv (.tmp 16))⟩,
      ⟨some 18, none, .prim (.bin false .eql (.tmp 17) (.const (Go.Value.int Go.IntKind.i64 1)))⟩,
      ⟨some 19, none, .prim (.mov (.tmp 18))⟩,
      ⟨some 20, (some (19, true)), .prim (.mov (.tmp 2))⟩,
      ⟨some 21, (some (19, true)), .prim (.iadrs 1 (.tmp 20) (.const (Go.Value.int Go.IntKind.i64 0)))⟩,
      ⟨some 22, (some (19, true)), .prim (.load 1 false (.tmp 21))⟩,
      ⟨some 23, (some (19, true)), .prim (.bin false .eql (.tmp 22) (.const (Go.Value.int Go.IntKind.u8 0)))⟩,
      ⟨some 24, none, .prim (.pick (.tmp 19) (.tmp 23) (.const (Go.Value.bool Bool.false)))⟩,
      ⟨some 25, none, .prim (.mov (.tmp 24))⟩,
      ⟨some 26, (some (25, true)), .prim (.mov (.tmp 3))⟩,
      ⟨some 27, none, .prim (.pick (.tmp 25) (.tmp 26) (.const (Go.Value.bool Bool.false)))⟩,
      ⟨some 28, none, .prim (.mov (.tmp 27))⟩,
      ⟨some 29, (some (28, true)), .prim (.mov (.tmp 4))⟩,
      ⟨some 30, (some (28, true)), .prim (.un .not (.tmp 29))⟩,
      ⟨some 31, none, .prim (.pick (.tmp 28) (.tmp 30) (.const (Go.Value.bool Bool.false)))⟩,
      ⟨some 32, none, .prim (.mov (.tmp 31))⟩,
      ⟨some 33, (some (32, true)), .prim (.mov (.tmp 1))⟩,
      ⟨some 34, (some (32, true)), .call (.func 13) [(.tmp 33)]⟩,
      ⟨some 35, (some (32, true)), .prim (.bin false .eql (.tmp 34) (.const (Go.Value.int Go.IntKind.i64 1)))⟩,
      ⟨some 36, none, .prim (.pick (.tmp 32) (.tmp 35) (.const (Go.Value.bool Bool.false)))⟩,
      ⟨some 37, none, .prim (.mov (.tmp 36))⟩,
      ⟨some 38, (some (37, true)), .prim (.mov (.tmp 1))⟩,
      ⟨some 39, (some (37, true)), .call (.func 14) [(.tmp 38)]⟩,
      ⟨some 40, (some (37, true)), .prim (.un .not (.tmp 39))⟩,
      ⟨some 41, none, .prim (.pick (.tmp 37) (.tmp 40) (.const (Go.Value.bool Bool.false)))⟩,
      ⟨some 42, none, .prim (.mov (.tmp 41))⟩,
      ⟨some 43, (some (42, true)), .prim (.mov (.tmp 1))⟩,
      ⟨some 44, (some (42, true)), .call (.func 11) [(.tmp 43)]⟩,
      ⟨some 45, (some (42, true)), .prim (.b2s (.tmp 44))⟩,
      ⟨some 46, (some (42, true)), .prim (.bin false .eql (.tmp 45) (.const (Go.Value.string (ByteArray.mk #[1, 5, 0, 3, 1, 1, 0]))))⟩,
      ⟨some 47, none, .prim (.pick (.tmp 42) (.tmp 46) (.const (Go.Value.bool Bool.false)))⟩,
      ⟨some 48, none, .prim (.mov (.tmp 47))⟩,
      ⟨some 49, (some (48, true)), .prim (.mov (.tmp 1))⟩,
      ⟨some 50, (some (48, true)), .call (.func 15) [(.tmp 49)]⟩,
      ⟨some 51, (some (48, true)), .prim (.bsl true 1 false 1 [.pl (.int .u8 0)] [(0, 1, (.const (Go.Value.int Go.IntKind.u8 1)))])⟩,
      ⟨some 52, (some (48, true)), .call (.func 17) [(.const (Go.Value.int Go.IntKind.i64 7))]⟩,
      ⟨some 53, (some (48, true)), .prim (.app 1 (.tmp 51) (.tmp 52))⟩,
      ⟨some 54, (some (48, true)), .prim (.bsl false 1 false 5 [.pl (.int .u8 0)] [(0, 1, (.const (Go.Value.int Go.IntKind.u8 0))), (1, 1, (.const (Go.Value.int Go.IntKind.u8 3))), (2, 1, (.const (Go.Value.int Go.IntKind.u8 1))), (3, 1, (.const (Go.Value.int Go.IntKind.u8 1))), (4, 1, (.const (Go.Value.int Go.IntKind.u8 0)))])⟩,
      ⟨some 55, (some (48, true)), .prim (.app 1 (.tmp 53) (.tmp 54))⟩,
      ⟨some 56, (some (48, true)), .call (.func 16) [(.tmp 55)]⟩,
      ⟨some 57, (some (48, true)), .prim (.eqa false [.int, .int, .int, .int, .int, .int, .int, .int, .int, .int, .int, .int, .int, .int, .int, .int, .int, .int, .int, .int, .int, .int, .int, .int, .int, .int, .int, .int, .int, .int, .int, .int] (.tmp 50) (.tmp 56))⟩,
      ⟨some 58, none, .prim (.pick (.tmp 48) (.tmp 57) (.const (Go.Value.bool Bool.false)))⟩,
      ⟨some 0, none, .prim (.mov (.tmp 58))⟩])
    .ret)))))))
def o5 : List Tmp := [51]
def r5 : List RV := [.tmp 0]
theorem t5 : Text Tryz.prog 5 o5 c5 r5 59 := ⟨⟨Tryz.f5, _, by kernel_rfl, by kernel_rfl, rfl, by kernel_rfl, by kernel_rfl, rfl⟩, by kernel_rfl⟩

/-- sordine/chain.Genesis -/
def c6 : ACode :=
  (.seq (.ops [⟨some 2, none, .prim (.mov (.const (Go.Value.slice Option.none 0 0)))⟩])
    (.seq (.ops [⟨some 3, none, .prim (.bsl true 1 false 1 [.pl (.int .u8 0)] [(0, 1, (.const (Go.Value.int Go.IntKind.u8 0)))])⟩,
      ⟨some 4, none, .prim (.mov (.tmp 0))⟩,
      ⟨some 5, none, .prim (.convi .u64 (.tmp 4))⟩,
      ⟨some 6, none, .call (.func 18) [(.tmp 5)]⟩,
      ⟨some 7, none, .prim (.app 1 (.tmp 3) (.tmp 6))⟩,
      ⟨some 2, none, .prim (.mov (.tmp 7))⟩])
    (.ghost (.shut 2) .ret)))
def o6 : List Tmp := [3]
def r6 : List RV := [.tmp 2]
theorem t6 : Text Tryz.prog 6 o6 c6 r6 8 := ⟨⟨Tryz.f6, _, by kernel_rfl, by kernel_rfl, rfl, by kernel_rfl, by kernel_rfl, rfl⟩, by kernel_rfl⟩

/-- sordine/sordineref19.Genesis -/
def c7 : ACode :=
  (.seq (.ops [⟨some 2, none, .prim (.mov (.const (Go.Value.slice Option.none 0 0)))⟩])
    (.seq (.ops [⟨some 3, none, .prim (.bsl true 1 false 1 [.pl (.int .u8 0)] [(0, 1, (.const (Go.Value.int Go.IntKind.u8 0)))])⟩,
      ⟨some 4, none, .prim (.mov (.tmp 0))⟩,
      ⟨some 5, none, .prim (.convi .u64 (.tmp 4))⟩,
      ⟨some 6, none, .call (.func 19) [(.tmp 5)]⟩,
      ⟨some 7, none, .prim (.app 1 (.tmp 3) (.tmp 6))⟩,
      ⟨some 2, none, .prim (.mov (.tmp 7))⟩])
    (.ghost (.shut 2) .ret)))
def o7 : List Tmp := [3]
def r7 : List RV := [.tmp 2]
theorem t7 : Text Tryz.prog 7 o7 c7 r7 8 := ⟨⟨Tryz.f7, _, by kernel_rfl, by kernel_rfl, rfl, by kernel_rfl, by kernel_rfl, rfl⟩, by kernel_rfl⟩

/-- sordine/chain.Link -/
def c8 : ACode :=
  (.seq (.ops [⟨some 2, none, .prim (.boxr (.tmp 0))⟩,
      ⟨some 4, none, .prim (.mov (.const (Go.Value.slice Option.none 0 0)))⟩])
    (.seq (.ops [⟨some 5, none, .prim (.bsl false 1 false 1 [.pl (.int .u8 0)] [(0, 1, (.const (Go.Value.int Go.IntKind.u8 1)))])⟩,
      ⟨some 6, none, .prim (.slca 32 (.tmp 2))⟩,
      ⟨some 7, none, .prim (.mov (.tmp 1))⟩,
      ⟨some 8, none, .prim (.bsl false 1 false 3 [.nils] [(0, 1, (.tmp 5)), (1, 1, (.tmp 6)), (2, 1, (.tmp 7))])⟩,
      ⟨some 9, none, .call (.func 20) [(.tmp 8)]⟩,
      ⟨some 4, none, .prim (.mov (.tmp 9))⟩])
    (.ghost (.shut 4) .ret)))
def o8 : List Tmp := []
def r8 : List RV := [.tmp 4]
theorem t8 : Text Tryz.prog 8 o8 c8 r8 10 := ⟨⟨Tryz.f8, _, by kernel_rfl, by kernel_rfl, rfl, by kernel_rfl, by kernel_rfl, rfl⟩, by kernel_rfl⟩

/-- sordine/sordineref19.Link -/
def c9 : ACode :=
  (.seq (.ops [⟨some 2, none, .prim (.boxr (.tmp 0))⟩,
      ⟨some 4, none, .prim (.mov (.const (Go.Value.slice Option.none 0 0)))⟩])
    (.seq (.ops [⟨some 5, none, .prim (.bsl true 1 false 1 [.pl (.int .u8 0)] [(0, 1, (.const (Go.Value.int Go.IntKind.u8 1)))])⟩,
      ⟨some 6, none, .prim (.slca 32 (.tmp 2))⟩,
      ⟨some 7, none, .prim (.app 1 (.tmp 5) (.tmp 6))⟩,
      ⟨some 8, none, .prim (.mov (.tmp 1))⟩,
      ⟨some 9, none, .prim (.app 1 (.tmp 7) (.tmp 8))⟩,
      ⟨some 4, none, .prim (.mov (.tmp 9))⟩])
    (.ghost (.shut 4) .ret)))
def o9 : List Tmp := [5]
def r9 : List RV := [.tmp 4]
theorem t9 : Text Tryz.prog 9 o9 c9 r9 10 := ⟨⟨Tryz.f9, _, by kernel_rfl, by kernel_rfl, rfl, by kernel_rfl, by kernel_rfl, rfl⟩, by kernel_rfl⟩

/-- sordine/chain.New -/
def c10 : ACode :=
  (.seq (.ops [⟨some 4, none, .prim (.mov (.const (Go.Value.pointer Option.none)))⟩])
    (.seq (.ops [⟨some 5, none, .prim (.mov (.tmp 1))⟩,
      ⟨some 6, none, .prim (.mm true (.tmp 5) (.const (Go.Value.int Go.IntKind.i64 0)))⟩,
      ⟨some 7, none, .prim (.mm false (.tmp 6) (.const (Go.Value.int Go.IntKind.i64 200)))⟩,
      ⟨some 8, none, .prim (.mov (.tmp 0))⟩,
      ⟨some 9, none, .call (.func 6) [(.tmp 8)]⟩,
      ⟨some 10, none, .call (.func 21) [(.tmp 9)]⟩,
      ⟨some 11, none, .prim (.build [.pl (.int .i64 0), .nils, .pl (.int .u8 0), .pl (.int .u8 0), .pl (.int .u8 0), .pl (.int .u8 0), .pl (.int .u8 0), .pl (.int .u8 0), .pl (.int .u8 0), .pl (.int .u8 0), .pl (.int .u8 0), .pl (.int .u8 0), .pl (.int .u8 0), .pl (.int .u8 0), .pl (.int .u8 0), .pl (.int .u8 0), .pl (.int .u8 0), .pl (.int .u8 0), .pl (.int .u8 0), .pl (.int .u8 0), .pl (.int .u8 0), .pl (.int .u8 0), .pl (.int .u8 0), .pl (.int .u8 0), .pl (.int .u8 0), .pl (.int .u8 0), .pl (.int .u8 0), .pl (.int .u8 0), .pl (.int .u8 0), .pl (.int .u8 0), .pl (.int .u8 0), .pl (.int .u8 0), .pl (.int .u8 0), .pl (.int .u8 0)] [(0, 1, (.tmp 7)), (2, 32, (.tmp 10))])⟩,
      ⟨some 12, none, .prim (.boxm (.tmp 11))⟩,
      ⟨some 4, none, .prim (.mov (.tmp 12))⟩])
    .ret))
def o10 : List Tmp := [12]
def r10 : List RV := [.tmp 4]
theorem t10 : Text Tryz.prog 10 o10 c10 r10 13 := ⟨⟨Tryz.f10, _, by kernel_rfl, by kernel_rfl, rfl, by kernel_rfl, by kernel_rfl, rfl⟩, by kernel_rfl⟩

/-- (*sordine/chain.Chain).Export -/
def c11 : ACode :=
  (.seq (.ops [⟨some 2, none, .prim (.mov (.const (Go.Value.slice Option.none 0 0)))⟩])
    (.seq (.ops [⟨some 6, none, .prim (.mov (.tmp 0))⟩,
      ⟨some 7, none, .prim (.nilc (.tmp 6))⟩,
      ⟨some 8, none, .prim (.fadr 1 (.tmp 7))⟩,
      ⟨some 9, none, .prim (.load 1 false (.tmp 8))⟩,
      ⟨some 10, none, .prim (.lenv (.tmp 9))⟩,
      ⟨some 11, none, .prim (.convi .u64 (.tmp 10))⟩,
      ⟨some 12, none, .call (.func 22) [(.tmp 11)]⟩,
      ⟨some 3, none, .prim (.mov (.tmp 12))⟩])
    (.seq (.seq (.ops [⟨some 13, none, .prim (.mov (.tmp 0))⟩,
      ⟨some 14, none, .prim (.nilc (.tmp 13))⟩,
      ⟨some 15, none, .prim (.fadr 1 (.tmp 14))⟩,
      ⟨some 16, none, .prim (.load 1 false (.tmp 15))⟩,
      ⟨some 17, none, .prim (.lenv (.tmp 16))⟩,
      ⟨some 18, none, .prim (.mov (.const (Go.Value.int Go.IntKind.i64 0)))⟩])
    (.block 0 (.loop [0, 1, 2, 4, 5, 6, 7, 8, 9, 10, 11, 12, 13, 14, 15, 19, 20, 21, 22, 23, 24, 25, 26, 27, 28, 29] (.seq (.ops [⟨some 19, none, .prim (.bin false .lss (.tmp 18) (.tmp 17))⟩])
    (.seq (.cond (.tmp 19)
    .skip
    (.exit 0))
    (.seq (.block 1 (.seq (.ops [⟨some 20, none, .prim (.iadrs 4 (.tmp 16) (.tmp 18))⟩,
      ⟨some 21, none, .prim (.load 4 true (.tmp 20))⟩,
      ⟨some 5, none, .fresh 4 5 (.tmp 21)⟩])
    (.ops [⟨some 22, none, .prim (.mov (.tmp 3))⟩,
      ⟨some 23, none, .prim (.load 4 true (.tmp 5))⟩,
      ⟨some 24, none, .call (.func 24) [(.tmp 23)]⟩,
      ⟨some 25, none, .prim (.b2s (.tmp 24))⟩,
      ⟨some 26, none, .call (.func 23) [(.tmp 25)]⟩,
      ⟨some 27, none, .prim (.app 1 (.tmp 22) (.tmp 26))⟩,
      ⟨some 3, none, .prim (.mov (.tmp 27))⟩])))
    (.ops [⟨some 28, none, .prim (.bin false .add (.tmp 18) (.const (Go.Value.int Go.IntKind.i64 1)))⟩,
      ⟨some 18, none, .prim (.mov (.tmp 28))⟩])))))))
    (.seq (.ops [⟨some 29, none, .prim (.mov (.tmp 3))⟩,
      ⟨some 2, none, .prim (.mov (.tmp 29))⟩])
    (.ghost (.shut 2) .ret)))))
def o11 : List Tmp := []
def r11 : List RV := [.tmp 2]
theorem t11 : Text Tryz.prog 11 o11 c11 r11 30 := ⟨⟨Tryz.f11, _, by kernel_rfl, by kernel_rfl, rfl, by kernel_rfl, by kernel_rfl, rfl⟩, by kernel_rfl⟩

/-- (*sordine/chain.Chain).Add -/
def c12 : ACode :=
  (.seq (.ops [⟨some 8, none, .prim (.mov (.const (Go.Value.bool Bool.false)))⟩])
    (.seq (.draw [⟨⟨some 10, none, .prim (.mov (.tmp 0))⟩, [], false, 0, 1⟩,
      ⟨⟨some 11, none, .prim (.nilc (.tmp 10))⟩, [0], false, 0, 1⟩,
      ⟨⟨some 12, none, .prim (.fadr 1 (.tmp 11))⟩, [0, 1], false, 0, 1⟩,
      ⟨⟨some 13, none, .prim (.load 1 false (.tmp 12))⟩, [0, 1, 2], false, 0, 1⟩,
      ⟨⟨some 14, none, .prim (.lenv (.tmp 13))⟩, [0, 1, 2, 3], false, 0, 1⟩,
      ⟨⟨some 15, none, .prim (.mov (.tmp 1))⟩, [], false, 0, 1⟩,
      ⟨⟨some 16, none, .prim (.mov (.tmp 2))⟩, [], false, 0, 1⟩,
      ⟨⟨some 17, none, .call (.func 25) [(.tmp 16)]⟩, [6], false, 0, 1⟩,
      ⟨⟨some 18, none, .prim (.mov (.tmp 3))⟩, [], false, 0, 1⟩,
      ⟨⟨some 19, none, .prim (.build [.pl (.int .i64 0), .pl (.int .u64 0), .nils, .pl (.int .i64 0)] [(0, 1, (.tmp 14)), (1, 1, (.tmp 15)), (2, 1, (.tmp 17)), (3, 1, (.tmp 18))])⟩, [0, 1, 2, 3, 4, 5, 6, 7, 8], false, 0, 1⟩,
      ⟨⟨some 9, none, .prim (.allocm [.pl (.int .i64 0), .pl (.int .u64 0), .nils, .pl (.int .i64 0)])⟩, [], true, 0, 0⟩,
      ⟨⟨none, none, .prim (.store 4 (.tmp 9) (.tmp 19))⟩, [0, 1, 2, 3, 4, 5, 6, 7, 8, 9, 10], true, 0, 0⟩])
    (.seq (.seq (.draw [⟨⟨some 20, none, .prim (.mov (.tmp 0))⟩, [], false, 0, 0⟩,
      ⟨⟨some 21, none, .call (.func 14) [(.tmp 20)]⟩, [0], true, 0, 0⟩,
      ⟨⟨some 22, none, .prim (.mov (.tmp 21))⟩, [0, 1], false, 1, 1⟩,
      ⟨⟨some 23, (some (22, false)), .prim (.load 4 true (.tmp 9))⟩, [0, 1, 2], false, 1, 1⟩,
      ⟨⟨some 24, (some (22, false)), .call (.func 26) [(.tmp 23)]⟩, [0, 1, 2, 3], true, 0, 0⟩,
      ⟨⟨some 25, (some (22, false)), .prim (.un .not (.tmp 24))⟩, [0, 1, 2, 3, 4], false, 2, 2⟩,
      ⟨⟨some 26, none, .prim (.pick (.tmp 22) (.const (Go.Value.bool Bool.true)) (.tmp 25))⟩, [0, 1, 2, 3, 4, 5], false, 2, 2⟩,
      ⟨⟨some 27, none, .prim (.mov (.tmp 26))⟩, [0, 1, 2, 3, 4, 5, 6], false, 2, 2⟩,
      ⟨⟨some 28, (some (27, false)), .prim (.mov (.tmp 0))⟩, [0, 1, 2, 3, 4, 5, 6, 7], false, 2, 2⟩,
      ⟨⟨some 29, (some (27, false)), .prim (.nilc (.tmp 28))⟩, [0, 1, 2, 3, 4, 5, 6, 7, 8], false, 2, 2⟩,
      ⟨⟨some 30, (some (27, false)), .prim (.fadr 1 (.tmp 29))⟩, [0, 1, 2, 3, 4, 5, 6, 7, 8, 9], false, 2, 2⟩,
      ⟨⟨some 31, (some (27, false)), .prim (.load 1 false (.tmp 30))⟩, [0, 1, 2, 3, 4, 5, 6, 7, 8, 9, 10], false, 2, 2⟩,
      ⟨⟨some 32, (some (27, false)), .prim (.lenv (.tmp 31))⟩, [0, 1, 2, 3, 4, 5, 6, 7, 8, 9, 10, 11], false, 2, 2⟩,
      ⟨⟨some 33, (some (27, false)), .prim (.bin false .gtr (.tmp 32) (.const (Go.Value.int Go.IntKind.i64 0)))⟩, [0, 1, 2, 3, 4, 5, 6, 7, 8, 9, 10, 11, 12], false, 2, 2⟩,
      ⟨⟨some 34, (some (27, false)), .prim (.mov (.tmp 33))⟩, [0, 1, 2, 3, 4, 5, 6, 7, 8, 9, 10, 11, 12, 13], false, 2, 2⟩,
      ⟨⟨some 35, (some (34, true)), .prim (.mov (.tmp 1))⟩, [0, 1, 2, 3, 4, 5, 6, 7, 8, 9, 10, 11, 12, 13, 14], false, 2, 2⟩,
      ⟨⟨some 36, (some (34, true)), .prim (.mov (.tmp 0))⟩, [0, 1, 2, 3, 4, 5, 6, 7, 8, 9, 10, 11, 12, 13, 14], false, 2, 2⟩,
      ⟨⟨some 37, (some (34, true)), .prim (.nilc (.tmp 36))⟩, [0, 1, 2, 3, 4, 5, 6, 7, 8, 9, 10, 11, 12, 13, 14, 16], false, 2, 2⟩,
      ⟨⟨some 38, (some (34, true)), .prim (.fadr 1 (.tmp 37))⟩, [0, 1, 2, 3, 4, 5, 6, 7, 8, 9, 10, 11, 12, 13, 14, 16, 17], false, 2, 2⟩,
      ⟨⟨some 39, (some (34, true)), .prim (.load 1 false (.tmp 38))⟩, [0, 1, 2, 3, 4, 5, 6, 7, 8, 9, 10, 11, 12, 13, 14, 16, 17, 18], false, 2, 2⟩,
      ⟨⟨some 40, (some (34, true)), .prim (.mov (.tmp 0))⟩, [0, 1, 2, 3, 4, 5, 6, 7, 8, 9, 10, 11, 12, 13, 14], false, 2, 2⟩,
      ⟨⟨some 41, (some (34, true)), .prim (.nilc (.tmp 40))⟩, [0, 1, 2, 3, 4, 5, 6, 7, 8, 9, 10, 11, 12, 13, 14, 20], false, 2, 2⟩,
      ⟨⟨some 42, (some (34, true)), .prim (.fadr 1 (.tmp 41))⟩, [0, 1, 2, 3, 4, 5, 6, 7, 8, 9, 10, 11, 12, 13, 14, 20, 21], false, 2, 2⟩,
      ⟨⟨some 43, (some (34, true)), .prim (.load 1 false (.tmp 42))⟩, [0, 1, 2, 3, 4, 5, 6, 7, 8, 9, 10, 11, 12, 13, 14, 20, 21, 22], false, 2, 2⟩,
      ⟨⟨some 44, (some (34, true)), .prim (.lenv (.tmp 43))⟩, [0, 1, 2, 3, 4, 5, 6, 7, 8, 9, 10, 11, 12, 13, 14, 20, 21, 22, 23], false, 2, 2⟩,
      ⟨⟨some 45, (some (34, true)), .prim (.bin false .sub (.tmp 44) (.const (Go.Value.int Go.IntKind.i64 1)))⟩, [0, 1, 2, 3, 4, 5, 6, 7, 8, 9, 10, 11, 12, 13, 14, 20, 21, 22, 23, 24], false, 2, 2⟩,
      ⟨⟨some 46, (some (34, true)), .prim (.iadrs 4 (.tmp 39) (.tmp 45))⟩, [0, 1, 2, 3, 4, 5, 6, 7, 8, 9, 10, 11, 12, 13, 14, 16, 17, 18, 19, 20, 21, 22, 23, 24, 25], false, 2, 2⟩,
      ⟨⟨some 47, (some (34, true)), .prim (.fadr 1 (.tmp 46))⟩, [0, 1, 2, 3, 4, 5, 6, 7, 8, 9, 10, 11, 12, 13, 14, 16, 17, 18, 19, 20, 21, 22, 23, 24, 25, 26], false, 2, 2⟩,
      ⟨⟨some 48, (some (34, true)), .prim (.load 1 false (.tmp 47))⟩, [0, 1, 2, 3, 4, 5, 6, 7, 8, 9, 10, 11, 12, 13, 14, 16, 17, 18, 19, 20, 21, 22, 23, 24, 25, 26, 27], false, 2, 2⟩,
      ⟨⟨some 49, (some (34, true)), .prim (.bin false .lss (.tmp 35) (.tmp 48))⟩, [0, 1, 2, 3, 4, 5, 6, 7, 8, 9, 10, 11, 12, 13, 14, 15, 16, 17, 18, 19, 20, 21, 22, 23, 24, 25, 26, 27, 28], false, 2, 2⟩,
      ⟨⟨some 50, (some (27, false)), .prim (.pick (.tmp 34) (.tmp 49) (.const (Go.Value.bool Bool.false)))⟩, [0, 1, 2, 3, 4, 5, 6, 7, 8, 9, 10, 11, 12, 13, 14, 15, 16, 17, 18, 19, 20, 21, 22, 23, 24, 25, 26, 27, 28, 29], false, 2, 2⟩,
      ⟨⟨some 51, none, .prim (.pick (.tmp 27) (.const (Go.Value.bool Bool.true)) (.tmp 50))⟩, [0, 1, 2, 3, 4, 5, 6, 7, 8, 9, 10, 11, 12, 13, 14, 15, 16, 17, 18, 19, 20, 21, 22, 23, 24, 25, 26, 27, 28, 29, 30], false, 2, 2⟩])
    (.cond (.tmp 51)
    (.seq (.ops [⟨some 8, none, .prim (.mov (.const (Go.Value.bool Bool.false)))⟩])
    .ret)
    .skip))
    (.seq (.draw [⟨⟨some 52, none, .prim (.mov (.tmp 0))⟩, [], false, 0, 1⟩,
      ⟨⟨some 53, none, .prim (.mov (.tmp 0))⟩, [], false, 0, 0⟩,
      ⟨⟨some 54, none, .prim (.nilc (.tmp 53))⟩, [1], false, 0, 0⟩,
      ⟨⟨some 55, none, .prim (.fadr 1 (.tmp 54))⟩, [1, 2], false, 0, 0⟩,
      ⟨⟨some 56, none, .prim (.load 1 false (.tmp 55))⟩, [1, 2, 3], false, 0, 0⟩,
      ⟨⟨some 57, none, .prim (.load 4 true (.tmp 9))⟩, [], false, 0, 0⟩,
      ⟨⟨some 58, none, .prim (.bsl false 4 true 1 [.pl (.int .i64 0), .pl (.int .u64 0), .nils, .pl (.int .i64 0)] [(0, 4, (.tmp 57))])⟩, [5], false, 0, 0⟩,
      ⟨⟨some 59, none, .prim (.app 4 (.tmp 56) (.tmp 58))⟩, [1, 2, 3, 4, 5, 6], true, 0, 0⟩,
      ⟨⟨some 60, none, .prim (.nilc (.tmp 52))⟩, [0, 1, 2, 3, 4, 5, 6, 7], false, 1, 1⟩,
      ⟨⟨some 61, none, .prim (.fadr 1 (.tmp 60))⟩, [0, 1, 2, 3, 4, 5, 6, 7, 8], false, 1, 1⟩,
      ⟨⟨none, none, .prim (.store 1 (.tmp 61) (.tmp 59))⟩, [0, 1, 2, 3, 4, 5, 6, 7, 8, 9], true, 0, 0⟩])
    (.seq (.draw [⟨⟨some 62, none, .prim (.mov (.tmp 0))⟩, [], false, 0, 3⟩,
      ⟨⟨some 63, none, .prim (.mov (.tmp 0))⟩, [], false, 0, 1⟩,
      ⟨⟨some 64, none, .prim (.nilc (.tmp 63))⟩, [1], false, 0, 1⟩,
      ⟨⟨some 65, none, .prim (.fadr 2 (.tmp 64))⟩, [1, 2], false, 0, 1⟩,
      ⟨⟨some 66, none, .prim (.load 32 true (.tmp 65))⟩, [1, 2, 3], false, 0, 1⟩,
      ⟨⟨some 67, none, .prim (.load 4 true (.tmp 9))⟩, [], false, 0, 0⟩,
      ⟨⟨some 68, none, .call (.func 24) [(.tmp 67)]⟩, [5], true, 0, 0⟩,
      ⟨⟨some 69, none, .call (.func 8) [(.tmp 66), (.tmp 68)]⟩, [1, 2, 3, 4, 5, 6], true, 0, 0⟩,
      ⟨⟨some 70, none, .call (.func 21) [(.tmp 69)]⟩, [1, 2, 3, 4, 5, 6, 7], true, 0, 0⟩,
      ⟨⟨some 71, none, .prim (.nilc (.tmp 62))⟩, [0, 1, 2, 3, 4, 5, 6, 7, 8], false, 3, 3⟩,
      ⟨⟨some 72, none, .prim (.fadr 2 (.tmp 71))⟩, [0, 1, 2, 3, 4, 5, 6, 7, 8, 9], false, 3, 3⟩,
      ⟨⟨none, none, .prim (.store 32 (.tmp 72) (.tmp 70))⟩, [0, 1, 2, 3, 4, 5, 6, 7, 8, 9, 10], true, 0, 0⟩])
    (.seq (.ops [⟨some 8, none, .prim (.mov (.const (Go.Value.bool Bool.true)))⟩])
    .ret))))))
def o12 : List Tmp := []
def r12 : List RV := [.tmp 8]
theorem t12 : Text Tryz.prog 12 o12 c12 r12 73 := ⟨⟨Tryz.f12, _, by kernel_rfl, by kernel_rfl, rfl, by kernel_rfl, by kernel_rfl, rfl⟩, by kernel_rfl⟩

/-- (*sordine/chain.Chain).Len -/
def c13 : ACode :=
  (.seq (.ops [⟨some 2, none, .prim (.mov (.const (Go.Value.int Go.IntKind.i64 0)))⟩])
    (.seq (.ops [⟨some 3, none, .prim (.mov (.tmp 0))⟩,
      ⟨some 4, none, .prim (.nilc (.tmp 3))⟩,
      ⟨some 5, none, .prim (.fadr 1 (.tmp 4))⟩,
      ⟨some 6, none, .prim (.load 1 false (.tmp 5))⟩,
      ⟨some 7, none, .prim (.lenv (.tmp 6))⟩,
      ⟨some 2, none, .prim (.mov (.tmp 7))⟩])
    .ret))
def o13 : List Tmp := []
def r13 : List RV := [.tmp 2]
theorem t13 : Text Tryz.prog 13 o13 c13 r13 8 := ⟨⟨Tryz.f13, _, by kernel_rfl, by kernel_rfl, rfl, by kernel_rfl, by kernel_rfl, rfl⟩, by kernel_rfl⟩

/-- (*sordine/chain.Chain).Full -/
def c14 : ACode :=
  (.seq (.ops [⟨some 2, none, .prim (.mov (.const (Go.Value.bool Bool.false)))⟩])
    (.seq (.draw [⟨⟨some 3, none, .prim (.mov (.tmp 0))⟩, [], false, 0, 0⟩,
      ⟨⟨some 4, none, .prim (.nilc (.tmp 3))⟩, [0], false, 0, 0⟩,
      ⟨⟨some 5, none, .prim (.fadr 1 (.tmp 4))⟩, [0, 1], false, 0, 0⟩,
      ⟨⟨some 6, none, .prim (.load 1 false (.tmp 5))⟩, [0, 1, 2], false, 0, 0⟩,
      ⟨⟨some 7, none, .prim (.lenv (.tmp 6))⟩, [0, 1, 2, 3], false, 0, 0⟩,
      ⟨⟨some 8, none, .prim (.mov (.tmp 0))⟩, [], false, 0, 0⟩,
      ⟨⟨some 9, none, .prim (.nilc (.tmp 8))⟩, [5], false, 0, 0⟩,
      ⟨⟨some 10, none, .prim (.fadr 0 (.tmp 9))⟩, [5, 6], false, 0, 0⟩,
      ⟨⟨some 11, none, .prim (.load 1 false (.tmp 10))⟩, [5, 6, 7], false, 0, 0⟩,
      ⟨⟨some 12, none, .prim (.bin false .geq (.tmp 7) (.tmp 11))⟩, [0, 1, 2, 3, 4, 5, 6, 7, 8], false, 0, 0⟩,
      ⟨⟨some 2, none, .prim (.mov (.tmp 12))⟩, [0, 1, 2, 3, 4, 5, 6, 7, 8, 9], false, 0, 0⟩])
    .ret))
def o14 : List Tmp := []
def r14 : List RV := [.tmp 2]
theorem t14 : Text Tryz.prog 14 o14 c14 r14 13 := ⟨⟨Tryz.f14, _, by kernel_rfl, by kernel_rfl, rfl, by kernel_rfl, by kernel_rfl, rfl⟩, by kernel_rfl⟩

/-- (*sordine/chain.Chain).Head -/
def c15 : ACode :=
  (.seq (.ops [⟨some 2, none, .prim (.allocm [.pl (.int .u8 0), .pl (.int .u8 0), .pl (.int .u8 0), .pl (.int .u8 0), .pl (.int .u8 0), .pl (.int .u8 0), .pl (.int .u8 0), .pl (.int .u8 0), .pl (.int .u8 0), .pl (.int .u8 0), .pl (.int .u8 0), .pl (.int .u8 0), .pl (.int .u8 0), .pl (.int .u8 0), .pl (.int .u8 0), .pl (.int .u8 0), .pl (.int .u8 0), .pl (.int .u8 0), .pl (.int .u8 0), .pl (.int .u8 0), .pl (.int .u8 0), .pl (.int .u8 0), .pl (.int .u8 0), .pl (.int .u8 0), .pl (.int .u8 0), .pl (.int .u8 0), .pl (.int .u8 0), .pl (.int .u8 0), .pl (.int .u8 0), .pl (.int .u8 0), .pl (.int .u8 0), .pl (.int .u8 0)])⟩])
    (.seq (.ops [⟨some 3, none, .prim (.mov (.tmp 0))⟩,
      ⟨some 4, none, .prim (.nilc (.tmp 3))⟩,
      ⟨some 5, none, .prim (.fadr 2 (.tmp 4))⟩,
      ⟨some 6, none, .prim (.load 32 true (.tmp 5))⟩,
      ⟨none, none, .prim (.store 32 (.tmp 2) (.tmp 6))⟩])
    .ret))
def o15 : List Tmp := [2]
def r15 : List RV := [.cell 2 32 true]
theorem t15 : Text Tryz.prog 15 o15 c15 r15 7 := ⟨⟨Tryz.f15, _, by kernel_rfl, by kernel_rfl, rfl, by kernel_rfl, by kernel_rfl, rfl⟩, by kernel_rfl⟩

/-- sordine/sordineref1.Of -/
def c16 : ACode :=
  (.seq (.ops [⟨some 2, none, .prim (.allocm [.pl (.int .u8 0), .pl (.int .u8 0), .pl (.int .u8 0), .pl (.int .u8 0), .pl (.int .u8 0), .pl (.int .u8 0), .pl (.int .u8 0), .pl (.int .u8 0), .pl (.int .u8 0), .pl (.int .u8 0), .pl (.int .u8 0), .pl (.int .u8 0), .pl (.int .u8 0), .pl (.int .u8 0), .pl (.int .u8 0), .pl (.int .u8 0), .pl (.int .u8 0), .pl (.int .u8 0), .pl (.int .u8 0), .pl (.int .u8 0), .pl (.int .u8 0), .pl (.int .u8 0), .pl (.int .u8 0), .pl (.int .u8 0), .pl (.int .u8 0), .pl (.int .u8 0), .pl (.int .u8 0), .pl (.int .u8 0), .pl (.int .u8 0), .pl (.int .u8 0), .pl (.int .u8 0), .pl (.int .u8 0)])⟩])
    (.seq (.ops [⟨some 9, none, .prim (.mov (.tmp 0))⟩,
      ⟨some 10, none, .call (.func 27) [(.tmp 9)]⟩,
      ⟨some 3, none, .prim (.mov (.tmp 10))⟩])
    (.seq (.ops [⟨some 11, none, .call (.func 28) []⟩,
      ⟨some 4, none, .prim (.allocm [.pl (.int .u32 0), .pl (.int .u32 0), .pl (.int .u32 0), .pl (.int .u32 0), .pl (.int .u32 0), .pl (.int .u32 0), .pl (.int .u32 0), .pl (.int .u32 0)])⟩,
      ⟨none, none, .prim (.store 8 (.tmp 4) (.tmp 11))⟩])
    (.seq (.seq (.ops [⟨some 5, none, .prim (.mov (.const (Go.Value.int Go.IntKind.i64 0)))⟩])
    (.block 0 (.loop [0, 1, 6, 7, 8, 9, 10, 11, 12, 13, 14, 15, 16, 17, 18, 19, 20, 21, 22, 23, 24, 25, 26, 27, 28, 29, 30, 31, 32, 33, 34, 35, 36, 37, 38, 39, 40, 41, 42, 43, 44, 45, 46] (.seq (.seq (.ops [⟨some 12, none, .prim (.mov (.tmp 5))⟩,
      ⟨some 13, none, .prim (.bin false .add (.tmp 12) (.const (Go.Value.int Go.IntKind.i64 64)))⟩,
      ⟨some 14, none, .prim (.mov (.tmp 3))⟩,
      ⟨some 15, none, .prim (.lenv (.tmp 14))⟩,
      ⟨some 16, none, .prim (.bin false .leq (.tmp 13) (.tmp 15))⟩])
    (.cond (.tmp 16)
    .skip
    (.exit 0)))
    (.seq (.block 1 (.seq (.ops [⟨some 6, none, .prim (.allocm [.pl (.int .u8 0), .pl (.int .u8 0), .pl (.int .u8 0), .pl (.int .u8 0), .pl (.int .u8 0), .pl (.int .u8 0), .pl (.int .u8 0), .pl (.int .u8 0), .pl (.int .u8 0), .pl (.int .u8 0), .pl (.int .u8 0), .pl (.int .u8 0), .pl (.int .u8 0), .pl (.int .u8 0), .pl (.int .u8 0), .pl (.int .u8 0), .pl (.int .u8 0), .pl (.int .u8 0), .pl (.int .u8 0), .pl (.int .u8 0), .pl (.int .u8 0), .pl (.int .u8 0), .pl (.int .u8 0), .pl (.int .u8 0), .pl (.int .u8 0), .pl (.int .u8 0), .pl (.int .u8 0), .pl (.int .u8 0), .pl (.int .u8 0), .pl (.int .u8 0), .pl (.int .u8 0), .pl (.int .u8 0), .pl (.int .u8 0), .pl (.int .u8 0), .pl (.int .u8 0), .pl (.int .u8 0), .pl (.int .u8 0), .pl (.int .u8 0), .pl (.int .u8 0), .pl (.int .u8 0), .pl (.int .u8 0), .pl (.int .u8 0), .pl (.int .u8 0), .pl (.int .u8 0), .pl (.int .u8 0), .pl (.int .u8 0), .pl (.int .u8 0), .pl (.int .u8 0), .pl (.int .u8 0), .pl (.int .u8 0), .pl (.int .u8 0), .pl (.int .u8 0), .pl (.int .u8 0), .pl (.int .u8 0), .pl (.int .u8 0), .pl (.int .u8 0), .pl (.int .u8 0), .pl (.int .u8 0), .pl (.int .u8 0), .pl (.int .u8 0), .pl (.int .u8 0), .pl (.int .u8 0), .pl (.int .u8 0), .pl (.int .u8 0)])⟩])
    (.seq (.draw [⟨⟨some 19, none, .prim (.slca 64 (.tmp 6))⟩, [], false, 0, 0⟩,
      ⟨⟨some 20, none, .prim (.mov (.tmp 3))⟩, [], false, 0, 0⟩,
      ⟨⟨some 21, none, .prim (.mov (.tmp 5))⟩, [], false, 0, 0⟩,
      ⟨⟨some 22, none, .prim (.mov (.tmp 5))⟩, [], false, 0, 0⟩,
      ⟨⟨some 23, none, .prim (.bin false .add (.tmp 22) (.const (Go.Value.int Go.IntKind.i64 64)))⟩, [3], false, 0, 0⟩,
      ⟨⟨some 24, none, .prim (.slcv 1 (.tmp 20) (some (.tmp 21)) (some (.tmp 23)))⟩, [1, 2, 3, 4], false, 0, 0⟩,
      ⟨⟨some 25, none, .prim (.copy (.tmp 19) (.tmp 24))⟩, [0, 1, 2, 3, 4, 5], true, 0, 0⟩])
    (.ops [⟨some 26, none, .prim (.load 8 true (.tmp 4))⟩,
      ⟨some 27, none, .prim (.load 64 true (.tmp 6))⟩,
      ⟨some 28, none, .call (.func 29) [(.tmp 26), (.tmp 27)]⟩,
      ⟨none, none, .prim (.store 8 (.tmp 4) (.tmp 28))⟩]))))
    (.ops [⟨some 17, none, .prim (.mov (.tmp 5))⟩,
      ⟨some 18, none, .prim (.bin false .add (.tmp 17) (.const (Go.Value.int Go.IntKind.i64 64)))⟩,
      ⟨some 5, none, .prim (.mov (.tmp 18))⟩]))))))
    (.seq (.ops [⟨some 7, none, .prim (.allocm [.pl (.int .u8 0), .pl (.int .u8 0), .pl (.int .u8 0), .pl (.int .u8 0), .pl (.int .u8 0), .pl (.int .u8 0), .pl (.int .u8 0), .pl (.int .u8 0), .pl (.int .u8 0), .pl (.int .u8 0), .pl (.int .u8 0), .pl (.int .u8 0), .pl (.int .u8 0), .pl (.int .u8 0), .pl (.int .u8 0), .pl (.int .u8 0), .pl (.int .u8 0), .pl (.int .u8 0), .pl (.int .u8 0), .pl (.int .u8 0), .pl (.int .u8 0), .pl (.int .u8 0), .pl (.int .u8 0), .pl (.int .u8 0), .pl (.int .u8 0), .pl (.int .u8 0), .pl (.int .u8 0), .pl (.int .u8 0), .pl (.int .u8 0), .pl (.int .u8 0), .pl (.int .u8 0), .pl (.int .u8 0)])⟩])
    (.seq (.seq (.ops [⟨some 8, none, .prim (.mov (.const (Go.Value.int Go.IntKind.i64 0)))⟩])
    (.block 2 (.loop [0, 1, 3, 5, 6, 9, 10, 11, 12, 13, 14, 15, 16, 17, 18, 19, 20, 21, 22, 23, 24, 25, 26, 27, 28, 29, 30, 31, 32, 33, 34, 35, 36, 37, 38, 39, 40, 41, 42, 43, 44, 45, 46] (.seq (.seq (.ops [⟨some 29, none, .prim (.mov (.tmp 8))⟩,
      ⟨some 30, none, .prim (.bin false .lss (.tmp 29) (.const (Go.Value.int Go.IntKind.i64 32)))⟩])
    (.cond (.tmp 30)
    .skip
    (.exit 2)))
    (.seq (.block 3 (.ops [⟨some 33, none, .prim (.mov (.tmp 8))⟩,
      ⟨some 34, none, .prim (.mov (.tmp 8))⟩,
      ⟨some 35, none, .prim (.bin false .quo (.tmp 34) (.const (Go.Value.int Go.IntKind.i64 4)))⟩,
      ⟨some 36, none, .prim (.iadra 1 8 (.tmp 4) (.tmp 35))⟩,
      ⟨some 37, none, .prim (.load 1 false (.tmp 36))⟩,
      ⟨some 38, none, .prim (.mov (.tmp 8))⟩,
      ⟨some 39, none, .prim (.bin false .rem (.tmp 38) (.const (Go.Value.int Go.IntKind.i64 4)))⟩,
      ⟨some 40, none, .prim (.bin false .mul (.const (Go.Value.int Go.IntKind.i64 8)) (.tmp 39))⟩,
      ⟨some 41, none, .prim (.bin false .sub (.const (Go.Value.int Go.IntKind.i64 24)) (.tmp 40))⟩,
      ⟨some 42, none, .prim (.convi .u64 (.tmp 41))⟩,
      ⟨some 43, none, .prim (.bin false .shr (.tmp 37) (.tmp 42))⟩,
      ⟨some 44, none, .prim (.convi .u8 (.tmp 43))⟩,
      ⟨some 45, none, .prim (.iadra 1 32 (.tmp 7) (.tmp 33))⟩,
      ⟨none, none, .prim (.store 1 (.tmp 45) (.tmp 44))⟩]))
    (.ops [⟨some 31, none, .prim (.mov (.tmp 8))⟩,
      ⟨some 32, none, .prim (.bin false .add (.tmp 31) (.const (Go.Value.int Go.IntKind.i64 1)))⟩,
      ⟨some 8, none, .prim (.mov (.tmp 32))⟩]))))))
    (.seq (.ops [⟨some 46, none, .prim (.load 32 true (.tmp 7))⟩,
      ⟨none, none, .prim (.store 32 (.tmp 2) (.tmp 46))⟩])
    .ret)))))))
def o16 : List Tmp := [2, 4, 6, 7]
def r16 : List RV := [.cell 2 32 true]
theorem t16 : Text Tryz.prog 16 o16 c16 r16 47 := ⟨⟨Tryz.f16, _, by kernel_rfl, by kernel_rfl, rfl, by kernel_rfl, by kernel_rfl, rfl⟩, by kernel_rfl⟩

/-- sordine/sordinelaw23.digest -/
def c17 : ACode :=
  (.seq (.ops [⟨some 2, none, .prim (.mov (.const (Go.Value.slice Option.none 0 0)))⟩])
    (.seq (.ops [⟨some 4, none, .prim (.mov (.tmp 0))⟩,
      ⟨some 5, none, .call (.func 7) [(.tmp 4)]⟩,
      ⟨some 6, none, .call (.func 16) [(.tmp 5)]⟩,
      ⟨some 3, none, .fresh 32 3 (.tmp 6)⟩])
    (.seq (.ops [⟨some 7, none, .prim (.slca 32 (.tmp 3))⟩,
      ⟨some 2, none, .prim (.mov (.tmp 7))⟩])
    (.ghost (.shut 2) .ret))))
def o17 : List Tmp := []
def r17 : List RV := [.tmp 2]
theorem t17 : Text Tryz.prog 17 o17 c17 r17 8 := ⟨⟨Tryz.f17, _, by kernel_rfl, by kernel_rfl, rfl, by kernel_rfl, by kernel_rfl, rfl⟩, by kernel_rfl⟩

/-- sordine/vint.PutWord -/
def c18 : ACode :=
  (.seq (.ops [⟨some 2, none, .prim (.mov (.const (Go.Value.slice Option.none 0 0)))⟩])
    (.seq (.ops [⟨some 5, none, .prim (.mks 1 false [.pl (.int .u8 0)] (.const (Go.Value.int Go.IntKind.i64 8)) (.const (Go.Value.int Go.IntKind.i64 8)))⟩,
      ⟨some 3, none, .prim (.mov (.tmp 5))⟩])
    (.seq (.seq (.ops [⟨some 6, none, .prim (.mov (.tmp 3))⟩,
      ⟨some 7, none, .prim (.lenv (.tmp 6))⟩,
      ⟨some 8, none, .prim (.mov (.const (Go.Value.int Go.IntKind.i64 0)))⟩])
    (.block 0 (.loop [1, 2, 4, 5, 6, 9, 10, 11, 12, 13, 14, 15, 16, 17, 18, 19, 20, 21] (.seq (.ops [⟨some 9, none, .prim (.bin false .lss (.tmp 8) (.tmp 7))⟩])
    (.seq (.cond (.tmp 9)
    .skip
    (.exit 0))
    (.seq (.block 1 (.seq (.ops [⟨some 10, none, .prim (.mov (.tmp 8))⟩,
      ⟨some 4, none, .prim (.mov (.tmp 10))⟩])
    (.ops [⟨some 11, none, .prim (.mov (.tmp 3))⟩,
      ⟨some 12, none, .prim (.mov (.tmp 4))⟩,
      ⟨some 13, none, .prim (.mov (.tmp 0))⟩,
      ⟨some 14, none, .prim (.mov (.tmp 4))⟩,
      ⟨some 15, none, .prim (.bin false .mul (.const (Go.Value.int Go.IntKind.i64 8)) (.tmp 14))⟩,
      ⟨some 16, none, .prim (.bin false .sub (.const (Go.Value.int Go.IntKind.i64 56)) (.tmp 15))⟩,
      ⟨some 17, none, .prim (.bin false .shr (.tmp 13) (.tmp 16))⟩,
      ⟨some 18, none, .prim (.convi .u8 (.tmp 17))⟩,
      ⟨some 19, none, .prim (.iadrs 1 (.tmp 11) (.tmp 12))⟩,
      ⟨none, none, .prim (.store 1 (.tmp 19) (.tmp 18))⟩])))
    (.ops [⟨some 20, none, .prim (.bin false .add (.tmp 8) (.const (Go.Value.int Go.IntKind.i64 1)))⟩,
      ⟨some 8, none, .prim (.mov (.tmp 20))⟩])))))))
    (.seq (.ops [⟨some 21, none, .prim (.mov (.tmp 3))⟩,
      ⟨some 2, none, .prim (.mov (.tmp 21))⟩])
    (.ghost (.shut 2) .ret)))))
def o18 : List Tmp := []
def r18 : List RV := [.tmp 2]
theorem t18 : Text Tryz.prog 18 o18 c18 r18 22 := ⟨⟨Tryz.f18, _, by kernel_rfl, by kernel_rfl, rfl, by kernel_rfl, by kernel_rfl, rfl⟩, by kernel_rfl⟩

/-- sordine/sordineref1.PutWord -/
def c19 : ACode :=
  (.seq (.ops [⟨some 2, none, .prim (.mov (.const (Go.Value.slice Option.none 0 0)))⟩])
    (.seq (.ops [⟨some 5, none, .prim (.mks 1 false [.pl (.int .u8 0)] (.const (Go.Value.int Go.IntKind.i64 8)) (.const (Go.Value.int Go.IntKind.i64 8)))⟩,
      ⟨some 3, none, .prim (.mov (.tmp 5))⟩])
    (.seq (.seq (.ops [⟨some 4, none, .prim (.mov (.const (Go.Value.int Go.IntKind.i64 0)))⟩])
    (.block 0 (.loop [1, 2, 5, 6, 7, 8, 9, 10, 11, 12, 13, 14, 15, 16, 17, 18, 19, 20] (.seq (.seq (.ops [⟨some 6, none, .prim (.mov (.tmp 4))⟩,
      ⟨some 7, none, .prim (.bin false .lss (.tmp 6) (.const (Go.Value.int Go.IntKind.i64 8)))⟩])
    (.cond (.tmp 7)
    .skip
    (.exit 0)))
    (.seq (.block 1 (.ops [⟨some 10, none, .prim (.mov (.tmp 3))⟩,
      ⟨some 11, none, .prim (.mov (.tmp 4))⟩,
      ⟨some 12, none, .prim (.mov (.tmp 0))⟩,
      ⟨some 13, none, .prim (.mov (.tmp 4))⟩,
      ⟨some 14, none, .prim (.bin false .mul (.const (Go.Value.int Go.IntKind.i64 8)) (.tmp 13))⟩,
      ⟨some 15, none, .prim (.bin false .sub (.const (Go.Value.int Go.IntKind.i64 56)) (.tmp 14))⟩,
      ⟨some 16, none, .prim (.convi .u64 (.tmp 15))⟩,
      ⟨some 17, none, .prim (.bin false .shr (.tmp 12) (.tmp 16))⟩,
      ⟨some 18, none, .prim (.convi .u8 (.tmp 17))⟩,
      ⟨some 19, none, .prim (.iadrs 1 (.tmp 10) (.tmp 11))⟩,
      ⟨none, none, .prim (.store 1 (.tmp 19) (.tmp 18))⟩]))
    (.ops [⟨some 8, none, .prim (.mov (.tmp 4))⟩,
      ⟨some 9, none, .prim (.bin false .add (.tmp 8) (.const (Go.Value.int Go.IntKind.i64 1)))⟩,
      ⟨some 4, none, .prim (.mov (.tmp 9))⟩]))))))
    (.seq (.ops [⟨some 20, none, .prim (.mov (.tmp 3))⟩,
      ⟨some 2, none, .prim (.mov (.tmp 20))⟩])
    (.ghost (.shut 2) .ret)))))
def o19 : List Tmp := []
def r19 : List RV := [.tmp 2]
theorem t19 : Text Tryz.prog 19 o19 c19 r19 21 := ⟨⟨Tryz.f19, _, by kernel_rfl, by kernel_rfl, rfl, by kernel_rfl, by kernel_rfl, rfl⟩, by kernel_rfl⟩

/-- slices.Concat[[]byte,byte] -/
def c20 : ACode :=
  (.seq (.ops [⟨some 2, none, .prim (.mov (.const (Go.Value.slice Option.none 0 0)))⟩])
    (.seq (.ops [⟨some 3, none, .prim (.mov (.const (Go.Value.int Go.IntKind.i64 0)))⟩])
    (.seq (.seq (.ops [⟨some 9, none, .prim (.mov (.tmp 0))⟩,
      ⟨some 10, none, .prim (.lenv (.tmp 9))⟩,
      ⟨some 11, none, .prim (.mov (.const (Go.Value.int Go.IntKind.i64 0)))⟩])
    (.block 0 (.loop [1, 2, 4, 5, 6, 7, 8, 12, 13, 14, 15, 16, 17, 18, 19, 20, 21, 22, 23, 24, 25, 26, 27, 28, 29, 30, 31, 32, 33, 34, 35] (.seq (.ops [⟨some 12, none, .prim (.bin false .lss (.tmp 11) (.tmp 10))⟩])
    (.seq (.cond (.tmp 12)
    .skip
    (.exit 0))
    (.seq (.block 1 (.seq (.ops [⟨some 13, none, .prim (.iadrs 1 (.tmp 9) (.tmp 11))⟩,
      ⟨some 14, none, .prim (.load 1 false (.tmp 13))⟩,
      ⟨some 5, none, .prim (.mov (.tmp 14))⟩])
    (.seq (.ops [⟨some 15, none, .prim (.mov (.tmp 3))⟩,
      ⟨some 16, none, .prim (.mov (.tmp 5))⟩,
      ⟨some 17, none, .prim (.lenv (.tmp 16))⟩,
      ⟨some 18, none, .prim (.bin false .add (.tmp 15) (.tmp 17))⟩,
      ⟨some 3, none, .prim (.mov (.tmp 18))⟩])
    (.seq (.ops [⟨some 19, none, .prim (.mov (.tmp 3))⟩,
      ⟨some 20, none, .prim (.bin false .lss (.tmp 19) (.const (Go.Value.int Go.IntKind.i64 0)))⟩])
    (.cond (.tmp 20)
    (.ops [⟨some 21, none, .prim (.bad)⟩,
      ⟨none, none, .prim (.bad)⟩])
    .skip)))))
    (.ops [⟨some 22, none, .prim (.bin false .add (.tmp 11) (.const (Go.Value.int Go.IntKind.i64 1)))⟩,
      ⟨some 11, none, .prim (.mov (.tmp 22))⟩])))))))
    (.seq (.ops [⟨some 23, none, .prim (.mov (.tmp 3))⟩,
      ⟨some 24, none, .call (.func 30) [(.const (Go.Value.slice Option.none 0 0)), (.tmp 23)]⟩,
      ⟨some 6, none, .prim (.mov (.tmp 24))⟩])
    (.seq (.seq (.ops [⟨some 25, none, .prim (.mov (.tmp 0))⟩,
      ⟨some 26, none, .prim (.lenv (.tmp 25))⟩,
      ⟨some 27, none, .prim (.mov (.const (Go.Value.int Go.IntKind.i64 0)))⟩])
    (.block 2 (.loop [0, 1, 2, 3, 4, 5, 7, 8, 9, 10, 11, 12, 13, 14, 15, 16, 17, 18, 19, 20, 21, 22, 23, 24, 28, 29, 30, 31, 32, 33, 34, 35] (.seq (.ops [⟨some 28, none, .prim (.bin false .lss (.tmp 27) (.tmp 26))⟩])
    (.seq (.cond (.tmp 28)
    .skip
    (.exit 2))
    (.seq (.block 3 (.seq (.ops [⟨some 29, none, .prim (.iadrs 1 (.tmp 25) (.tmp 27))⟩,
      ⟨some 30, none, .prim (.load 1 false (.tmp 29))⟩,
      ⟨some 8, none, .prim (.mov (.tmp 30))⟩])
    (.ops [⟨some 31, none, .prim (.mov (.tmp 6))⟩,
      ⟨some 32, none, .prim (.mov (.tmp 8))⟩,
      ⟨some 33, none, .prim (.app 1 (.tmp 31) (.tmp 32))⟩,
      ⟨some 6, none, .prim (.mov (.tmp 33))⟩])))
    (.ops [⟨some 34, none, .prim (.bin false .add (.tmp 27) (.const (Go.Value.int Go.IntKind.i64 1)))⟩,
      ⟨some 27, none, .prim (.mov (.tmp 34))⟩])))))))
    (.seq (.ops [⟨some 35, none, .prim (.mov (.tmp 6))⟩,
      ⟨some 2, none, .prim (.mov (.tmp 35))⟩])
    (.ghost (.shut 2) .ret)))))))
def o20 : List Tmp := []
def r20 : List RV := [.tmp 2]
theorem t20 : Text Tryz.prog 20 o20 c20 r20 36 := ⟨⟨Tryz.f20, _, by kernel_rfl, by kernel_rfl, rfl, by kernel_rfl, by kernel_rfl, rfl⟩, by kernel_rfl⟩

/-- sordine/sha.Of -/
def c21 : ACode :=
  (.seq (.ops [⟨some 2, none, .prim (.allocm [.pl (.int .u8 0), .pl (.int .u8 0), .pl (.int .u8 0), .pl (.int .u8 0), .pl (.int .u8 0), .pl (.int .u8 0), .pl (.int .u8 0), .pl (.int .u8 0), .pl (.int .u8 0), .pl (.int .u8 0), .pl (.int .u8 0), .pl (.int .u8 0), .pl (.int .u8 0), .pl (.int .u8 0), .pl (.int .u8 0), .pl (.int .u8 0), .pl (.int .u8 0), .pl (.int .u8 0), .pl (.int .u8 0), .pl (.int .u8 0), .pl (.int .u8 0), .pl (.int .u8 0), .pl (.int .u8 0), .pl (.int .u8 0), .pl (.int .u8 0), .pl (.int .u8 0), .pl (.int .u8 0), .pl (.int .u8 0), .pl (.int .u8 0), .pl (.int .u8 0), .pl (.int .u8 0), .pl (.int .u8 0)])⟩])
    (.seq (.ops [⟨some 7, none, .prim (.build [.pl (.int .u32 0), .pl (.int .u32 0), .pl (.int .u32 0), .pl (.int .u32 0), .pl (.int .u32 0), .pl (.int .u32 0), .pl (.int .u32 0), .pl (.int .u32 0)] [(0, 1, (.const (Go.Value.int Go.IntKind.u32 1779033703))), (1, 1, (.const (Go.Value.int Go.IntKind.u32 3144134277))), (2, 1, (.const (Go.Value.int Go.IntKind.u32 1013904242))), (3, 1, (.const (Go.Value.int Go.IntKind.u32 2773480762))), (4, 1, (.const (Go.Value.int Go.IntKind.u32 1359893119))), (5, 1, (.const (Go.Value.int Go.IntKind.u32 2600822924))), (6, 1, (.const (Go.Value.int Go.IntKind.u32 528734635))), (7, 1, (.const (Go.Value.int Go.IntKind.u32 1541459225)))])⟩,
      ⟨some 3, none, .prim (.allocm [.pl (.int .u32 0), .pl (.int .u32 0), .pl (.int .u32 0), .pl (.int .u32 0), .pl (.int .u32 0), .pl (.int .u32 0), .pl (.int .u32 0), .pl (.int .u32 0)])⟩,
      ⟨none, none, .prim (.store 8 (.tmp 3) (.tmp 7))⟩])
    (.seq (.seq (.ops [⟨some 8, none, .prim (.mov (.tmp 0))⟩,
      ⟨some 9, none, .call (.func 31) [(.tmp 8)]⟩,
      ⟨some 4, none, .prim (.mov (.tmp 9))⟩])
    (.block 0 (.loop [0, 1, 5, 6, 7, 8, 9, 10, 11, 12, 13, 14, 15, 16, 17, 18, 19, 20, 21, 22, 23, 24, 25, 26, 27, 28, 29, 30, 31, 32, 33, 34, 35, 36, 37] (.seq (.seq (.ops [⟨some 10, none, .prim (.mov (.tmp 4))⟩,
      ⟨some 11, none, .prim (.lenv (.tmp 10))⟩,
      ⟨some 12, none, .prim (.bin false .gtr (.tmp 11) (.const (Go.Value.int Go.IntKind.i64 0)))⟩])
    (.cond (.tmp 12)
    .skip
    (.exit 0)))
    (.seq (.block 1 (.draw [⟨⟨some 15, none, .prim (.load 8 true (.tmp 3))⟩, [], false, 0, 0⟩,
      ⟨⟨some 16, none, .prim (.mov (.tmp 4))⟩, [], false, 0, 0⟩,
      ⟨⟨some 17, none, .prim (.slcv 1 (.tmp 16) none (some (.const (Go.Value.int Go.IntKind.i64 64))))⟩, [1], false, 0, 0⟩,
      ⟨⟨some 18, none, .prim (.arrp 64 (.tmp 17))⟩, [1, 2], false, 0, 0⟩,
      ⟨⟨some 19, none, .prim (.load 64 true (.tmp 18))⟩, [1, 2, 3], false, 0, 0⟩,
      ⟨⟨some 20, none, .call (.func 32) [(.tmp 15), (.tmp 19)]⟩, [0, 1, 2, 3, 4], true, 0, 0⟩,
      ⟨⟨none, none, .prim (.store 8 (.tmp 3) (.tmp 20))⟩, [0, 1, 2, 3, 4, 5], true, 0, 0⟩]))
    (.ops [⟨some 13, none, .prim (.mov (.tmp 4))⟩,
      ⟨some 14, none, .prim (.slcv 1 (.tmp 13) (some (.const (Go.Value.int Go.IntKind.i64 64))) none)⟩,
      ⟨some 4, none, .prim (.mov (.tmp 14))⟩]))))))
    (.seq (.ops [⟨some 5, none, .prim (.allocm [.pl (.int .u8 0), .pl (.int .u8 0), .pl (.int .u8 0), .pl (.int .u8 0), .pl (.int .u8 0), .pl (.int .u8 0), .pl (.int .u8 0), .pl (.int .u8 0), .pl (.int .u8 0), .pl (.int .u8 0), .pl (.int .u8 0), .pl (.int .u8 0), .pl (.int .u8 0), .pl (.int .u8 0), .pl (.int .u8 0), .pl (.int .u8 0), .pl (.int .u8 0), .pl (.int .u8 0), .pl (.int .u8 0), .pl (.int .u8 0), .pl (.int .u8 0), .pl (.int .u8 0), .pl (.int .u8 0), .pl (.int .u8 0), .pl (.int .u8 0), .pl (.int .u8 0), .pl (.int .u8 0), .pl (.int .u8 0), .pl (.int .u8 0), .pl (.int .u8 0), .pl (.int .u8 0), .pl (.int .u8 0)])⟩])
    (.seq (.seq (.ops [⟨some 21, none, .prim (.mov (.const (Go.Value.int Go.IntKind.i64 0)))⟩])
    (.block 2 (.loop [0, 1, 4, 6, 7, 8, 9, 10, 11, 12, 13, 14, 15, 16, 17, 18, 19, 20, 22, 23, 24, 25, 26, 27, 28, 29, 30, 31, 32, 33, 34, 35, 36, 37] (.seq (.ops [⟨some 22, none, .prim (.bin false .lss (.tmp 21) (.const (Go.Value.int Go.IntKind.i64 32)))⟩])
    (.seq (.cond (.tmp 22)
    .skip
    (.exit 2))
    (.seq (.block 3 (.seq (.ops [⟨some 23, none, .prim (.mov (.tmp 21))⟩,
      ⟨some 6, none, .prim (.mov (.tmp 23))⟩])
    (.ops [⟨some 24, none, .prim (.mov (.tmp 6))⟩,
      ⟨some 25, none, .prim (.mov (.tmp 6))⟩,
      ⟨some 26, none, .prim (.bin false .quo (.tmp 25) (.const (Go.Value.int Go.IntKind.i64 4)))⟩,
      ⟨some 27, none, .prim (.iadra 1 8 (.tmp 3) (.tmp 26))⟩,
      ⟨some 28, none, .prim (.load 1 false (.tmp 27))⟩,
      ⟨some 29, none, .prim (.mov (.tmp 6))⟩,
      ⟨some 30, none, .prim (.bin false .rem (.tmp 29) (.const (Go.Value.int Go.IntKind.i64 4)))⟩,
      ⟨some 31, none, .prim (.bin false .mul (.const (Go.Value.int Go.IntKind.i64 8)) (.tmp 30))⟩,
      ⟨some 32, none, .prim (.bin false .sub (.const (Go.Value.int Go.IntKind.i64 24)) (.tmp 31))⟩,
      ⟨some 33, none, .prim (.bin false .shr (.tmp 28) (.tmp 32))⟩,
      ⟨some 34, none, .prim (.convi .u8 (.tmp 33))⟩,
      ⟨some 35, none, .prim (.iadra 1 32 (.tmp 5) (.tmp 24))⟩,
      ⟨none, none, .prim (.store 1 (.tmp 35) (.tmp 34))⟩])))
    (.ops [⟨some 36, none, .prim (.bin false .add (.tmp 21) (.const (Go.Value.int Go.IntKind.i64 1)))⟩,
      ⟨some 21, none, .prim (.mov (.tmp 36))⟩])))))))
    (.seq (.ops [⟨some 37, none, .prim (.load 32 true (.tmp 5))⟩,
      ⟨none, none, .prim (.store 32 (.tmp 2) (.tmp 37))⟩])
    .ret))))))
def o21 : List Tmp := [2, 3, 5]
def r21 : List RV := [.cell 2 32 true]
theorem t21 : Text Tryz.prog 21 o21 c21 r21 38 := ⟨⟨Tryz.f21, _, by kernel_rfl, by kernel_rfl, rfl, by kernel_rfl, by kernel_rfl, rfl⟩, by kernel_rfl⟩

/-- sordine/vint.Put -/
def c22 : ACode :=
  (.seq (.ops [⟨some 2, none, .prim (.mov (.const (Go.Value.slice Option.none 0 0)))⟩])
    (.seq (.ops [⟨some 3, none, .prim (.mov (.const (Go.Value.slice Option.none 0 0)))⟩])
    (.seq (.block 0 (.loop [1, 2, 4, 5, 6, 7, 8, 9, 10, 11, 12, 13, 14, 15, 16, 17, 18] (.seq (.seq (.ops [⟨some 4, none, .prim (.mov (.tmp 0))⟩,
      ⟨some 5, none, .prim (.bin false .geq (.tmp 4) (.const (Go.Value.int Go.IntKind.u64 128)))⟩])
    (.cond (.tmp 5)
    .skip
    (.exit 0)))
    (.block 1 (.seq (.ops [⟨some 6, none, .prim (.mov (.tmp 3))⟩,
      ⟨some 7, none, .prim (.mov (.tmp 0))⟩,
      ⟨some 8, none, .prim (.convi .u8 (.tmp 7))⟩,
      ⟨some 9, none, .prim (.bin false .or (.tmp 8) (.const (Go.Value.int Go.IntKind.u8 128)))⟩,
      ⟨some 10, none, .prim (.bsl false 1 false 1 [.pl (.int .u8 0)] [(0, 1, (.tmp 9))])⟩,
      ⟨some 11, none, .prim (.app 1 (.tmp 6) (.tmp 10))⟩,
      ⟨some 3, none, .prim (.mov (.tmp 11))⟩])
    (.ops [⟨some 12, none, .prim (.mov (.tmp 0))⟩,
      ⟨some 13, none, .prim (.bin false .shr (.tmp 12) (.const (Go.Value.int Go.IntKind.u64 7)))⟩,
      ⟨some 0, none, .prim (.mov (.tmp 13))⟩]))))))
    (.seq (.ops [⟨some 14, none, .prim (.mov (.tmp 3))⟩,
      ⟨some 15, none, .prim (.mov (.tmp 0))⟩,
      ⟨some 16, none, .prim (.convi .u8 (.tmp 15))⟩,
      ⟨some 17, none, .prim (.bsl false 1 false 1 [.pl (.int .u8 0)] [(0, 1, (.tmp 16))])⟩,
      ⟨some 18, none, .prim (.app 1 (.tmp 14) (.tmp 17))⟩,
      ⟨some 2, none, .prim (.mov (.tmp 18))⟩])
    .ret))))
def o22 : List Tmp := []
def r22 : List RV := [.tmp 2]
theorem t22 : Text Tryz.prog 22 o22 c22 r22 19 := ⟨⟨Tryz.f22, _, by kernel_rfl, by kernel_rfl, rfl, by kernel_rfl, by kernel_rfl, rfl⟩, by kernel_rfl⟩

/-- sordine/vint.PutText -/
def c23 : ACode :=
  (.seq (.ops [⟨some 2, none, .prim (.mov (.const (Go.Value.slice Option.none 0 0)))⟩])
    (.seq (.ops [⟨some 3, none, .prim (.mov (.tmp 0))⟩,
      ⟨some 4, none, .prim (.lens (.tmp 3))⟩,
      ⟨some 5, none, .prim (.convi .u64 (.tmp 4))⟩,
      ⟨some 6, none, .call (.func 22) [(.tmp 5)]⟩,
      ⟨some 7, none, .prim (.mov (.tmp 0))⟩,
      ⟨some 8, none, .prim (.app 1 (.tmp 6) (.tmp 7))⟩,
      ⟨some 2, none, .prim (.mov (.tmp 8))⟩])
    (.ghost (.shut 2) .ret)))
def o23 : List Tmp := []
def r23 : List RV := [.tmp 2]
theorem t23 : Text Tryz.prog 23 o23 c23 r23 9 := ⟨⟨Tryz.f23, _, by kernel_rfl, by kernel_rfl, rfl, by kernel_rfl, by kernel_rfl, rfl⟩, by kernel_rfl⟩

/-- sordine/record.Bytes -/
def c24 : ACode :=
  (.seq (.ops [⟨some 1, none, .prim (.boxr (.tmp 0))⟩,
      ⟨some 2, none, .prim (.mov (.const (Go.Value.slice Option.none 0 0)))⟩])
    (.seq (.seq (.ops [⟨some 3, none, .prim (.load 4 true (.tmp 1))⟩,
      ⟨some 4, none, .call (.func 26) [(.tmp 3)]⟩,
      ⟨some 5, none, .prim (.un .not (.tmp 4))⟩])
    (.cond (.tmp 5)
    (.seq (.ops [⟨some 2, none, .prim (.mov (.const (Go.Value.slice Option.none 0 0)))⟩])
    (.ghost (.shut 2) .ret))
    .skip))
    (.seq (.draw [⟨⟨some 6, none, .prim (.fadr 0 (.tmp 1))⟩, [], false, 0, 0⟩,
      ⟨⟨some 7, none, .prim (.load 1 false (.tmp 6))⟩, [0], false, 0, 0⟩,
      ⟨⟨some 8, none, .prim (.convi .u64 (.tmp 7))⟩, [0, 1], false, 0, 0⟩,
      ⟨⟨some 9, none, .call (.func 22) [(.tmp 8)]⟩, [0, 1, 2], true, 0, 0⟩,
      ⟨⟨some 10, none, .prim (.fadr 1 (.tmp 1))⟩, [], false, 0, 1⟩,
      ⟨⟨some 11, none, .prim (.load 1 false (.tmp 10))⟩, [4], false, 0, 1⟩,
      ⟨⟨some 12, none, .call (.func 22) [(.tmp 11)]⟩, [0, 1, 2, 3, 4, 5], true, 0, 0⟩,
      ⟨⟨some 13, none, .prim (.fadr 2 (.tmp 1))⟩, [], false, 0, 2⟩,
      ⟨⟨some 14, none, .prim (.load 1 false (.tmp 13))⟩, [7], false, 0, 2⟩,
      ⟨⟨some 15, none, .prim (.b2s (.tmp 14))⟩, [7, 8], false, 0, 2⟩,
      ⟨⟨some 16, none, .call (.func 23) [(.tmp 15)]⟩, [0, 1, 2, 3, 4, 5, 6, 7, 8, 9], true, 0, 0⟩,
      ⟨⟨some 17, none, .prim (.fadr 3 (.tmp 1))⟩, [], false, 0, 3⟩,
      ⟨⟨some 18, none, .prim (.load 1 false (.tmp 17))⟩, [11], false, 0, 3⟩,
      ⟨⟨some 19, none, .prim (.convi .u8 (.tmp 18))⟩, [11, 12], false, 0, 3⟩,
      ⟨⟨some 20, none, .prim (.bsl false 1 false 1 [.pl (.int .u8 0)] [(0, 1, (.tmp 19))])⟩, [11, 12, 13], false, 0, 3⟩,
      ⟨⟨some 21, none, .prim (.bsl false 1 false 4 [.nils] [(0, 1, (.tmp 9)), (1, 1, (.tmp 12)), (2, 1, (.tmp 16)), (3, 1, (.tmp 20))])⟩, [0, 1, 2, 3, 4, 5, 6, 7, 8, 9, 10, 11, 12, 13, 14], false, 3, 3⟩,
      ⟨⟨some 22, none, .call (.func 20) [(.tmp 21)]⟩, [0, 1, 2, 3, 4, 5, 6, 7, 8, 9, 10, 11, 12, 13, 14, 15], true, 0, 0⟩,
      ⟨⟨some 2, none, .prim (.mov (.tmp 22))⟩, [0, 1, 2, 3, 4, 5, 6, 7, 8, 9, 10, 11, 12, 13, 14, 15, 16], false, 4, 4⟩])
    (.ghost (.shut 2) .ret))))
def o24 : List Tmp := []
def r24 : List RV := [.tmp 2]
theorem t24 : Text Tryz.prog 24 o24 c24 r24 23 := ⟨⟨Tryz.f24, _, by kernel_rfl, by kernel_rfl, rfl, by kernel_rfl, by kernel_rfl, rfl⟩, by kernel_rfl⟩

/-- slices.Clone[[]byte,byte] -/
def c25 : ACode :=
  (.seq (.ops [⟨some 2, none, .prim (.mov (.const (Go.Value.slice Option.none 0 0)))⟩])
    (.seq (.seq (.ops [⟨some 3, none, .prim (.mov (.tmp 0))⟩,
      ⟨some 4, none, .prim (.isnil false false (.tmp 3))⟩])
    (.cond (.tmp 4)
    (.seq (.ops [⟨some 2, none, .prim (.mov (.const (Go.Value.slice Option.none 0 0)))⟩])
    (.ghost (.shut 2) .ret))
    .skip))
    (.seq (.ops [⟨some 5, none, .prim (.bsl true 1 false 0 [.pl (.int .u8 0)] [])⟩,
      ⟨some 6, none, .prim (.mov (.tmp 0))⟩,
      ⟨some 7, none, .prim (.app 1 (.tmp 5) (.tmp 6))⟩,
      ⟨some 2, none, .prim (.mov (.tmp 7))⟩])
    (.ghost (.shut 2) .ret))))
def o25 : List Tmp := [5]
def r25 : List RV := [.tmp 2]
theorem t25 : Text Tryz.prog 25 o25 c25 r25 8 := ⟨⟨Tryz.f25, _, by kernel_rfl, by kernel_rfl, rfl, by kernel_rfl, by kernel_rfl, rfl⟩, by kernel_rfl⟩

/-- sordine/record.Is -/
def c26 : ACode :=
  (.seq (.ops [⟨some 1, none, .prim (.boxr (.tmp 0))⟩,
      ⟨some 2, none, .prim (.mov (.const (Go.Value.bool Bool.false)))⟩])
    (.seq (.seq (.ops [⟨some 5, none, .prim (.fadr 0 (.tmp 1))⟩,
      ⟨some 6, none, .prim (.load 1 false (.tmp 5))⟩,
      ⟨some 7, none, .prim (.bin false .lss (.tmp 6) (.const (Go.Value.int Go.IntKind.i64 0)))⟩,
      ⟨some 8, none, .prim (.mov (.tmp 7))⟩,
      ⟨some 9, (some (8, false)), .prim (.fadr 0 (.tmp 1))⟩,
      ⟨some 10, (some (8, false)), .prim (.load 1 false (.tmp 9))⟩,
      ⟨some 11, (some (8, false)), .prim (.bin false .gtr (.tmp 10) (.const (Go.Value.int Go.IntKind.i64 2147483647)))⟩,
      ⟨some 12, none, .prim (.pick (.tmp 8) (.const (Go.Value.bool Bool.true)) (.tmp 11))⟩,
      ⟨some 13, none, .prim (.mov (.tmp 12))⟩,
      ⟨some 14, (some (13, false)), .prim (.fadr 1 (.tmp 1))⟩,
      ⟨some 15, (some (13, false)), .prim (.load 1 false (.tmp 14))⟩,
      ⟨some 16, (some (13, false)), .prim (.bin false .gtr (.tmp 15) (.const (Go.Value.int Go.IntKind.u64 1099511627776)))⟩,
      ⟨some 17, none, .prim (.pick (.tmp 13) (.const (Go.Value.bool Bool.true)) (.tmp 16))⟩])
    (.cond (.tmp 17)
    (.seq (.ops [⟨some 2, none, .prim (.mov (.const (Go.Value.bool Bool.false)))⟩])
    .ret)
    .skip))
    (.seq (.ops [⟨some 19, none, .prim (.fadr 2 (.tmp 1))⟩,
      ⟨some 20, none, .prim (.load 1 false (.tmp 19))⟩,
      ⟨some 21, none, .call (.func 33) [(.tmp 20)]⟩,
      ⟨some 18, none, .prim (.mov (.tmp 21))⟩,
      ⟨some 22, none, .prim (.extr 0 (.tmp 18))⟩,
      ⟨some 23, none, .prim (.extr 1 (.tmp 18))⟩,
      ⟨some 3, none, .fresh 19 3 (.tmp 22)⟩,
      ⟨some 4, none, .prim (.mov (.tmp 23))⟩])
    (.seq (.ops [⟨some 24, none, .prim (.mov (.tmp 4))⟩,
      ⟨some 25, none, .prim (.mov (.tmp 24))⟩,
      ⟨some 26, (some (25, true)), .prim (.fadr 3 (.tmp 1))⟩,
      ⟨some 27, (some (25, true)), .prim (.load 1 false (.tmp 26))⟩,
      ⟨some 28, (some (25, true)), .prim (.bin false .eql (.tmp 27) (.const (Go.Value.int Go.IntKind.i64 0)))⟩,
      ⟨some 29, (some (25, true)), .prim (.mov (.tmp 28))⟩,
      ⟨some 30, (some (29, false)), .prim (.fadr 3 (.tmp 1))⟩,
      ⟨some 31, (some (29, false)), .prim (.load 1 false (.tmp 30))⟩,
      ⟨some 32, (some (29, false)), .prim (.bin false .geq (.tmp 31) (.const (Go.Value.int Go.IntKind.i64 4)))⟩,
      ⟨some 33, (some (29, false)), .prim (.mov (.tmp 32))⟩,
      ⟨some 34, (some (33, true)), .prim (.fadr 3 (.tmp 1))⟩,
      ⟨some 35, (some (33, true)), .prim (.load 1 false (.tmp 34))⟩,
      ⟨some 36, (some (33, true)), .prim (.bin false .leq (.tmp 35) (.const (Go.Value.int Go.IntKind.i64 10)))⟩,
      ⟨some 37, (some (29, false)), .prim (.pick (.tmp 33) (.tmp 36) (.const (Go.Value.bool Bool.false)))⟩,
      ⟨some 38, (some (25, true)), .prim (.pick (.tmp 29) (.const (Go.Value.bool Bool.true)) (.tmp 37))⟩,
      ⟨some 39, none, .prim (.pick (.tmp 25) (.tmp 38) (.const (Go.Value.bool Bool.false)))⟩,
      ⟨some 2, none, .prim (.mov (.tmp 39))⟩])
    .ret))))
def o26 : List Tmp := []
def r26 : List RV := [.tmp 2]
theorem t26 : Text Tryz.prog 26 o26 c26 r26 40 := ⟨⟨Tryz.f26, _, by kernel_rfl, by kernel_rfl, rfl, by kernel_rfl, by kernel_rfl, rfl⟩, by kernel_rfl⟩

/-- sordine/sordineref1.Pad -/
def c27 : ACode :=
  (.seq (.ops [⟨some 2, none, .prim (.mov (.const (Go.Value.slice Option.none 0 0)))⟩])
    (.seq (.ops [⟨some 4, none, .prim (.mov (.tmp 0))⟩,
      ⟨some 5, none, .prim (.app 1 (.const (Go.Value.slice Option.none 0 0)) (.tmp 4))⟩,
      ⟨some 6, none, .prim (.bsl false 1 false 1 [.pl (.int .u8 0)] [(0, 1, (.const (Go.Value.int Go.IntKind.u8 128)))])⟩,
      ⟨some 7, none, .prim (.app 1 (.tmp 5) (.tmp 6))⟩,
      ⟨some 3, none, .prim (.mov (.tmp 7))⟩])
    (.seq (.block 0 (.loop [1, 2, 4, 5, 6, 7, 8, 9, 10, 11, 12, 13, 14, 15, 16, 17, 18, 19, 20, 21] (.seq (.seq (.ops [⟨some 8, none, .prim (.mov (.tmp 3))⟩,
      ⟨some 9, none, .prim (.lenv (.tmp 8))⟩,
      ⟨some 10, none, .prim (.bin false .rem (.tmp 9) (.const (Go.Value.int Go.IntKind.i64 64)))⟩,
      ⟨some 11, none, .prim (.bin false .neq (.tmp 10) (.const (Go.Value.int Go.IntKind.i64 56)))⟩])
    (.cond (.tmp 11)
    .skip
    (.exit 0)))
    (.block 1 (.ops [⟨some 12, none, .prim (.mov (.tmp 3))⟩,
      ⟨some 13, none, .prim (.bsl false 1 false 1 [.pl (.int .u8 0)] [(0, 1, (.const (Go.Value.int Go.IntKind.u8 0)))])⟩,
      ⟨some 14, none, .prim (.app 1 (.tmp 12) (.tmp 13))⟩,
      ⟨some 3, none, .prim (.mov (.tmp 14))⟩])))))
    (.seq (.ops [⟨some 15, none, .prim (.mov (.tmp 3))⟩,
      ⟨some 16, none, .prim (.mov (.tmp 0))⟩,
      ⟨some 17, none, .prim (.lenv (.tmp 16))⟩,
      ⟨some 18, none, .prim (.convi .u64 (.tmp 17))⟩,
      ⟨some 19, none, .prim (.bin false .mul (.tmp 18) (.const (Go.Value.int Go.IntKind.u64 8)))⟩,
      ⟨some 20, none, .call (.func 19) [(.tmp 19)]⟩,
      ⟨some 21, none, .prim (.app 1 (.tmp 15) (.tmp 20))⟩,
      ⟨some 2, none, .prim (.mov (.tmp 21))⟩])
    (.ghost (.shut 2) .ret)))))
def o27 : List Tmp := []
def r27 : List RV := [.tmp 2]
theorem t27 : Text Tryz.prog 27 o27 c27 r27 22 := ⟨⟨Tryz.f27, _, by kernel_rfl, by kernel_rfl, rfl, by kernel_rfl, by kernel_rfl, rfl⟩, by kernel_rfl⟩

/-- sordine/sordineref1.First -/
def c28 : ACode :=
  (.seq (.ops [⟨some 0, none, .prim (.allocm [.pl (.int .u32 0), .pl (.int .u32 0), .pl (.int .u32 0), .pl (.int .u32 0), .pl (.int .u32 0), .pl (.int .u32 0), .pl (.int .u32 0), .pl (.int .u32 0)])⟩])
    (.seq (.ops [⟨some 1, none, .prim (.build [.pl (.int .u32 0), .pl (.int .u32 0), .pl (.int .u32 0), .pl (.int .u32 0), .pl (.int .u32 0), .pl (.int .u32 0), .pl (.int .u32 0), .pl (.int .u32 0)] [(0, 1, (.const (Go.Value.int Go.IntKind.u32 1779033703))), (1, 1, (.const (Go.Value.int Go.IntKind.u32 3144134277))), (2, 1, (.const (Go.Value.int Go.IntKind.u32 1013904242))), (3, 1, (.const (Go.Value.int Go.IntKind.u32 2773480762))), (4, 1, (.const (Go.Value.int Go.IntKind.u32 1359893119))), (5, 1, (.const (Go.Value.int Go.IntKind.u32 2600822924))), (6, 1, (.const (Go.Value.int Go.IntKind.u32 528734635))), (7, 1, (.const (Go.Value.int Go.IntKind.u32 1541459225)))])⟩,
      ⟨none, none, .prim (.store 8 (.tmp 0) (.tmp 1))⟩])
    .ret))
def o28 : List Tmp := [0]
def r28 : List RV := [.cell 0 8 true]
theorem t28 : Text Tryz.prog 28 o28 c28 r28 2 := ⟨⟨Tryz.f28, _, by kernel_rfl, by kernel_rfl, rfl, by kernel_rfl, by kernel_rfl, rfl⟩, by kernel_rfl⟩

/-- sordine/sordineref1.Round -/
def c29 : ACode :=
  (.seq (.ops [⟨some 2, none, .prim (.boxr (.tmp 0))⟩,
      ⟨some 3, none, .prim (.boxr (.tmp 1))⟩,
      ⟨some 4, none, .prim (.allocm [.pl (.int .u32 0), .pl (.int .u32 0), .pl (.int .u32 0), .pl (.int .u32 0), .pl (.int .u32 0), .pl (.int .u32 0), .pl (.int .u32 0), .pl (.int .u32 0)])⟩])
    (.seq (.ops [⟨some 5, none, .prim (.allocm [.pl (.int .u32 0), .pl (.int .u32 0), .pl (.int .u32 0), .pl (.int .u32 0), .pl (.int .u32 0), .pl (.int .u32 0), .pl (.int .u32 0), .pl (.int .u32 0), .pl (.int .u32 0), .pl (.int .u32 0), .pl (.int .u32 0), .pl (.int .u32 0), .pl (.int .u32 0), .pl (.int .u32 0), .pl (.int .u32 0), .pl (.int .u32 0), .pl (.int .u32 0), .pl (.int .u32 0), .pl (.int .u32 0), .pl (.int .u32 0), .pl (.int .u32 0), .pl (.int .u32 0), .pl (.int .u32 0), .pl (.int .u32 0), .pl (.int .u32 0), .pl (.int .u32 0), .pl (.int .u32 0), .pl (.int .u32 0), .pl (.int .u32 0), .pl (.int .u32 0), .pl (.int .u32 0), .pl (.int .u32 0), .pl (.int .u32 0), .pl (.int .u32 0), .pl (.int .u32 0), .pl (.int .u32 0), .pl (.int .u32 0), .pl (.int .u32 0), .pl (.int .u32 0), .pl (.int .u32 0), .pl (.int .u32 0), .pl (.int .u32 0), .pl (.int .u32 0), .pl (.int .u32 0), .pl (.int .u32 0), .pl (.int .u32 0), .pl (.int .u32 0), .pl (.int .u32 0), .pl (.int .u32 0), .pl (.int .u32 0), .pl (.int .u32 0), .pl (.int .u32 0), .pl (.int .u32 0), .pl (.int .u32 0), .pl (.int .u32 0), .pl (.int .u32 0), .pl (.int .u32 0), .pl (.int .u32 0), .pl (.int .u32 0), .pl (.int .u32 0), .pl (.int .u32 0), .pl (.int .u32 0), .pl (.int .u32 0), .pl (.int .u32 0)])⟩])
    (.seq (.seq (.ops [⟨some 6, none, .prim (.mov (.const (Go.Value.int Go.IntKind.i64 0)))⟩])
    (.block 0 (.loop [0, 1, 7, 8, 9, 10, 11, 12, 13, 14, 15, 16, 17, 18, 19, 20, 21, 22, 23, 24, 25, 26, 27, 28, 29, 30, 31, 32, 33, 34, 35, 36, 37, 38, 39, 40, 41, 42, 43, 44, 45, 46, 47, 48, 49, 50, 51, 52, 53, 54, 55, 56, 57, 58, 59, 60, 61, 62, 63, 64, 65, 66, 67, 68, 69, 70, 71, 72, 73, 74, 75, 76, 77, 78, 79, 80, 81, 82, 83, 84, 85, 86, 87, 88, 89, 90, 91, 92, 93, 94, 95, 96, 97, 98, 99, 100, 101, 102, 103, 104, 105, 106, 107, 108, 109, 110, 111, 112, 113, 114, 115, 116, 117, 118, 119, 120, 121, 122, 123, 124, 125, 126, 127, 128, 129, 130, 131, 132, 133, 134, 135, 136, 137, 138, 139, 140, 141, 142, 143, 144, 145, 146, 147, 148, 149, 150, 151, 152, 153, 154, 155, 156, 157, 158, 159, 160, 161, 162, 163, 164, 165, 166, 167, 168, 169, 170, 171, 172, 173, 174, 175, 176, 177, 178, 179, 180, 181, 182, 183, 184, 185, 186, 187, 188] (.seq (.seq (.ops [⟨some 18, none, .prim (.mov (.tmp 6))⟩,
      ⟨some 19, none, .prim (.bin false .lss (.tmp 18) (.const (Go.Value.int Go.IntKind.i64 64)))⟩])
    (.cond (.tmp 19)
    .skip
    (.exit 0)))
    (.seq (.block 1 (.seq (.seq (.ops [⟨some 22, none, .prim (.mov (.tmp 6))⟩,
      ⟨some 23, none, .prim (.bin false .lss (.tmp 22) (.const (Go.Value.int Go.IntKind.i64 16)))⟩])
    (.cond (.tmp 23)
    (.seq (.draw [⟨⟨some 24, none, .prim (.mov (.tmp 6))⟩, [], false, 0, 0⟩,
      ⟨⟨some 25, none, .prim (.mov (.tmp 6))⟩, [], false, 0, 0⟩,
      ⟨⟨some 26, none, .prim (.bin false .mul (.const (Go.Value.int Go.IntKind.i64 4)) (.tmp 25))⟩, [1], false, 0, 0⟩,
      ⟨⟨some 27, none, .prim (.iadra 1 64 (.tmp 3) (.tmp 26))⟩, [1, 2], false, 0, 0⟩,
      ⟨⟨some 28, none, .prim (.load 1 false (.tmp 27))⟩, [1, 2, 3], false, 0, 0⟩,
      ⟨⟨some 29, none, .prim (.convi .u32 (.tmp 28))⟩, [1, 2, 3, 4], false, 0, 0⟩,
      ⟨⟨some 30, none, .prim (.bin false .shl (.tmp 29) (.const (Go.Value.int Go.IntKind.u64 24)))⟩, [1, 2, 3, 4, 5], false, 0, 0⟩,
      ⟨⟨some 31, none, .prim (.mov (.tmp 6))⟩, [], false, 0, 0⟩,
      ⟨⟨some 32, none, .prim (.bin false .mul (.const (Go.Value.int Go.IntKind.i64 4)) (.tmp 31))⟩, [7], false, 0, 0⟩,
      ⟨⟨some 33, none, .prim (.bin false .add (.tmp 32) (.const (Go.Value.int Go.IntKind.i64 1)))⟩, [7, 8], false, 0, 0⟩,
      ⟨⟨some 34, none, .prim (.iadra 1 64 (.tmp 3) (.tmp 33))⟩, [7, 8, 9], false, 0, 0⟩,
      ⟨⟨some 35, none, .prim (.load 1 false (.tmp 34))⟩, [7, 8, 9, 10], false, 0, 0⟩,
      ⟨⟨some 36, none, .prim (.convi .u32 (.tmp 35))⟩, [7, 8, 9, 10, 11], false, 0, 0⟩,
      ⟨⟨some 37, none, .prim (.bin false .shl (.tmp 36) (.const (Go.Value.int Go.IntKind.u64 16)))⟩, [7, 8, 9, 10, 11, 12], false, 0, 0⟩,
      ⟨⟨some 38, none, .prim (.bin false .or (.tmp 30) (.tmp 37))⟩, [1, 2, 3, 4, 5, 6, 7, 8, 9, 10, 11, 12, 13], false, 0, 0⟩,
      ⟨⟨some 39, none, .prim (.mov (.tmp 6))⟩, [], false, 0, 0⟩,
      ⟨⟨some 40, none, .prim (.bin false .mul (.const (Go.Value.int Go.IntKind.i64 4)) (.tmp 39))⟩, [15], false, 0, 0⟩,
      ⟨⟨some 41, none, .prim (.bin false .add (.tmp 40) (.const (Go.Value.int Go.IntKind.i64 2)))⟩, [15, 16], false, 0, 0⟩,
      ⟨⟨some 42, none, .prim (.iadra 1 64 (.tmp 3) (.tmp 41))⟩, [15, 16, 17], false, 0, 0⟩,
      ⟨⟨some 43, none, .prim (.load 1 false (.tmp 42))⟩, [15, 16, 17, 18], false, 0, 0⟩,
      ⟨⟨some 44, none, .prim (.convi .u32 (.tmp 43))⟩, [15, 16, 17, 18, 19], false, 0, 0⟩,
      ⟨⟨some 45, none, .prim (.bin false .shl (.tmp 44) (.const (Go.Value.int Go.IntKind.u64 8)))⟩, [15, 16, 17, 18, 19, 20], false, 0, 0⟩,
      ⟨⟨some 46, none, .prim (.bin false .or (.tmp 38) (.tmp 45))⟩, [1, 2, 3, 4, 5, 6, 7, 8, 9, 10, 11, 12, 13, 14, 15, 16, 17, 18, 19, 20, 21], false, 0, 0⟩,
      ⟨⟨some 47, none, .prim (.mov (.tmp 6))⟩, [], false, 0, 0⟩,
      ⟨⟨some 48, none, .prim (.bin false .mul (.const (Go.Value.int Go.IntKind.i64 4)) (.tmp 47))⟩, [23], false, 0, 0⟩,
      ⟨⟨some 49, none, .prim (.bin false .add (.tmp 48) (.const (Go.Value.int Go.IntKind.i64 3)))⟩, [23, 24], false, 0, 0⟩,
      ⟨⟨some 50, none, .prim (.iadra 1 64 (.tmp 3) (.tmp 49))⟩, [23, 24, 25], false, 0, 0⟩,
      ⟨⟨some 51, none, .prim (.load 1 false (.tmp 50))⟩, [23, 24, 25, 26], false, 0, 0⟩,
      ⟨⟨some 52, none, .prim (.convi .u32 (.tmp 51))⟩, [23, 24, 25, 26, 27], false, 0, 0⟩,
      ⟨⟨some 53, none, .prim (.bin false .or (.tmp 46) (.tmp 52))⟩, [1, 2, 3, 4, 5, 6, 7, 8, 9, 10, 11, 12, 13, 14, 15, 16, 17, 18, 19, 20, 21, 22, 23, 24, 25, 26, 27, 28], false, 0, 0⟩,
      ⟨⟨some 54, none, .prim (.iadra 1 64 (.tmp 5) (.tmp 24))⟩, [0, 1, 2, 3, 4, 5, 6, 7, 8, 9, 10, 11, 12, 13, 14, 15, 16, 17, 18, 19, 20, 21, 22, 23, 24, 25, 26, 27, 28, 29], false, 0, 0⟩,
      ⟨⟨none, none, .prim (.store 1 (.tmp 54) (.tmp 53))⟩, [0, 1, 2, 3, 4, 5, 6, 7, 8, 9, 10, 11, 12, 13, 14, 15, 16, 17, 18, 19, 20, 21, 22, 23, 24, 25, 26, 27, 28, 29, 30], true, 0, 0⟩])
    (.exit 1))
    .skip))
    (.seq (.draw [⟨⟨some 55, none, .prim (.mov (.tmp 6))⟩, [], false, 0, 0⟩,
      ⟨⟨some 56, none, .prim (.bin false .sub (.tmp 55) (.const (Go.Value.int Go.IntKind.i64 15)))⟩, [0], false, 0, 0⟩,
      ⟨⟨some 57, none, .prim (.iadra 1 64 (.tmp 5) (.tmp 56))⟩, [0, 1], false, 0, 0⟩,
      ⟨⟨some 58, none, .prim (.load 1 false (.tmp 57))⟩, [0, 1, 2], false, 0, 0⟩,
      ⟨⟨some 59, none, .prim (.mov (.tmp 6))⟩, [], false, 0, 0⟩,
      ⟨⟨some 60, none, .prim (.bin false .sub (.tmp 59) (.const (Go.Value.int Go.IntKind.i64 2)))⟩, [4], false, 0, 0⟩,
      ⟨⟨some 61, none, .prim (.iadra 1 64 (.tmp 5) (.tmp 60))⟩, [4, 5], false, 0, 0⟩,
      ⟨⟨some 62, none, .prim (.load 1 false (.tmp 61))⟩, [4, 5, 6], false, 0, 0⟩,
      ⟨⟨some 7, none, .prim (.mov (.tmp 58))⟩, [0, 1, 2, 3], false, 0, 0⟩,
      ⟨⟨some 8, none, .prim (.mov (.tmp 62))⟩, [0, 1, 2, 3, 4, 5, 6, 7, 8], false, 0, 0⟩])
    (.seq (.ops [⟨some 63, none, .prim (.mov (.tmp 7))⟩,
      ⟨some 64, none, .call (.func 34) [(.tmp 63), (.const (Go.Value.int Go.IntKind.u64 7))]⟩,
      ⟨some 65, none, .prim (.mov (.tmp 7))⟩,
      ⟨some 66, none, .call (.func 34) [(.tmp 65), (.const (Go.Value.int Go.IntKind.u64 18))]⟩,
      ⟨some 67, none, .prim (.bin false .xor (.tmp 64) (.tmp 66))⟩,
      ⟨some 68, none, .prim (.mov (.tmp 7))⟩,
      ⟨some 69, none, .prim (.bin false .shr (.tmp 68) (.const (Go.Value.int Go.IntKind.u64 3)))⟩,
      ⟨some 70, none, .prim (.bin false .xor (.tmp 67) (.tmp 69))⟩,
      ⟨some 9, none, .prim (.mov (.tmp 70))⟩])
    (.seq (.ops [⟨some 71, none, .prim (.mov (.tmp 8))⟩,
      ⟨some 72, none, .call (.func 34) [(.tmp 71), (.const (Go.Value.int Go.IntKind.u64 17))]⟩,
      ⟨some 73, none, .prim (.mov (.tmp 8))⟩,
      ⟨some 74, none, .call (.func 34) [(.tmp 73), (.const (Go.Value.int Go.IntKind.u64 19))]⟩,
      ⟨some 75, none, .prim (.bin false .xor (.tmp 72) (.tmp 74))⟩,
      ⟨some 76, none, .prim (.mov (.tmp 8))⟩,
      ⟨some 77, none, .prim (.bin false .shr (.tmp 76) (.const (Go.Value.int Go.IntKind.u64 10)))⟩,
      ⟨some 78, none, .prim (.bin false .xor (.tmp 75) (.tmp 77))⟩,
      ⟨some 10, none, .prim (.mov (.tmp 78))⟩])
    (.draw [⟨⟨some 79, none, .prim (.mov (.tmp 6))⟩, [], false, 0, 0⟩,
      ⟨⟨some 80, none, .prim (.mov (.tmp 6))⟩, [], false, 0, 0⟩,
      ⟨⟨some 81, none, .prim (.bin false .sub (.tmp 80) (.const (Go.Value.int Go.IntKind.i64 16)))⟩, [1], false, 0, 0⟩,
      ⟨⟨some 82, none, .prim (.iadra 1 64 (.tmp 5) (.tmp 81))⟩, [1, 2], false, 0, 0⟩,
      ⟨⟨some 83, none, .prim (.load 1 false (.tmp 82))⟩, [1, 2, 3], false, 0, 0⟩,
      ⟨⟨some 84, none, .prim (.mov (.tmp 9))⟩, [], false, 0, 0⟩,
      ⟨⟨some 85, none, .prim (.bin false .add (.tmp 83) (.tmp 84))⟩, [1, 2, 3, 4, 5], false, 0, 0⟩,
      ⟨⟨some 86, none, .prim (.mov (.tmp 6))⟩, [], false, 0, 0⟩,
      ⟨⟨some 87, none, .prim (.bin false .sub (.tmp 86) (.const (Go.Value.int Go.IntKind.i64 7)))⟩, [7], false, 0, 0⟩,
      ⟨⟨some 88, none, .prim (.iadra 1 64 (.tmp 5) (.tmp 87))⟩, [7, 8], false, 0, 0⟩,
      ⟨⟨some 89, none, .prim (.load 1 false (.tmp 88))⟩, [7, 8, 9], false, 0, 0⟩,
      ⟨⟨some 90, none, .prim (.bin false .add (.tmp 85) (.tmp 89))⟩, [1, 2, 3, 4, 5, 6, 7, 8, 9, 10], false, 0, 0⟩,
      ⟨⟨some 91, none, .prim (.mov (.tmp 10))⟩, [], false, 0, 0⟩,
      ⟨⟨some 92, none, .prim (.bin false .add (.tmp 90) (.tmp 91))⟩, [1, 2, 3, 4, 5, 6, 7, 8, 9, 10, 11, 12], false, 0, 0⟩,
      ⟨⟨some 93, none, .prim (.iadra 1 64 (.tmp 5) (.tmp 79))⟩, [0, 1, 2, 3, 4, 5, 6, 7, 8, 9, 10, 11, 12, 13], false, 0, 0⟩,
      ⟨⟨none, none, .prim (.store 1 (.tmp 93) (.tmp 92))⟩, [0, 1, 2, 3, 4, 5, 6, 7, 8, 9, 10, 11, 12, 13, 14], true, 0, 0⟩]))))))
    (.ops [⟨some 20, none, .prim (.mov (.tmp 6))⟩,
      ⟨some 21, none, .prim (.bin false .add (.tmp 20) (.const (Go.Value.int Go.IntKind.i64 1)))⟩,
      ⟨some 6, none, .prim (.mov (.tmp 21))⟩]))))))
    (.seq (.ops [⟨some 94, none, .prim (.load 8 true (.tmp 2))⟩,
      ⟨some 11, none, .prim (.allocm [.pl (.int .u32 0), .pl (.int .u32 0), .pl (.int .u32 0), .pl (.int .u32 0), .pl (.int .u32 0), .pl (.int .u32 0), .pl (.int .u32 0), .pl (.int .u32 0)])⟩,
      ⟨none, none, .prim (.store 8 (.tmp 11) (.tmp 94))⟩])
    (.seq (.seq (.ops [⟨some 12, none, .prim (.mov (.const (Go.Value.int Go.IntKind.i64 0)))⟩])
    (.block 2 (.loop [0, 1, 3, 6, 7, 8, 9, 10, 13, 14, 15, 16, 17, 18, 19, 20, 21, 22, 23, 24, 25, 26, 27, 28, 29, 30, 31, 32, 33, 34, 35, 36, 37, 38, 39, 40, 41, 42, 43, 44, 45, 46, 47, 48, 49, 50, 51, 52, 53, 54, 55, 56, 57, 58, 59, 60, 61, 62, 63, 64, 65, 66, 67, 68, 69, 70, 71, 72, 73, 74, 75, 76, 77, 78, 79, 80, 81, 82, 83, 84, 85, 86, 87, 88, 89, 90, 91, 92, 93, 94, 95, 96, 97, 98, 99, 100, 101, 102, 103, 104, 105, 106, 107, 108, 109, 110, 111, 112, 113, 114, 115, 116, 117, 118, 119, 120, 121, 122, 123, 124, 125, 126, 127, 128, 129, 130, 131, 132, 133, 134, 135, 136, 137, 138, 139, 140, 141, 142, 143, 144, 145, 146, 147, 148, 149, 150, 151, 152, 153, 154, 155, 156, 157, 158, 159, 160, 161, 162, 163, 164, 165, 166, 167, 168, 169, 170, 171, 172, 173, 174, 175, 176, 177, 178, 179, 180, 181, 182, 183, 184, 185, 186, 187, 188] (.seq (.seq (.ops [⟨some 95, none, .prim (.mov (.tmp 12))⟩,
      ⟨some 96, none, .prim (.bin false .lss (.tmp 95) (.const (Go.Value.int Go.IntKind.i64 64)))⟩])
    (.cond (.tmp 96)
    .skip
    (.exit 2)))
    (.seq (.block 3 (.seq (.draw [⟨⟨some 99, none, .prim (.iadra 1 8 (.tmp 11) (.const (Go.Value.int Go.IntKind.i64 4)))⟩, [], false, 0, 0⟩,
      ⟨⟨some 100, none, .prim (.load 1 false (.tmp 99))⟩, [0], false, 0, 0⟩,
      ⟨⟨some 101, none, .prim (.iadra 1 8 (.tmp 11) (.const (Go.Value.int Go.IntKind.i64 0)))⟩, [], false, 0, 0⟩,
      ⟨⟨some 102, none, .prim (.load 1 false (.tmp 101))⟩, [2], false, 0, 0⟩,
      ⟨⟨some 13, none, .prim (.mov (.tmp 100))⟩, [0, 1], false, 0, 0⟩,
      ⟨⟨some 14, none, .prim (.mov (.tmp 102))⟩, [0, 1, 2, 3, 4], false, 0, 0⟩])
    (.seq (.draw [⟨⟨some 103, none, .prim (.iadra 1 8 (.tmp 11) (.const (Go.Value.int Go.IntKind.i64 7)))⟩, [], false, 0, 3⟩,
      ⟨⟨some 104, none, .prim (.load 1 false (.tmp 103))⟩, [0], false, 0, 3⟩,
      ⟨⟨some 105, none, .prim (.mov (.tmp 13))⟩, [], false, 0, 0⟩,
      ⟨⟨some 106, none, .call (.func 34) [(.tmp 105), (.const (Go.Value.int Go.IntKind.u64 6))]⟩, [2], true, 0, 0⟩,
      ⟨⟨some 107, none, .prim (.mov (.tmp 13))⟩, [], false, 0, 1⟩,
      ⟨⟨some 108, none, .call (.func 34) [(.tmp 107), (.const (Go.Value.int Go.IntKind.u64 11))]⟩, [2, 3, 4], true, 0, 0⟩,
      ⟨⟨some 109, none, .prim (.bin false .xor (.tmp 106) (.tmp 108))⟩, [2, 3, 4, 5], false, 2, 3⟩,
      ⟨⟨some 110, none, .prim (.mov (.tmp 13))⟩, [], false, 0, 2⟩,
      ⟨⟨some 111, none, .call (.func 34) [(.tmp 110), (.const (Go.Value.int Go.IntKind.u64 25))]⟩, [2, 3, 4, 5, 7], true, 0, 0⟩,
      ⟨⟨some 112, none, .prim (.bin false .xor (.tmp 109) (.tmp 111))⟩, [2, 3, 4, 5, 6, 7, 8], false, 3, 3⟩,
      ⟨⟨some 113, none, .prim (.bin false .add (.tmp 104) (.tmp 112))⟩, [0, 1, 2, 3, 4, 5, 6, 7, 8, 9], false, 3, 3⟩,
      ⟨⟨some 114, none, .prim (.mov (.tmp 13))⟩, [], false, 0, 3⟩,
      ⟨⟨some 115, none, .prim (.iadra 1 8 (.tmp 11) (.const (Go.Value.int Go.IntKind.i64 5)))⟩, [], false, 0, 3⟩,
      ⟨⟨some 116, none, .prim (.load 1 false (.tmp 115))⟩, [12], false, 0, 3⟩,
      ⟨⟨some 117, none, .prim (.bin false .and (.tmp 114) (.tmp 116))⟩, [11, 12, 13], false, 0, 3⟩,
      ⟨⟨some 118, none, .prim (.mov (.tmp 13))⟩, [], false, 0, 3⟩,
      ⟨⟨some 119, none, .prim (.un .xor (.tmp 118))⟩, [15], false, 0, 3⟩,
      ⟨⟨some 120, none, .prim (.iadra 1 8 (.tmp 11) (.const (Go.Value.int Go.IntKind.i64 6)))⟩, [], false, 0, 3⟩,
      ⟨⟨some 121, none, .prim (.load 1 false (.tmp 120))⟩, [17], false, 0, 3⟩,
      ⟨⟨some 122, none, .prim (.bin false .and (.tmp 119) (.tmp 121))⟩, [15, 16, 17, 18], false, 0, 3⟩,
      ⟨⟨some 123, none, .prim (.bin false .xor (.tmp 117) (.tmp 122))⟩, [11, 12, 13, 14, 15, 16, 17, 18, 19], false, 0, 3⟩,
      ⟨⟨some 124, none, .prim (.bin false .add (.tmp 113) (.tmp 123))⟩, [0, 1, 2, 3, 4, 5, 6, 7, 8, 9, 10, 11, 12, 13, 14, 15, 16, 17, 18, 19, 20], false, 3, 3⟩,
      ⟨⟨some 125, none, .prim (.mov (.tmp 12))⟩, [], false, 0, 3⟩,
      ⟨⟨some 126, none, .prim (.giadr 0 1 64 (.tmp 125))⟩, [22], false, 0, 3⟩,
      ⟨⟨some 127, none, .prim (.load 1 false (.tmp 126))⟩, [22, 23], false, 0, 3⟩,
      ⟨⟨some 128, none, .prim (.bin false .add (.tmp 124) (.tmp 127))⟩, [0, 1, 2, 3, 4, 5, 6, 7, 8, 9, 10, 11, 12, 13, 14, 15, 16, 17, 18, 19, 20, 21, 22, 23, 24], false, 3, 3⟩,
      ⟨⟨some 129, none, .prim (.mov (.tmp 12))⟩, [], false, 0, 3⟩,
      ⟨⟨some 130, none, .prim (.iadra 1 64 (.tmp 5) (.tmp 129))⟩, [26], false, 0, 3⟩,
      ⟨⟨some 131, none, .prim (.load 1 false (.tmp 130))⟩, [26, 27], false, 0, 3⟩,
      ⟨⟨some 132, none, .prim (.bin false .add (.tmp 128) (.tmp 131))⟩, [0, 1, 2, 3, 4, 5, 6, 7, 8, 9, 10, 11, 12, 13, 14, 15, 16, 17, 18, 19, 20, 21, 22, 23, 24, 25, 26, 27, 28], false, 3, 3⟩,
      ⟨⟨some 15, none, .prim (.mov (.tmp 132))⟩, [0, 1, 2, 3, 4, 5, 6, 7, 8, 9, 10, 11, 12, 13, 14, 15, 16, 17, 18, 19, 20, 21, 22, 23, 24, 25, 26, 27, 28, 29], false, 3, 3⟩])
    (.seq (.draw [⟨⟨some 133, none, .prim (.mov (.tmp 14))⟩, [], false, 0, 0⟩,
      ⟨⟨some 134, none, .call (.func 34) [(.tmp 133), (.const (Go.Value.int Go.IntKind.u64 2))]⟩, [0], true, 0, 0⟩,
      ⟨⟨some 135, none, .prim (.mov (.tmp 14))⟩, [], false, 0, 1⟩,
      ⟨⟨some 136, none, .call (.func 34) [(.tmp 135), (.const (Go.Value.int Go.IntKind.u64 13))]⟩, [0, 1, 2], true, 0, 0⟩,
      ⟨⟨some 137, none, .prim (.bin false .xor (.tmp 134) (.tmp 136))⟩, [0, 1, 2, 3], false, 2, 3⟩,
      ⟨⟨some 138, none, .prim (.mov (.tmp 14))⟩, [], false, 0, 2⟩,
      ⟨⟨some 139, none, .call (.func 34) [(.tmp 138), (.const (Go.Value.int Go.IntKind.u64 22))]⟩, [0, 1, 2, 3, 5], true, 0, 0⟩,
      ⟨⟨some 140, none, .prim (.bin false .xor (.tmp 137) (.tmp 139))⟩, [0, 1, 2, 3, 4, 5, 6], false, 3, 3⟩,
      ⟨⟨some 141, none, .prim (.mov (.tmp 14))⟩, [], false, 0, 3⟩,
      ⟨⟨some 142, none, .prim (.iadra 1 8 (.tmp 11) (.const (Go.Value.int Go.IntKind.i64 1)))⟩, [], false, 0, 3⟩,
      ⟨⟨some 143, none, .prim (.load 1 false (.tmp 142))⟩, [9], false, 0, 3⟩,
      ⟨⟨some 144, none, .prim (.bin false .and (.tmp 141) (.tmp 143))⟩, [8, 9, 10], false, 0, 3⟩,
      ⟨⟨some 145, none, .prim (.mov (.tmp 14))⟩, [], false, 0, 3⟩,
      ⟨⟨some 146, none, .prim (.iadra 1 8 (.tmp 11) (.const (Go.Value.int Go.IntKind.i64 2)))⟩, [], false, 0, 3⟩,
      ⟨⟨some 147, none, .prim (.load 1 false (.tmp 146))⟩, [13], false, 0, 3⟩,
      ⟨⟨some 148, none, .prim (.bin false .and (.tmp 145) (.tmp 147))⟩, [12, 13, 14], false, 0, 3⟩,
      ⟨⟨some 149, none, .prim (.bin false .xor (.tmp 144) (.tmp 148))⟩, [8, 9, 10, 11, 12, 13, 14, 15], false, 0, 3⟩,
      ⟨⟨some 150, none, .prim (.iadra 1 8 (.tmp 11) (.const (Go.Value.int Go.IntKind.i64 1)))⟩, [], false, 0, 3⟩,
      ⟨⟨some 151, none, .prim (.load 1 false (.tmp 150))⟩, [17], false, 0, 3⟩,
      ⟨⟨some 152, none, .prim (.iadra 1 8 (.tmp 11) (.const (Go.Value.int Go.IntKind.i64 2)))⟩, [], false, 0, 3⟩,
      ⟨⟨some 153, none, .prim (.load 1 false (.tmp 152))⟩, [19], false, 0, 3⟩,
      ⟨⟨some 154, none, .prim (.bin false .and (.tmp 151) (.tmp 153))⟩, [17, 18, 19, 20], false, 0, 3⟩,
      ⟨⟨some 155, none, .prim (.bin false .xor (.tmp 149) (.tmp 154))⟩, [8, 9, 10, 11, 12, 13, 14, 15, 16, 17, 18, 19, 20, 21], false, 0, 3⟩,
      ⟨⟨some 156, none, .prim (.bin false .add (.tmp 140) (.tmp 155))⟩, [0, 1, 2, 3, 4, 5, 6, 7, 8, 9, 10, 11, 12, 13, 14, 15, 16, 17, 18, 19, 20, 21, 22], false, 3, 3⟩,
      ⟨⟨some 16, none, .prim (.mov (.tmp 156))⟩, [0, 1, 2, 3, 4, 5, 6, 7, 8, 9, 10, 11, 12, 13, 14, 15, 16, 17, 18, 19, 20, 21, 22, 23], false, 3, 3⟩])
    (.ops [⟨some 157, none, .prim (.mov (.tmp 15))⟩,
      ⟨some 158, none, .prim (.mov (.tmp 16))⟩,
      ⟨some 159, none, .prim (.bin false .add (.tmp 157) (.tmp 158))⟩,
      ⟨some 160, none, .prim (.mov (.tmp 14))⟩,
      ⟨some 161, none, .prim (.iadra 1 8 (.tmp 11) (.const (Go.Value.int Go.IntKind.i64 1)))⟩,
      ⟨some 162, none, .prim (.load 1 false (.tmp 161))⟩,
      ⟨some 163, none, .prim (.iadra 1 8 (.tmp 11) (.const (Go.Value.int Go.IntKind.i64 2)))⟩,
      ⟨some 164, none, .prim (.load 1 false (.tmp 163))⟩,
      ⟨some 165, none, .prim (.iadra 1 8 (.tmp 11) (.const (Go.Value.int Go.IntKind.i64 3)))⟩,
      ⟨some 166, none, .prim (.load 1 false (.tmp 165))⟩,
      ⟨some 167, none, .prim (.mov (.tmp 15))⟩,
      ⟨some 168, none, .prim (.bin false .add (.tmp 166) (.tmp 167))⟩,
      ⟨some 169, none, .prim (.mov (.tmp 13))⟩,
      ⟨some 170, none, .prim (.iadra 1 8 (.tmp 11) (.const (Go.Value.int Go.IntKind.i64 5)))⟩,
      ⟨some 171, none, .prim (.load 1 false (.tmp 170))⟩,
      ⟨some 172, none, .prim (.iadra 1 8 (.tmp 11) (.const (Go.Value.int Go.IntKind.i64 6)))⟩,
      ⟨some 173, none, .prim (.load 1 false (.tmp 172))⟩,
      ⟨some 174, none, .prim (.build [.pl (.int .u32 0), .pl (.int .u32 0), .pl (.int .u32 0), .pl (.int .u32 0), .pl (.int .u32 0), .pl (.int .u32 0), .pl (.int .u32 0), .pl (.int .u32 0)] [(0, 1, (.tmp 159)), (1, 1, (.tmp 160)), (2, 1, (.tmp 162)), (3, 1, (.tmp 164)), (4, 1, (.tmp 168)), (5, 1, (.tmp 169)), (6, 1, (.tmp 171)), (7, 1, (.tmp 173))])⟩,
      ⟨none, none, .prim (.store 8 (.tmp 11) (.tmp 174))⟩])))))
    (.ops [⟨some 97, none, .prim (.mov (.tmp 12))⟩,
      ⟨some 98, none, .prim (.bin false .add (.tmp 97) (.const (Go.Value.int Go.IntKind.i64 1)))⟩,
      ⟨some 12, none, .prim (.mov (.tmp 98))⟩]))))))
    (.seq (.seq (.ops [⟨some 17, none, .prim (.mov (.const (Go.Value.int Go.IntKind.i64 0)))⟩])
    (.block 4 (.loop [0, 1, 3, 5, 6, 7, 8, 9, 10, 12, 13, 14, 15, 16, 18, 19, 20, 21, 22, 23, 24, 25, 26, 27, 28, 29, 30, 31, 32, 33, 34, 35, 36, 37, 38, 39, 40, 41, 42, 43, 44, 45, 46, 47, 48, 49, 50, 51, 52, 53, 54, 55, 56, 57, 58, 59, 60, 61, 62, 63, 64, 65, 66, 67, 68, 69, 70, 71, 72, 73, 74, 75, 76, 77, 78, 79, 80, 81, 82, 83, 84, 85, 86, 87, 88, 89, 90, 91, 92, 93, 94, 95, 96, 97, 98, 99, 100, 101, 102, 103, 104, 105, 106, 107, 108, 109, 110, 111, 112, 113, 114, 115, 116, 117, 118, 119, 120, 121, 122, 123, 124, 125, 126, 127, 128, 129, 130, 131, 132, 133, 134, 135, 136, 137, 138, 139, 140, 141, 142, 143, 144, 145, 146, 147, 148, 149, 150, 151, 152, 153, 154, 155, 156, 157, 158, 159, 160, 161, 162, 163, 164, 165, 166, 167, 168, 169, 170, 171, 172, 173, 174, 175, 176, 177, 178, 179, 180, 181, 182, 183, 184, 185, 186, 187, 188] (.seq (.seq (.ops [⟨some 175, none, .prim (.mov (.tmp 17))⟩,
      ⟨some 176, none, .prim (.bin false .lss (.tmp 175) (.const (Go.Value.int Go.IntKind.i64 8)))⟩])
    (.cond (.tmp 176)
    .skip
    (.exit 4)))
    (.seq (.block 5 (.draw [⟨⟨some 179, none, .prim (.mov (.tmp 17))⟩, [], false, 0, 0⟩,
      ⟨⟨some 180, none, .prim (.mov (.tmp 17))⟩, [], false, 0, 0⟩,
      ⟨⟨some 181, none, .prim (.iadra 1 8 (.tmp 11) (.tmp 180))⟩, [1], false, 0, 0⟩,
      ⟨⟨some 182, none, .prim (.load 1 false (.tmp 181))⟩, [1, 2], false, 0, 0⟩,
      ⟨⟨some 183, none, .prim (.mov (.tmp 17))⟩, [], false, 0, 0⟩,
      ⟨⟨some 184, none, .prim (.iadra 1 8 (.tmp 2) (.tmp 183))⟩, [4], false, 0, 0⟩,
      ⟨⟨some 185, none, .prim (.load 1 false (.tmp 184))⟩, [4, 5], false, 0, 0⟩,
      ⟨⟨some 186, none, .prim (.bin false .add (.tmp 182) (.tmp 185))⟩, [1, 2, 3, 4, 5, 6], false, 0, 0⟩,
      ⟨⟨some 187, none, .prim (.iadra 1 8 (.tmp 11) (.tmp 179))⟩, [0, 1, 2, 3, 4, 5, 6, 7], false, 0, 0⟩,
      ⟨⟨none, none, .prim (.store 1 (.tmp 187) (.tmp 186))⟩, [0, 1, 2, 3, 4, 5, 6, 7, 8], true, 0, 0⟩]))
    (.ops [⟨some 177, none, .prim (.mov (.tmp 17))⟩,
      ⟨some 178, none, .prim (.bin false .add (.tmp 177) (.const (Go.Value.int Go.IntKind.i64 1)))⟩,
      ⟨some 17, none, .prim (.mov (.tmp 178))⟩]))))))
    (.seq (.ops [⟨some 188, none, .prim (.load 8 true (.tmp 11))⟩,
      ⟨none, none, .prim (.store 8 (.tmp 4) (.tmp 188))⟩])
    .ret)))))))
def o29 : List Tmp := [4, 5, 11]
def r29 : List RV := [.cell 4 8 true]
theorem t29 : Text Tryz.prog 29 o29 c29 r29 189 := ⟨⟨Tryz.f29, _, by kernel_rfl, by kernel_rfl, rfl, by kernel_rfl, by kernel_rfl, rfl⟩, by kernel_rfl⟩

/-- slices.Grow[[]byte,byte] -/
def c30 : ACode :=
  (.seq (.ops [⟨some 4, none, .prim (.mov (.const (Go.Value.slice Option.none 0 0)))⟩])
    (.seq (.seq (.ops [⟨some 5, none, .prim (.mov (.tmp 1))⟩,
      ⟨some 6, none, .prim (.bin false .lss (.tmp 5) (.const (Go.Value.int Go.IntKind.i64 0)))⟩])
    (.cond (.tmp 6)
    (.ops [⟨some 7, none, .prim (.bad)⟩,
      ⟨none, none, .prim (.bad)⟩])
    .skip))
    (.seq (.seq (.ops [⟨some 8, none, .prim (.mov (.tmp 1))⟩,
      ⟨some 9, none, .prim (.mov (.tmp 0))⟩,
      ⟨some 10, none, .prim (.capn (.tmp 9))⟩,
      ⟨some 11, none, .prim (.mov (.tmp 0))⟩,
      ⟨some 12, none, .prim (.lenv (.tmp 11))⟩,
      ⟨some 13, none, .prim (.bin false .sub (.tmp 10) (.tmp 12))⟩,
      ⟨some 14, none, .prim (.bin false .sub (.tmp 8) (.tmp 13))⟩,
      ⟨some 1, none, .prim (.mov (.tmp 14))⟩])
    (.seq (.ops [⟨some 15, none, .prim (.mov (.tmp 1))⟩,
      ⟨some 16, none, .prim (.bin false .gtr (.tmp 15) (.const (Go.Value.int Go.IntKind.i64 0)))⟩])
    (.cond (.tmp 16)
    (.ops [⟨some 17, none, .prim (.mov (.tmp 0))⟩,
      ⟨some 18, none, .prim (.mov (.tmp 0))⟩,
      ⟨some 19, none, .prim (.capn (.tmp 18))⟩,
      ⟨some 20, none, .prim (.slco 1 (.tmp 17) none (some (.tmp 19)))⟩,
      ⟨some 21, none, .prim (.mov (.tmp 1))⟩,
      ⟨some 22, none, .prim (.appz 1 false [.pl (.int .u8 0)] (.tmp 20) (.tmp 21))⟩,
      ⟨some 23, none, .prim (.mov (.tmp 0))⟩,
      ⟨some 24, none, .prim (.lenv (.tmp 23))⟩,
      ⟨some 25, none, .prim (.slco 1 (.tmp 22) none (some (.tmp 24)))⟩,
      ⟨some 0, none, .prim (.mov (.tmp 25))⟩])
    .skip)))
    (.seq (.ops [⟨some 26, none, .prim (.mov (.tmp 0))⟩,
      ⟨some 4, none, .prim (.mov (.tmp 26))⟩])
    .ret))))
def o30 : List Tmp := [20, 25]
def r30 : List RV := [.tmp 4]
theorem t30 : Text Tryz.prog 30 o30 c30 r30 27 := ⟨⟨Tryz.f30, _, by kernel_rfl, by kernel_rfl, rfl, by kernel_rfl, by kernel_rfl, rfl⟩, by kernel_rfl⟩

/-- sordine/sha.Pad -/
def c31 : ACode :=
  (.seq (.ops [⟨some 2, none, .prim (.mov (.const (Go.Value.slice Option.none 0 0)))⟩])
    (.seq (.ops [⟨some 7, none, .prim (.mov (.tmp 0))⟩,
      ⟨some 8, none, .prim (.lenv (.tmp 7))⟩,
      ⟨some 9, none, .prim (.bin false .add (.tmp 8) (.const (Go.Value.int Go.IntKind.i64 1)))⟩,
      ⟨some 3, none, .prim (.mov (.tmp 9))⟩])
    (.seq (.block 0 (.loop [1, 2, 4, 5, 6, 7, 8, 9, 10, 11, 12, 13, 14, 15, 16, 17, 18, 19, 20, 21, 22, 23, 24, 25, 26, 27, 28, 29, 30, 31, 32, 33, 34, 35, 36, 37, 38, 39, 40, 41, 42, 43, 44] (.seq (.seq (.ops [⟨some 10, none, .prim (.mov (.tmp 3))⟩,
      ⟨some 11, none, .prim (.bin false .rem (.tmp 10) (.const (Go.Value.int Go.IntKind.i64 64)))⟩,
      ⟨some 12, none, .prim (.bin false .neq (.tmp 11) (.const (Go.Value.int Go.IntKind.i64 56)))⟩])
    (.cond (.tmp 12)
    .skip
    (.exit 0)))
    (.block 1 (.ops [⟨some 13, none, .prim (.mov (.tmp 3))⟩,
      ⟨some 14, none, .prim (.bin false .add (.tmp 13) (.const (Go.Value.int Go.IntKind.i64 1)))⟩,
      ⟨some 3, none, .prim (.mov (.tmp 14))⟩])))))
    (.seq (.ops [⟨some 15, none, .prim (.mov (.tmp 3))⟩,
      ⟨some 16, none, .prim (.bin false .add (.tmp 15) (.const (Go.Value.int Go.IntKind.i64 8)))⟩,
      ⟨some 17, none, .prim (.mks 1 false [.pl (.int .u8 0)] (.tmp 16) (.tmp 16))⟩,
      ⟨some 4, none, .prim (.mov (.tmp 17))⟩])
    (.seq (.ops [⟨some 18, none, .prim (.mov (.tmp 4))⟩,
      ⟨some 19, none, .prim (.mov (.tmp 0))⟩,
      ⟨some 20, none, .prim (.copy (.tmp 18) (.tmp 19))⟩])
    (.seq (.ops [⟨some 21, none, .prim (.mov (.tmp 4))⟩,
      ⟨some 22, none, .prim (.mov (.tmp 0))⟩,
      ⟨some 23, none, .prim (.lenv (.tmp 22))⟩,
      ⟨some 24, none, .prim (.iadrs 1 (.tmp 21) (.tmp 23))⟩,
      ⟨none, none, .prim (.store 1 (.tmp 24) (.const (Go.Value.int Go.IntKind.u8 128)))⟩])
    (.seq (.ops [⟨some 25, none, .prim (.mov (.tmp 0))⟩,
      ⟨some 26, none, .prim (.lenv (.tmp 25))⟩,
      ⟨some 27, none, .prim (.convi .u64 (.tmp 26))⟩,
      ⟨some 28, none, .prim (.bin false .mul (.tmp 27) (.const (Go.Value.int Go.IntKind.u64 8)))⟩,
      ⟨some 5, none, .prim (.mov (.tmp 28))⟩])
    (.seq (.seq (.ops [⟨some 29, none, .prim (.mov (.const (Go.Value.int Go.IntKind.i64 0)))⟩])
    (.block 2 (.loop [0, 1, 2, 6, 7, 8, 9, 10, 11, 12, 13, 14, 15, 16, 17, 18, 19, 20, 21, 22, 23, 24, 25, 26, 27, 28, 30, 31, 32, 33, 34, 35, 36, 37, 38, 39, 40, 41, 42, 43, 44] (.seq (.ops [⟨some 30, none, .prim (.bin false .lss (.tmp 29) (.const (Go.Value.int Go.IntKind.i64 8)))⟩])
    (.seq (.cond (.tmp 30)
    .skip
    (.exit 2))
    (.seq (.block 3 (.seq (.ops [⟨some 31, none, .prim (.mov (.tmp 29))⟩,
      ⟨some 6, none, .prim (.mov (.tmp 31))⟩])
    (.ops [⟨some 32, none, .prim (.mov (.tmp 4))⟩,
      ⟨some 33, none, .prim (.mov (.tmp 3))⟩,
      ⟨some 34, none, .prim (.mov (.tmp 6))⟩,
      ⟨some 35, none, .prim (.bin false .add (.tmp 33) (.tmp 34))⟩,
      ⟨some 36, none, .prim (.mov (.tmp 5))⟩,
      ⟨some 37, none, .prim (.mov (.tmp 6))⟩,
      ⟨some 38, none, .prim (.bin false .mul (.const (Go.Value.int Go.IntKind.i64 8)) (.tmp 37))⟩,
      ⟨some 39, none, .prim (.bin false .sub (.const (Go.Value.int Go.IntKind.i64 56)) (.tmp 38))⟩,
      ⟨some 40, none, .prim (.bin false .shr (.tmp 36) (.tmp 39))⟩,
      ⟨some 41, none, .prim (.convi .u8 (.tmp 40))⟩,
      ⟨some 42, none, .prim (.iadrs 1 (.tmp 32) (.tmp 35))⟩,
      ⟨none, none, .prim (.store 1 (.tmp 42) (.tmp 41))⟩])))
    (.ops [⟨some 43, none, .prim (.bin false .add (.tmp 29) (.const (Go.Value.int Go.IntKind.i64 1)))⟩,
      ⟨some 29, none, .prim (.mov (.tmp 43))⟩])))))))
    (.seq (.ops [⟨some 44, none, .prim (.mov (.tmp 4))⟩,
      ⟨some 2, none, .prim (.mov (.tmp 44))⟩])
    (.ghost (.shut 2) .ret))))))))))
def o31 : List Tmp := []
def r31 : List RV := [.tmp 2]
theorem t31 : Text Tryz.prog 31 o31 c31 r31 45 := ⟨⟨Tryz.f31, _, by kernel_rfl, by kernel_rfl, rfl, by kernel_rfl, by kernel_rfl, rfl⟩, by kernel_rfl⟩

/-- sordine/sha.Round -/
def c32 : ACode :=
  (.seq (.ops [⟨some 2, none, .prim (.boxr (.tmp 0))⟩,
      ⟨some 3, none, .prim (.boxr (.tmp 1))⟩,
      ⟨some 4, none, .prim (.allocm [.pl (.int .u32 0), .pl (.int .u32 0), .pl (.int .u32 0), .pl (.int .u32 0), .pl (.int .u32 0), .pl (.int .u32 0), .pl (.int .u32 0), .pl (.int .u32 0)])⟩])
    (.seq (.ops [⟨some 18, none, .prim (.load 64 true (.tmp 3))⟩,
      ⟨some 19, none, .call (.func 35) [(.tmp 18)]⟩,
      ⟨some 5, none, .fresh 64 5 (.tmp 19)⟩])
    (.seq (.ops [⟨some 20, none, .prim (.load 8 true (.tmp 2))⟩,
      ⟨some 6, none, .prim (.allocm [.pl (.int .u32 0), .pl (.int .u32 0), .pl (.int .u32 0), .pl (.int .u32 0), .pl (.int .u32 0), .pl (.int .u32 0), .pl (.int .u32 0), .pl (.int .u32 0)])⟩,
      ⟨none, none, .prim (.store 8 (.tmp 6) (.tmp 20))⟩])
    (.seq (.seq (.ops [⟨some 21, none, .prim (.mov (.const (Go.Value.int Go.IntKind.i64 0)))⟩])
    (.block 0 (.loop [0, 1, 3, 7, 8, 9, 10, 11, 12, 13, 14, 15, 16, 17, 18, 19, 20, 22, 23, 24, 25, 26, 27, 28, 29, 30, 31, 32, 33, 34, 35, 36, 37, 38, 39, 40, 41, 42, 43, 44, 45, 46, 47, 48, 49, 50, 51, 52, 53, 54, 55, 56, 57, 58, 59, 60, 61, 62, 63, 64, 65, 66, 67, 68, 69, 70, 71, 72, 73, 74, 75, 76, 77, 78, 79, 80, 81, 82, 83, 84, 85, 86, 87, 88, 89, 90, 91, 92, 93, 94, 95, 96, 97, 98, 99, 100, 101, 102, 103, 104, 105, 106, 107, 108, 109, 110, 111, 112, 113] (.seq (.ops [⟨some 22, none, .prim (.bin false .lss (.tmp 21) (.const (Go.Value.int Go.IntKind.i64 64)))⟩])
    (.seq (.cond (.tmp 22)
    .skip
    (.exit 0))
    (.seq (.block 1 (.seq (.ops [⟨some 23, none, .prim (.mov (.tmp 21))⟩,
      ⟨some 7, none, .prim (.mov (.tmp 23))⟩])
    (.seq (.draw [⟨⟨some 24, none, .prim (.iadra 1 8 (.tmp 6) (.const (Go.Value.int Go.IntKind.i64 0)))⟩, [], false, 0, 0⟩,
      ⟨⟨some 25, none, .prim (.load 1 false (.tmp 24))⟩, [0], false, 0, 0⟩,
      ⟨⟨some 26, none, .prim (.iadra 1 8 (.tmp 6) (.const (Go.Value.int Go.IntKind.i64 1)))⟩, [], false, 0, 0⟩,
      ⟨⟨some 27, none, .prim (.load 1 false (.tmp 26))⟩, [2], false, 0, 0⟩,
      ⟨⟨some 28, none, .prim (.iadra 1 8 (.tmp 6) (.const (Go.Value.int Go.IntKind.i64 2)))⟩, [], false, 0, 0⟩,
      ⟨⟨some 29, none, .prim (.load 1 false (.tmp 28))⟩, [4], false, 0, 0⟩,
      ⟨⟨some 30, none, .prim (.iadra 1 8 (.tmp 6) (.const (Go.Value.int Go.IntKind.i64 4)))⟩, [], false, 0, 0⟩,
      ⟨⟨some 31, none, .prim (.load 1 false (.tmp 30))⟩, [6], false, 0, 0⟩,
      ⟨⟨some 32, none, .prim (.iadra 1 8 (.tmp 6) (.const (Go.Value.int Go.IntKind.i64 5)))⟩, [], false, 0, 0⟩,
      ⟨⟨some 33, none, .prim (.load 1 false (.tmp 32))⟩, [8], false, 0, 0⟩,
      ⟨⟨some 34, none, .prim (.iadra 1 8 (.tmp 6) (.const (Go.Value.int Go.IntKind.i64 6)))⟩, [], false, 0, 0⟩,
      ⟨⟨some 35, none, .prim (.load 1 false (.tmp 34))⟩, [10], false, 0, 0⟩,
      ⟨⟨some 8, none, .prim (.mov (.tmp 25))⟩, [0, 1], false, 0, 0⟩,
      ⟨⟨some 9, none, .prim (.mov (.tmp 27))⟩, [0, 1, 2, 3, 12], false, 0, 0⟩,
      ⟨⟨some 10, none, .prim (.mov (.tmp 29))⟩, [0, 1, 2, 3, 4, 5, 12, 13], false, 0, 0⟩,
      ⟨⟨some 11, none, .prim (.mov (.tmp 31))⟩, [0, 1, 2, 3, 4, 5, 6, 7, 12, 13, 14], false, 0, 0⟩,
      ⟨⟨some 12, none, .prim (.mov (.tmp 33))⟩, [0, 1, 2, 3, 4, 5, 6, 7, 8, 9, 12, 13, 14, 15], false, 0, 0⟩,
      ⟨⟨some 13, none, .prim (.mov (.tmp 35))⟩, [0, 1, 2, 3, 4, 5, 6, 7, 8, 9, 10, 11, 12, 13, 14, 15, 16], false, 0, 0⟩])
    (.seq (.ops [⟨some 36, none, .prim (.mov (.tmp 11))⟩,
      ⟨some 37, none, .call (.func 36) [(.tmp 36), (.const (Go.Value.int Go.IntKind.i64 (-6)))]⟩,
      ⟨some 38, none, .prim (.mov (.tmp 11))⟩,
      ⟨some 39, none, .call (.func 36) [(.tmp 38), (.const (Go.Value.int Go.IntKind.i64 (-11)))]⟩,
      ⟨some 40, none, .prim (.bin false .xor (.tmp 37) (.tmp 39))⟩,
      ⟨some 41, none, .prim (.mov (.tmp 11))⟩,
      ⟨some 42, none, .call (.func 36) [(.tmp 41), (.const (Go.Value.int Go.IntKind.i64 (-25)))]⟩,
      ⟨some 43, none, .prim (.bin false .xor (.tmp 40) (.tmp 42))⟩,
      ⟨some 14, none, .prim (.mov (.tmp 43))⟩])
    (.seq (.draw [⟨⟨some 44, none, .prim (.iadra 1 8 (.tmp 6) (.const (Go.Value.int Go.IntKind.i64 7)))⟩, [], false, 0, 0⟩,
      ⟨⟨some 45, none, .prim (.load 1 false (.tmp 44))⟩, [0], false, 0, 0⟩,
      ⟨⟨some 46, none, .prim (.mov (.tmp 14))⟩, [], false, 0, 0⟩,
      ⟨⟨some 47, none, .prim (.bin false .add (.tmp 45) (.tmp 46))⟩, [0, 1, 2], false, 0, 0⟩,
      ⟨⟨some 48, none, .prim (.mov (.tmp 11))⟩, [], false, 0, 0⟩,
      ⟨⟨some 49, none, .prim (.mov (.tmp 12))⟩, [], false, 0, 0⟩,
      ⟨⟨some 50, none, .prim (.bin false .and (.tmp 48) (.tmp 49))⟩, [4, 5], false, 0, 0⟩,
      ⟨⟨some 51, none, .prim (.mov (.tmp 11))⟩, [], false, 0, 0⟩,
      ⟨⟨some 52, none, .prim (.un .xor (.tmp 51))⟩, [7], false, 0, 0⟩,
      ⟨⟨some 53, none, .prim (.mov (.tmp 13))⟩, [], false, 0, 0⟩,
      ⟨⟨some 54, none, .prim (.bin false .and (.tmp 52) (.tmp 53))⟩, [7, 8, 9], false, 0, 0⟩,
      ⟨⟨some 55, none, .prim (.bin false .xor (.tmp 50) (.tmp 54))⟩, [4, 5, 6, 7, 8, 9, 10], false, 0, 0⟩,
      ⟨⟨some 56, none, .prim (.bin false .add (.tmp 47) (.tmp 55))⟩, [0, 1, 2, 3, 4, 5, 6, 7, 8, 9, 10, 11], false, 0, 0⟩,
      ⟨⟨some 57, none, .prim (.mov (.tmp 7))⟩, [], false, 0, 0⟩,
      ⟨⟨some 58, none, .prim (.giadr 1 1 64 (.tmp 57))⟩, [13], false, 0, 0⟩,
      ⟨⟨some 59, none, .prim (.load 1 false (.tmp 58))⟩, [13, 14], false, 0, 0⟩,
      ⟨⟨some 60, none, .prim (.bin false .add (.tmp 56) (.tmp 59))⟩, [0, 1, 2, 3, 4, 5, 6, 7, 8, 9, 10, 11, 12, 13, 14, 15], false, 0, 0⟩,
      ⟨⟨some 61, none, .prim (.mov (.tmp 7))⟩, [], false, 0, 0⟩,
      ⟨⟨some 62, none, .prim (.iadra 1 64 (.tmp 5) (.tmp 61))⟩, [17], false, 0, 0⟩,
      ⟨⟨some 63, none, .prim (.load 1 false (.tmp 62))⟩, [17, 18], false, 0, 0⟩,
      ⟨⟨some 64, none, .prim (.bin false .add (.tmp 60) (.tmp 63))⟩, [0, 1, 2, 3, 4, 5, 6, 7, 8, 9, 10, 11, 12, 13, 14, 15, 16, 17, 18, 19], false, 0, 0⟩,
      ⟨⟨some 15, none, .prim (.mov (.tmp 64))⟩, [0, 1, 2, 3, 4, 5, 6, 7, 8, 9, 10, 11, 12, 13, 14, 15, 16, 17, 18, 19, 20], false, 0, 0⟩])
    (.seq (.ops [⟨some 65, none, .prim (.mov (.tmp 8))⟩,
      ⟨some 66, none, .call (.func 36) [(.tmp 65), (.const (Go.Value.int Go.IntKind.i64 (-2)))]⟩,
      ⟨some 67, none, .prim (.mov (.tmp 8))⟩,
      ⟨some 68, none, .call (.func 36) [(.tmp 67), (.const (Go.Value.int Go.IntKind.i64 (-13)))]⟩,
      ⟨some 69, none, .prim (.bin false .xor (.tmp 66) (.tmp 68))⟩,
      ⟨some 70, none, .prim (.mov (.tmp 8))⟩,
      ⟨some 71, none, .call (.func 36) [(.tmp 70), (.const (Go.Value.int Go.IntKind.i64 (-22)))]⟩,
      ⟨some 72, none, .prim (.bin false .xor (.tmp 69) (.tmp 71))⟩,
      ⟨some 14, none, .prim (.mov (.tmp 72))⟩])
    (.seq (.ops [⟨some 73, none, .prim (.mov (.tmp 14))⟩,
      ⟨some 74, none, .prim (.mov (.tmp 8))⟩,
      ⟨some 75, none, .prim (.mov (.tmp 9))⟩,
      ⟨some 76, none, .prim (.bin false .and (.tmp 74) (.tmp 75))⟩,
      ⟨some 77, none, .prim (.mov (.tmp 8))⟩,
      ⟨some 78, none, .prim (.mov (.tmp 10))⟩,
      ⟨some 79, none, .prim (.bin false .and (.tmp 77) (.tmp 78))⟩,
      ⟨some 80, none, .prim (.bin false .xor (.tmp 76) (.tmp 79))⟩,
      ⟨some 81, none, .prim (.mov (.tmp 9))⟩,
      ⟨some 82, none, .prim (.mov (.tmp 10))⟩,
      ⟨some 83, none, .prim (.bin false .and (.tmp 81) (.tmp 82))⟩,
      ⟨some 84, none, .prim (.bin false .xor (.tmp 80) (.tmp 83))⟩,
      ⟨some 85, none, .prim (.bin false .add (.tmp 73) (.tmp 84))⟩,
      ⟨some 16, none, .prim (.mov (.tmp 85))⟩])
    (.ops [⟨some 86, none, .prim (.mov (.tmp 15))⟩,
      ⟨some 87, none, .prim (.mov (.tmp 16))⟩,
      ⟨some 88, none, .prim (.bin false .add (.tmp 86) (.tmp 87))⟩,
      ⟨some 89, none, .prim (.mov (.tmp 8))⟩,
      ⟨some 90, none, .prim (.mov (.tmp 9))⟩,
      ⟨some 91, none, .prim (.mov (.tmp 10))⟩,
      ⟨some 92, none, .prim (.iadra 1 8 (.tmp 6) (.const (Go.Value.int Go.IntKind.i64 3)))⟩,
      ⟨some 93, none, .prim (.load 1 false (.tmp 92))⟩,
      ⟨some 94, none, .prim (.mov (.tmp 15))⟩,
      ⟨some 95, none, .prim (.bin false .add (.tmp 93) (.tmp 94))⟩,
      ⟨some 96, none, .prim (.mov (.tmp 11))⟩,
      ⟨some 97, none, .prim (.mov (.tmp 12))⟩,
      ⟨some 98, none, .prim (.mov (.tmp 13))⟩,
      ⟨some 99, none, .prim (.build [.pl (.int .u32 0), .pl (.int .u32 0), .pl (.int .u32 0), .pl (.int .u32 0), .pl (.int .u32 0), .pl (.int .u32 0), .pl (.int .u32 0), .pl (.int .u32 0)] [(0, 1, (.tmp 88)), (1, 1, (.tmp 89)), (2, 1, (.tmp 90)), (3, 1, (.tmp 91)), (4, 1, (.tmp 95)), (5, 1, (.tmp 96)), (6, 1, (.tmp 97)), (7, 1, (.tmp 98))])⟩,
      ⟨none, none, .prim (.store 8 (.tmp 6) (.tmp 99))⟩]))))))))
    (.ops [⟨some 100, none, .prim (.bin false .add (.tmp 21) (.const (Go.Value.int Go.IntKind.i64 1)))⟩,
      ⟨some 21, none, .prim (.mov (.tmp 100))⟩])))))))
    (.seq (.seq (.ops [⟨some 101, none, .prim (.mov (.const (Go.Value.int Go.IntKind.i64 0)))⟩])
    (.block 2 (.loop [0, 1, 3, 5, 7, 8, 9, 10, 11, 12, 13, 14, 15, 16, 17, 18, 19, 20, 21, 22, 23, 24, 25, 26, 27, 28, 29, 30, 31, 32, 33, 34, 35, 36, 37, 38, 39, 40, 41, 42, 43, 44, 45, 46, 47, 48, 49, 50, 51, 52, 53, 54, 55, 56, 57, 58, 59, 60, 61, 62, 63, 64, 65, 66, 67, 68, 69, 70, 71, 72, 73, 74, 75, 76, 77, 78, 79, 80, 81, 82, 83, 84, 85, 86, 87, 88, 89, 90, 91, 92, 93, 94, 95, 96, 97, 98, 99, 100, 102, 103, 104, 105, 106, 107, 108, 109, 110, 111, 112, 113] (.seq (.ops [⟨some 102, none, .prim (.bin false .lss (.tmp 101) (.const (Go.Value.int Go.IntKind.i64 8)))⟩])
    (.seq (.cond (.tmp 102)
    .skip
    (.exit 2))
    (.seq (.block 3 (.seq (.ops [⟨some 103, none, .prim (.mov (.tmp 101))⟩,
      ⟨some 17, none, .prim (.mov (.tmp 103))⟩])
    (.draw [⟨⟨some 104, none, .prim (.mov (.tmp 17))⟩, [], false, 0, 0⟩,
      ⟨⟨some 105, none, .prim (.iadra 1 8 (.tmp 6) (.tmp 104))⟩, [0], false, 0, 0⟩,
      ⟨⟨some 106, none, .prim (.load 1 false (.tmp 105))⟩, [0, 1], false, 0, 0⟩,
      ⟨⟨some 107, none, .prim (.mov (.tmp 17))⟩, [], false, 0, 0⟩,
      ⟨⟨some 108, none, .prim (.iadra 1 8 (.tmp 2) (.tmp 107))⟩, [3], false, 0, 0⟩,
      ⟨⟨some 109, none, .prim (.load 1 false (.tmp 108))⟩, [3, 4], false, 0, 0⟩,
      ⟨⟨some 110, none, .prim (.bin false .add (.tmp 106) (.tmp 109))⟩, [0, 1, 2, 3, 4, 5], false, 0, 0⟩,
      ⟨⟨some 111, none, .prim (.iadra 1 8 (.tmp 6) (.tmp 104))⟩, [0, 1, 2, 3, 4, 5, 6], false, 0, 0⟩,
      ⟨⟨none, none, .prim (.store 1 (.tmp 111) (.tmp 110))⟩, [0, 1, 2, 3, 4, 5, 6, 7], true, 0, 0⟩])))
    (.ops [⟨some 112, none, .prim (.bin false .add (.tmp 101) (.const (Go.Value.int Go.IntKind.i64 1)))⟩,
      ⟨some 101, none, .prim (.mov (.tmp 112))⟩])))))))
    (.seq (.ops [⟨some 113, none, .prim (.load 8 true (.tmp 6))⟩,
      ⟨none, none, .prim (.store 8 (.tmp 4) (.tmp 113))⟩])
    .ret))))))
def o32 : List Tmp := [4, 6]
def r32 : List RV := [.cell 4 8 true]
theorem t32 : Text Tryz.prog 32 o32 c32 r32 114 := ⟨⟨Tryz.f32, _, by kernel_rfl, by kernel_rfl, rfl, by kernel_rfl, by kernel_rfl, rfl⟩, by kernel_rfl⟩

/-- sordine/req.ReadBody -/
def c33 : ACode :=
  (.seq (.ops [⟨some 2, none, .prim (.allocm [.pl (.string .empty), .pl (.int .i64 0), .pl (.int .i64 0), .pl (.string .empty), .pl (.int .u64 0), .pl (.int .u64 0), .pl (.int .i64 0), .nils, .pl (.bool false), .pl (.float .f64 0), .pl (.float .f64 0), .nils, .nils, .pl (.bool false), .pl (.float .f64 0), .pl (.float .f64 0), .nils, .nils, .pl (.float .f64 0)])⟩,
      ⟨some 3, none, .prim (.mov (.const (Go.Value.bool Bool.false)))⟩])
    (.seq (.ops [⟨some 5, none, .prim (.mov (.tmp 0))⟩,
      ⟨some 6, none, .call (.func 37) [(.tmp 5)]⟩,
      ⟨some 4, none, .prim (.mov (.tmp 6))⟩])
    (.seq (.ops [⟨some 7, none, .prim (.mov (.tmp 4))⟩,
      ⟨some 8, none, .call (.func 39) [(.tmp 7)]⟩,
      ⟨some 9, none, .prim (.mov (.tmp 4))⟩,
      ⟨some 10, none, .prim (.mov (.tmp 0))⟩,
      ⟨some 11, none, .call (.func 38) [(.tmp 8), (.tmp 9), (.tmp 10)]⟩,
      ⟨some 12, none, .prim (.extr 0 (.tmp 11))⟩,
      ⟨some 13, none, .prim (.extr 1 (.tmp 11))⟩,
      ⟨none, none, .prim (.store 19 (.tmp 2) (.tmp 12))⟩,
      ⟨some 3, none, .prim (.mov (.tmp 13))⟩])
    .ret)))
def o33 : List Tmp := [2]
def r33 : List RV := [.cell 2 19 true, .tmp 3]
theorem t33 : Text Tryz.prog 33 o33 c33 r33 14 := ⟨⟨Tryz.f33, _, by kernel_rfl, by kernel_rfl, rfl, by kernel_rfl, by kernel_rfl, rfl⟩, by kernel_rfl⟩

/-- sordine/sordineref1.turned -/
def c34 : ACode :=
  (.seq (.ops [⟨some 4, none, .prim (.mov (.const (Go.Value.int Go.IntKind.u32 0)))⟩])
    (.seq (.ops [⟨some 5, none, .prim (.mov (.tmp 0))⟩,
      ⟨some 6, none, .prim (.mov (.tmp 1))⟩,
      ⟨some 7, none, .prim (.bin false .shr (.tmp 5) (.tmp 6))⟩,
      ⟨some 8, none, .prim (.mov (.tmp 0))⟩,
      ⟨some 9, none, .prim (.mov (.tmp 1))⟩,
      ⟨some 10, none, .prim (.bin false .sub (.const (Go.Value.int Go.IntKind.u64 32)) (.tmp 9))⟩,
      ⟨some 11, none, .prim (.bin false .shl (.tmp 8) (.tmp 10))⟩,
      ⟨some 12, none, .prim (.bin false .or (.tmp 7) (.tmp 11))⟩,
      ⟨some 4, none, .prim (.mov (.tmp 12))⟩])
    .ret))
def o34 : List Tmp := []
def r34 : List RV := [.tmp 4]
theorem t34 : Text Tryz.prog 34 o34 c34 r34 13 := ⟨⟨Tryz.f34, _, by kernel_rfl, by kernel_rfl, rfl, by kernel_rfl, by kernel_rfl, rfl⟩, by kernel_rfl⟩

/-- sordine/sha.spread -/
def c35 : ACode :=
  (.seq (.ops [⟨some 1, none, .prim (.boxr (.tmp 0))⟩,
      ⟨some 2, none, .prim (.allocm [.pl (.int .u32 0), .pl (.int .u32 0), .pl (.int .u32 0), .pl (.int .u32 0), .pl (.int .u32 0), .pl (.int .u32 0), .pl (.int .u32 0), .pl (.int .u32 0), .pl (.int .u32 0), .pl (.int .u32 0), .pl (.int .u32 0), .pl (.int .u32 0), .pl (.int .u32 0), .pl (.int .u32 0), .pl (.int .u32 0), .pl (.int .u32 0), .pl (.int .u32 0), .pl (.int .u32 0), .pl (.int .u32 0), .pl (.int .u32 0), .pl (.int .u32 0), .pl (.int .u32 0), .pl (.int .u32 0), .pl (.int .u32 0), .pl (.int .u32 0), .pl (.int .u32 0), .pl (.int .u32 0), .pl (.int .u32 0), .pl (.int .u32 0), .pl (.int .u32 0), .pl (.int .u32 0), .pl (.int .u32 0), .pl (.int .u32 0), .pl (.int .u32 0), .pl (.int .u32 0), .pl (.int .u32 0), .pl (.int .u32 0), .pl (.int .u32 0), .pl (.int .u32 0), .pl (.int .u32 0), .pl (.int .u32 0), .pl (.int .u32 0), .pl (.int .u32 0), .pl (.int .u32 0), .pl (.int .u32 0), .pl (.int .u32 0), .pl (.int .u32 0), .pl (.int .u32 0), .pl (.int .u32 0), .pl (.int .u32 0), .pl (.int .u32 0), .pl (.int .u32 0), .pl (.int .u32 0), .pl (.int .u32 0), .pl (.int .u32 0), .pl (.int .u32 0), .pl (.int .u32 0), .pl (.int .u32 0), .pl (.int .u32 0), .pl (.int .u32 0), .pl (.int .u32 0), .pl (.int .u32 0), .pl (.int .u32 0), .pl (.int .u32 0)])⟩])
    (.seq (.ops [⟨some 3, none, .prim (.allocm [.pl (.int .u32 0), .pl (.int .u32 0), .pl (.int .u32 0), .pl (.int .u32 0), .pl (.int .u32 0), .pl (.int .u32 0), .pl (.int .u32 0), .pl (.int .u32 0), .pl (.int .u32 0), .pl (.int .u32 0), .pl (.int .u32 0), .pl (.int .u32 0), .pl (.int .u32 0), .pl (.int .u32 0), .pl (.int .u32 0), .pl (.int .u32 0), .pl (.int .u32 0), .pl (.int .u32 0), .pl (.int .u32 0), .pl (.int .u32 0), .pl (.int .u32 0), .pl (.int .u32 0), .pl (.int .u32 0), .pl (.int .u32 0), .pl (.int .u32 0), .pl (.int .u32 0), .pl (.int .u32 0), .pl (.int .u32 0), .pl (.int .u32 0), .pl (.int .u32 0), .pl (.int .u32 0), .pl (.int .u32 0), .pl (.int .u32 0), .pl (.int .u32 0), .pl (.int .u32 0), .pl (.int .u32 0), .pl (.int .u32 0), .pl (.int .u32 0), .pl (.int .u32 0), .pl (.int .u32 0), .pl (.int .u32 0), .pl (.int .u32 0), .pl (.int .u32 0), .pl (.int .u32 0), .pl (.int .u32 0), .pl (.int .u32 0), .pl (.int .u32 0), .pl (.int .u32 0), .pl (.int .u32 0), .pl (.int .u32 0), .pl (.int .u32 0), .pl (.int .u32 0), .pl (.int .u32 0), .pl (.int .u32 0), .pl (.int .u32 0), .pl (.int .u32 0), .pl (.int .u32 0), .pl (.int .u32 0), .pl (.int .u32 0), .pl (.int .u32 0), .pl (.int .u32 0), .pl (.int .u32 0), .pl (.int .u32 0), .pl (.int .u32 0)])⟩])
    (.seq (.seq (.ops [⟨some 10, none, .prim (.mov (.const (Go.Value.int Go.IntKind.i64 0)))⟩])
    (.block 0 (.loop [0, 4, 5, 6, 7, 8, 9, 11, 12, 13, 14, 15, 16, 17, 18, 19, 20, 21, 22, 23, 24, 25, 26, 27, 28, 29, 30, 31, 32, 33, 34, 35, 36, 37, 38, 39, 40, 41, 42, 43, 44, 45, 46, 47, 48, 49, 50, 51, 52, 53, 54, 55, 56, 57, 58, 59, 60, 61, 62, 63, 64, 65, 66, 67, 68, 69, 70, 71, 72, 73, 74, 75, 76, 77, 78, 79, 80, 81, 82, 83, 84, 85, 86, 87, 88] (.seq (.ops [⟨some 11, none, .prim (.bin false .lss (.tmp 10) (.const (Go.Value.int Go.IntKind.i64 16)))⟩])
    (.seq (.cond (.tmp 11)
    .skip
    (.exit 0))
    (.seq (.block 1 (.seq (.ops [⟨some 12, none, .prim (.mov (.tmp 10))⟩,
      ⟨some 4, none, .prim (.mov (.tmp 12))⟩])
    (.draw [⟨⟨some 13, none, .prim (.mov (.tmp 4))⟩, [], false, 0, 0⟩,
      ⟨⟨some 14, none, .prim (.mov (.tmp 4))⟩, [], false, 0, 0⟩,
      ⟨⟨some 15, none, .prim (.bin false .mul (.const (Go.Value.int Go.IntKind.i64 4)) (.tmp 14))⟩, [1], false, 0, 0⟩,
      ⟨⟨some 16, none, .prim (.iadra 1 64 (.tmp 1) (.tmp 15))⟩, [1, 2], false, 0, 0⟩,
      ⟨⟨some 17, none, .prim (.load 1 false (.tmp 16))⟩, [1, 2, 3], false, 0, 0⟩,
      ⟨⟨some 18, none, .prim (.convi .u32 (.tmp 17))⟩, [1, 2, 3, 4], false, 0, 0⟩,
      ⟨⟨some 19, none, .prim (.bin false .shl (.tmp 18) (.const (Go.Value.int Go.IntKind.u64 24)))⟩, [1, 2, 3, 4, 5], false, 0, 0⟩,
      ⟨⟨some 20, none, .prim (.mov (.tmp 4))⟩, [], false, 0, 0⟩,
      ⟨⟨some 21, none, .prim (.bin false .mul (.const (Go.Value.int Go.IntKind.i64 4)) (.tmp 20))⟩, [7], false, 0, 0⟩,
      ⟨⟨some 22, none, .prim (.bin false .add (.tmp 21) (.const (Go.Value.int Go.IntKind.i64 1)))⟩, [7, 8], false, 0, 0⟩,
      ⟨⟨some 23, none, .prim (.iadra 1 64 (.tmp 1) (.tmp 22))⟩, [7, 8, 9], false, 0, 0⟩,
      ⟨⟨some 24, none, .prim (.load 1 false (.tmp 23))⟩, [7, 8, 9, 10], false, 0, 0⟩,
      ⟨⟨some 25, none, .prim (.convi .u32 (.tmp 24))⟩, [7, 8, 9, 10, 11], false, 0, 0⟩,
      ⟨⟨some 26, none, .prim (.bin false .shl (.tmp 25) (.const (Go.Value.int Go.IntKind.u64 16)))⟩, [7, 8, 9, 10, 11, 12], false, 0, 0⟩,
      ⟨⟨some 27, none, .prim (.bin false .or (.tmp 19) (.tmp 26))⟩, [1, 2, 3, 4, 5, 6, 7, 8, 9, 10, 11, 12, 13], false, 0, 0⟩,
      ⟨⟨some 28, none, .prim (.mov (.tmp 4))⟩, [], false, 0, 0⟩,
      ⟨⟨some 29, none, .prim (.bin false .mul (.const (Go.Value.int Go.IntKind.i64 4)) (.tmp 28))⟩, [15], false, 0, 0⟩,
      ⟨⟨some 30, none, .prim (.bin false .add (.tmp 29) (.const (Go.Value.int Go.IntKind.i64 2)))⟩, [15, 16], false, 0, 0⟩,
      ⟨⟨some 31, none, .prim (.iadra 1 64 (.tmp 1) (.tmp 30))⟩, [15, 16, 17], false, 0, 0⟩,
      ⟨⟨some 32, none, .prim (.load 1 false (.tmp 31))⟩, [15, 16, 17, 18], false, 0, 0⟩,
      ⟨⟨some 33, none, .prim (.convi .u32 (.tmp 32))⟩, [15, 16, 17, 18, 19], false, 0, 0⟩,
      ⟨⟨some 34, none, .prim (.bin false .shl (.tmp 33) (.const (Go.Value.int Go.IntKind.u64 8)))⟩, [15, 16, 17, 18, 19, 20], false, 0, 0⟩,
      ⟨⟨some 35, none, .prim (.bin false .or (.tmp 27) (.tmp 34))⟩, [1, 2, 3, 4, 5, 6, 7, 8, 9, 10, 11, 12, 13, 14, 15, 16, 17, 18, 19, 20, 21], false, 0, 0⟩,
      ⟨⟨some 36, none, .prim (.mov (.tmp 4))⟩, [], false, 0, 0⟩,
      ⟨⟨some 37, none, .prim (.bin false .mul (.const (Go.Value.int Go.IntKind.i64 4)) (.tmp 36))⟩, [23], false, 0, 0⟩,
      ⟨⟨some 38, none, .prim (.bin false .add (.tmp 37) (.const (Go.Value.int Go.IntKind.i64 3)))⟩, [23, 24], false, 0, 0⟩,
      ⟨⟨some 39, none, .prim (.iadra 1 64 (.tmp 1) (.tmp 38))⟩, [23, 24, 25], false, 0, 0⟩,
      ⟨⟨some 40, none, .prim (.load 1 false (.tmp 39))⟩, [23, 24, 25, 26], false, 0, 0⟩,
      ⟨⟨some 41, none, .prim (.convi .u32 (.tmp 40))⟩, [23, 24, 25, 26, 27], false, 0, 0⟩,
      ⟨⟨some 42, none, .prim (.bin false .or (.tmp 35) (.tmp 41))⟩, [1, 2, 3, 4, 5, 6, 7, 8, 9, 10, 11, 12, 13, 14, 15, 16, 17, 18, 19, 20, 21, 22, 23, 24, 25, 26, 27, 28], false, 0, 0⟩,
      ⟨⟨some 43, none, .prim (.iadra 1 64 (.tmp 3) (.tmp 13))⟩, [0, 1, 2, 3, 4, 5, 6, 7, 8, 9, 10, 11, 12, 13, 14, 15, 16, 17, 18, 19, 20, 21, 22, 23, 24, 25, 26, 27, 28, 29], false, 0, 0⟩,
      ⟨⟨none, none, .prim (.store 1 (.tmp 43) (.tmp 42))⟩, [0, 1, 2, 3, 4, 5, 6, 7, 8, 9, 10, 11, 12, 13, 14, 15, 16, 17, 18, 19, 20, 21, 22, 23, 24, 25, 26, 27, 28, 29, 30], true, 0, 0⟩])))
    (.ops [⟨some 44, none, .prim (.bin false .add (.tmp 10) (.const (Go.Value.int Go.IntKind.i64 1)))⟩,
      ⟨some 10, none, .prim (.mov (.tmp 44))⟩])))))))
    (.seq (.seq (.ops [⟨some 5, none, .prim (.mov (.const (Go.Value.int Go.IntKind.i64 16)))⟩])
    (.block 2 (.loop [0, 1, 4, 6, 7, 8, 9, 10, 11, 12, 13, 14, 15, 16, 17, 18, 19, 20, 21, 22, 23, 24, 25, 26, 27, 28, 29, 30, 31, 32, 33, 34, 35, 36, 37, 38, 39, 40, 41, 42, 43, 44, 45, 46, 47, 48, 49, 50, 51, 52, 53, 54, 55, 56, 57, 58, 59, 60, 61, 62, 63, 64, 65, 66, 67, 68, 69, 70, 71, 72, 73, 74, 75, 76, 77, 78, 79, 80, 81, 82, 83, 84, 85, 86, 87, 88] (.seq (.seq (.ops [⟨some 45, none, .prim (.mov (.tmp 5))⟩,
      ⟨some 46, none, .prim (.bin false .lss (.tmp 45) (.const (Go.Value.int Go.IntKind.i64 64)))⟩])
    (.cond (.tmp 46)
    .skip
    (.exit 2)))
    (.seq (.block 3 (.seq (.draw [⟨⟨some 49, none, .prim (.mov (.tmp 5))⟩, [], false, 0, 0⟩,
      ⟨⟨some 50, none, .prim (.bin false .sub (.tmp 49) (.const (Go.Value.int Go.IntKind.i64 15)))⟩, [0], false, 0, 0⟩,
      ⟨⟨some 51, none, .prim (.iadra 1 64 (.tmp 3) (.tmp 50))⟩, [0, 1], false, 0, 0⟩,
      ⟨⟨some 52, none, .prim (.load 1 false (.tmp 51))⟩, [0, 1, 2], false, 0, 0⟩,
      ⟨⟨some 53, none, .prim (.mov (.tmp 5))⟩, [], false, 0, 0⟩,
      ⟨⟨some 54, none, .prim (.bin false .sub (.tmp 53) (.const (Go.Value.int Go.IntKind.i64 2)))⟩, [4], false, 0, 0⟩,
      ⟨⟨some 55, none, .prim (.iadra 1 64 (.tmp 3) (.tmp 54))⟩, [4, 5], false, 0, 0⟩,
      ⟨⟨some 56, none, .prim (.load 1 false (.tmp 55))⟩, [4, 5, 6], false, 0, 0⟩,
      ⟨⟨some 6, none, .prim (.mov (.tmp 52))⟩, [0, 1, 2, 3], false, 0, 0⟩,
      ⟨⟨some 7, none, .prim (.mov (.tmp 56))⟩, [0, 1, 2, 3, 4, 5, 6, 7, 8], false, 0, 0⟩])
    (.seq (.ops [⟨some 57, none, .prim (.mov (.tmp 6))⟩,
      ⟨some 58, none, .call (.func 36) [(.tmp 57), (.const (Go.Value.int Go.IntKind.i64 (-7)))]⟩,
      ⟨some 59, none, .prim (.mov (.tmp 6))⟩,
      ⟨some 60, none, .call (.func 36) [(.tmp 59), (.const (Go.Value.int Go.IntKind.i64 (-18)))]⟩,
      ⟨some 61, none, .prim (.bin false .xor (.tmp 58) (.tmp 60))⟩,
      ⟨some 62, none, .prim (.mov (.tmp 6))⟩,
      ⟨some 63, none, .prim (.bin false .shr (.tmp 62) (.const (Go.Value.int Go.IntKind.u64 3)))⟩,
      ⟨some 64, none, .prim (.bin false .xor (.tmp 61) (.tmp 63))⟩,
      ⟨some 8, none, .prim (.mov (.tmp 64))⟩])
    (.seq (.ops [⟨some 65, none, .prim (.mov (.tmp 7))⟩,
      ⟨some 66, none, .call (.func 36) [(.tmp 65), (.const (Go.Value.int Go.IntKind.i64 (-17)))]⟩,
      ⟨some 67, none, .prim (.mov (.tmp 7))⟩,
      ⟨some 68, none, .call (.func 36) [(.tmp 67), (.const (Go.Value.int Go.IntKind.i64 (-19)))]⟩,
      ⟨some 69, none, .prim (.bin false .xor (.tmp 66) (.tmp 68))⟩,
      ⟨some 70, none, .prim (.mov (.tmp 7))⟩,
      ⟨some 71, none, .prim (.bin false .shr (.tmp 70) (.const (Go.Value.int Go.IntKind.u64 10)))⟩,
      ⟨some 72, none, .prim (.bin false .xor (.tmp 69) (.tmp 71))⟩,
      ⟨some 9, none, .prim (.mov (.tmp 72))⟩])
    (.draw [⟨⟨some 73, none, .prim (.mov (.tmp 5))⟩, [], false, 0, 0⟩,
      ⟨⟨some 74, none, .prim (.mov (.tmp 5))⟩, [], false, 0, 0⟩,
      ⟨⟨some 75, none, .prim (.bin false .sub (.tmp 74) (.const (Go.Value.int Go.IntKind.i64 16)))⟩, [1], false, 0, 0⟩,
      ⟨⟨some 76, none, .prim (.iadra 1 64 (.tmp 3) (.tmp 75))⟩, [1, 2], false, 0, 0⟩,
      ⟨⟨some 77, none, .prim (.load 1 false (.tmp 76))⟩, [1, 2, 3], false, 0, 0⟩,
      ⟨⟨some 78, none, .prim (.mov (.tmp 8))⟩, [], false, 0, 0⟩,
      ⟨⟨some 79, none, .prim (.bin false .add (.tmp 77) (.tmp 78))⟩, [1, 2, 3, 4, 5], false, 0, 0⟩,
      ⟨⟨some 80, none, .prim (.mov (.tmp 5))⟩, [], false, 0, 0⟩,
      ⟨⟨some 81, none, .prim (.bin false .sub (.tmp 80) (.const (Go.Value.int Go.IntKind.i64 7)))⟩, [7], false, 0, 0⟩,
      ⟨⟨some 82, none, .prim (.iadra 1 64 (.tmp 3) (.tmp 81))⟩, [7, 8], false, 0, 0⟩,
      ⟨⟨some 83, none, .prim (.load 1 false (.tmp 82))⟩, [7, 8, 9], false, 0, 0⟩,
      ⟨⟨some 84, none, .prim (.bin false .add (.tmp 79) (.tmp 83))⟩, [1, 2, 3, 4, 5, 6, 7, 8, 9, 10], false, 0, 0⟩,
      ⟨⟨some 85, none, .prim (.mov (.tmp 9))⟩, [], false, 0, 0⟩,
      ⟨⟨some 86, none, .prim (.bin false .add (.tmp 84) (.tmp 85))⟩, [1, 2, 3, 4, 5, 6, 7, 8, 9, 10, 11, 12], false, 0, 0⟩,
      ⟨⟨some 87, none, .prim (.iadra 1 64 (.tmp 3) (.tmp 73))⟩, [0, 1, 2, 3, 4, 5, 6, 7, 8, 9, 10, 11, 12, 13], false, 0, 0⟩,
      ⟨⟨none, none, .prim (.store 1 (.tmp 87) (.tmp 86))⟩, [0, 1, 2, 3, 4, 5, 6, 7, 8, 9, 10, 11, 12, 13, 14], true, 0, 0⟩])))))
    (.ops [⟨some 47, none, .prim (.mov (.tmp 5))⟩,
      ⟨some 48, none, .prim (.bin false .add (.tmp 47) (.const (Go.Value.int Go.IntKind.i64 1)))⟩,
      ⟨some 5, none, .prim (.mov (.tmp 48))⟩]))))))
    (.seq (.ops [⟨some 88, none, .prim (.load 64 true (.tmp 3))⟩,
      ⟨none, none, .prim (.store 64 (.tmp 2) (.tmp 88))⟩])
    .ret)))))
def o35 : List Tmp := [2, 3]
def r35 : List RV := [.cell 2 64 true]
theorem t35 : Text Tryz.prog 35 o35 c35 r35 89 := ⟨⟨Tryz.f35, _, by kernel_rfl, by kernel_rfl, rfl, by kernel_rfl, by kernel_rfl, rfl⟩, by kernel_rfl⟩

/-- math/bits.RotateLeft32 -/
def c36 : ACode :=
  (.seq (.ops [⟨some 4, none, .prim (.mov (.const (Go.Value.int Go.IntKind.u32 0)))⟩])
    (.seq (.ops [⟨some 6, none, .prim (.mov (.tmp 1))⟩,
      ⟨some 7, none, .prim (.convi .u64 (.tmp 6))⟩,
      ⟨some 8, none, .prim (.bin false .and (.tmp 7) (.const (Go.Value.int Go.IntKind.u64 31)))⟩,
      ⟨some 5, none, .prim (.mov (.tmp 8))⟩])
    (.seq (.ops [⟨some 9, none, .prim (.mov (.tmp 0))⟩,
      ⟨some 10, none, .prim (.mov (.tmp 5))⟩,
      ⟨some 11, none, .prim (.bin false .shl (.tmp 9) (.tmp 10))⟩,
      ⟨some 12, none, .prim (.mov (.tmp 0))⟩,
      ⟨some 13, none, .prim (.mov (.tmp 5))⟩,
      ⟨some 14, none, .prim (.bin false .sub (.const (Go.Value.int Go.IntKind.u64 32)) (.tmp 13))⟩,
      ⟨some 15, none, .prim (.bin false .shr (.tmp 12) (.tmp 14))⟩,
      ⟨some 16, none, .prim (.bin false .or (.tmp 11) (.tmp 15))⟩,
      ⟨some 4, none, .prim (.mov (.tmp 16))⟩])
    .ret)))
def o36 : List Tmp := []
def r36 : List RV := [.tmp 4]
theorem t36 : Text Tryz.prog 36 o36 c36 r36 17 := ⟨⟨Tryz.f36, _, by kernel_rfl, by kernel_rfl, rfl, by kernel_rfl, by kernel_rfl, rfl⟩, by kernel_rfl⟩

/-- sordine/peel.New -/
def c37 : ACode :=
  (.seq (.ops [⟨some 2, none, .prim (.mov (.const (Go.Value.pointer Option.none)))⟩])
    (.seq (.ops [⟨some 3, none, .prim (.mov (.tmp 0))⟩,
      ⟨some 4, none, .prim (.build [.nils, .pl (.int .i64 0), .pl (.bool false)] [(0, 1, (.tmp 3))])⟩,
      ⟨some 5, none, .prim (.boxm (.tmp 4))⟩,
      ⟨some 2, none, .prim (.mov (.tmp 5))⟩])
    .ret))
def o37 : List Tmp := [5]
def r37 : List RV := [.tmp 2]
theorem t37 : Text Tryz.prog 37 o37 c37 r37 6 := ⟨⟨Tryz.f37, _, by kernel_rfl, by kernel_rfl, rfl, by kernel_rfl, by kernel_rfl, rfl⟩, by kernel_rfl⟩

/-- sordine/req.whole -/
def c38 : ACode :=
  (.seq (.ops [⟨some 3, none, .prim (.boxr (.tmp 0))⟩,
      ⟨some 6, none, .prim (.allocm [.pl (.string .empty), .pl (.int .i64 0), .pl (.int .i64 0), .pl (.string .empty), .pl (.int .u64 0), .pl (.int .u64 0), .pl (.int .i64 0), .nils, .pl (.bool false), .pl (.float .f64 0), .pl (.float .f64 0), .nils, .nils, .pl (.bool false), .pl (.float .f64 0), .pl (.float .f64 0), .nils, .nils, .pl (.float .f64 0)])⟩,
      ⟨some 7, none, .prim (.mov (.const (Go.Value.bool Bool.false)))⟩])
    (.seq (.seq (.ops [⟨some 11, none, .prim (.mov (.tmp 1))⟩,
      ⟨some 12, none, .call (.func 40) [(.tmp 11)]⟩,
      ⟨some 10, none, .prim (.mov (.tmp 12))⟩,
      ⟨some 13, none, .prim (.extr 0 (.tmp 10))⟩,
      ⟨some 14, none, .prim (.extr 1 (.tmp 10))⟩,
      ⟨some 8, none, .prim (.mov (.tmp 13))⟩,
      ⟨some 9, none, .prim (.mov (.tmp 14))⟩])
    (.seq (.ops [⟨some 15, none, .prim (.mov (.tmp 9))⟩,
      ⟨some 16, none, .prim (.un .not (.tmp 15))⟩,
      ⟨some 17, none, .prim (.mov (.tmp 16))⟩,
      ⟨some 18, (some (17, false)), .prim (.mov (.tmp 8))⟩,
      ⟨some 19, (some (17, false)), .prim (.mov (.tmp 2))⟩,
      ⟨some 20, (some (17, false)), .prim (.lenv (.tmp 19))⟩,
      ⟨some 21, (some (17, false)), .prim (.bin false .neq (.tmp 18) (.tmp 20))⟩,
      ⟨some 22, none, .prim (.pick (.tmp 17) (.const (Go.Value.bool Bool.true)) (.tmp 21))⟩])
    (.cond (.tmp 22)
    (.seq (.ops [⟨some 23, none, .prim (.build [.pl (.string .empty), .pl (.int .i64 0), .pl (.int .i64 0), .pl (.string .empty), .pl (.int .u64 0), .pl (.int .u64 0), .pl (.int .i64 0), .nils, .pl (.bool false), .pl (.float .f64 0), .pl (.float .f64 0), .nils, .nils, .pl (.bool false), .pl (.float .f64 0), .pl (.float .f64 0), .nils, .nils, .pl (.float .f64 0)] [])⟩,
      ⟨none, none, .prim (.store 19 (.tmp 6) (.tmp 23))⟩,
      ⟨some 7, none, .prim (.mov (.const (Go.Value.bool Bool.false)))⟩])
    .ret)
    .skip)))
    (.seq (.ops [⟨some 24, none, .prim (.load 19 true (.tmp 3))⟩,
      ⟨none, none, .prim (.store 19 (.tmp 6) (.tmp 24))⟩,
      ⟨some 7, none, .prim (.mov (.const (Go.Value.bool Bool.true)))⟩])
    .ret)))
def o38 : List Tmp := [6]
def r38 : List RV := [.cell 6 19 true, .tmp 7]
theorem t38 : Text Tryz.prog 38 o38 c38 r38 25 := ⟨⟨Tryz.f38, _, by kernel_rfl, by kernel_rfl, rfl, by kernel_rfl, by kernel_rfl, rfl⟩, by kernel_rfl⟩

/-- sordine/req.read -/
def c39 : ACode :=
  (.seq (.ops [⟨some 2, none, .prim (.allocm [.pl (.string .empty), .pl (.int .i64 0), .pl (.int .i64 0), .pl (.string .empty), .pl (.int .u64 0), .pl (.int .u64 0), .pl (.int .i64 0), .nils, .pl (.bool false), .pl (.float .f64 0), .pl (.float .f64 0), .nils, .nils, .pl (.bool false), .pl (.float .f64 0), .pl (.float .f64 0), .nils, .nils, .pl (.float .f64 0)])⟩])
    (.seq (.ops [⟨some 8, none, .prim (.mov (.tmp 0))⟩,
      ⟨some 9, none, .call (.func 41) [(.tmp 8)]⟩,
      ⟨some 10, none, .prim (.convi .i64 (.tmp 9))⟩,
      ⟨some 11, none, .prim (.build [.pl (.string .empty), .pl (.int .i64 0), .pl (.int .i64 0), .pl (.string .empty), .pl (.int .u64 0), .pl (.int .u64 0), .pl (.int .i64 0), .nils, .pl (.bool false), .pl (.float .f64 0), .pl (.float .f64 0), .nils, .nils, .pl (.bool false), .pl (.float .f64 0), .pl (.float .f64 0), .nils, .nils, .pl (.float .f64 0)] [(1, 1, (.tmp 10))])⟩,
      ⟨some 3, none, .prim (.allocm [.pl (.string .empty), .pl (.int .i64 0), .pl (.int .i64 0), .pl (.string .empty), .pl (.int .u64 0), .pl (.int .u64 0), .pl (.int .i64 0), .nils, .pl (.bool false), .pl (.float .f64 0), .pl (.float .f64 0), .nils, .nils, .pl (.bool false), .pl (.float .f64 0), .pl (.float .f64 0), .nils, .nils, .pl (.float .f64 0)])⟩,
      ⟨none, none, .prim (.store 19 (.tmp 3) (.tmp 11))⟩])
    (.seq (.ops [⟨some 13, none, .prim (.fadr 1 (.tmp 3))⟩,
      ⟨some 14, none, .prim (.load 1 false (.tmp 13))⟩,
      ⟨some 15, none, .call (.func 42) [(.tmp 14)]⟩,
      ⟨some 12, none, .prim (.mov (.tmp 15))⟩,
      ⟨some 16, none, .prim (.extr 0 (.tmp 12))⟩,
      ⟨some 17, none, .prim (.extr 1 (.tmp 12))⟩,
      ⟨some 4, none, .prim (.mov (.tmp 16))⟩,
      ⟨some 5, none, .prim (.mov (.tmp 17))⟩])
    (.seq (.ops [⟨some 18, none, .prim (.mov (.tmp 0))⟩,
      ⟨some 19, none, .prim (.mov (.tmp 5))⟩,
      ⟨some 20, none, .call (.func 43) [(.tmp 18), (.tmp 19)]⟩])
    (.seq (.seq (.ops [⟨some 21, none, .prim (.mov (.tmp 4))⟩,
      ⟨some 22, none, .prim (.bin false .and (.tmp 21) (.const (Go.Value.int Go.IntKind.i64 1)))⟩,
      ⟨some 23, none, .prim (.bin false .gtr (.tmp 22) (.const (Go.Value.int Go.IntKind.i64 0)))⟩])
    (.cond (.tmp 23)
    (.ops [⟨some 24, none, .prim (.mov (.tmp 0))⟩,
      ⟨some 25, none, .call (.func 44) [(.tmp 24), (.const (Go.Value.int Go.IntKind.u64 2147483647))]⟩,
      ⟨some 26, none, .prim (.convi .i64 (.tmp 25))⟩,
      ⟨some 27, none, .prim (.fadr 2 (.tmp 3))⟩,
      ⟨none, none, .prim (.store 1 (.tmp 27) (.tmp 26))⟩])
    .skip))
    (.seq (.seq (.ops [⟨some 28, none, .prim (.mov (.tmp 4))⟩,
      ⟨some 29, none, .prim (.bin false .and (.tmp 28) (.const (Go.Value.int Go.IntKind.i64 2)))⟩,
      ⟨some 30, none, .prim (.bin false .gtr (.tmp 29) (.const (Go.Value.int Go.IntKind.i64 0)))⟩])
    (.cond (.tmp 30)
    (.ops [⟨some 31, none, .prim (.mov (.tmp 0))⟩,
      ⟨some 32, none, .call (.func 45) [(.tmp 31), (.const (Go.Value.int Go.IntKind.i64 16))]⟩,
      ⟨some 33, none, .prim (.fadr 3 (.tmp 3))⟩,
      ⟨none, none, .prim (.store 1 (.tmp 33) (.tmp 32))⟩])
    .skip))
    (.seq (.seq (.ops [⟨some 34, none, .prim (.mov (.tmp 4))⟩,
      ⟨some 35, none, .prim (.bin false .and (.tmp 34) (.const (Go.Value.int Go.IntKind.i64 4)))⟩,
      ⟨some 36, none, .prim (.bin false .gtr (.tmp 35) (.const (Go.Value.int Go.IntKind.i64 0)))⟩])
    (.cond (.tmp 36)
    (.ops [⟨some 37, none, .prim (.mov (.tmp 0))⟩,
      ⟨some 38, none, .call (.func 44) [(.tmp 37), (.const (Go.Value.int Go.IntKind.u64 1099511627776))]⟩,
      ⟨some 39, none, .prim (.mov (.tmp 0))⟩,
      ⟨some 40, none, .call (.func 44) [(.tmp 39), (.const (Go.Value.int Go.IntKind.u64 1099511627776))]⟩,
      ⟨some 41, none, .prim (.fadr 4 (.tmp 3))⟩,
      ⟨none, none, .prim (.store 1 (.tmp 41) (.tmp 38))⟩,
      ⟨some 42, none, .prim (.fadr 5 (.tmp 3))⟩,
      ⟨none, none, .prim (.store 1 (.tmp 42) (.tmp 40))⟩])
    .skip))
    (.seq (.seq (.ops [⟨some 43, none, .prim (.mov (.tmp 4))⟩,
      ⟨some 44, none, .prim (.bin false .and (.tmp 43) (.const (Go.Value.int Go.IntKind.i64 8)))⟩,
      ⟨some 45, none, .prim (.bin false .gtr (.tmp 44) (.const (Go.Value.int Go.IntKind.i64 0)))⟩])
    (.cond (.tmp 45)
    (.ops [⟨some 46, none, .prim (.mov (.tmp 0))⟩,
      ⟨some 47, none, .call (.func 41) [(.tmp 46)]⟩,
      ⟨some 48, none, .prim (.convi .i64 (.tmp 47))⟩,
      ⟨some 49, none, .prim (.fadr 6 (.tmp 3))⟩,
      ⟨none, none, .prim (.store 1 (.tmp 49) (.tmp 48))⟩])
    .skip))
    (.seq (.seq (.ops [⟨some 50, none, .prim (.mov (.tmp 4))⟩,
      ⟨some 51, none, .prim (.bin false .and (.tmp 50) (.const (Go.Value.int Go.IntKind.i64 16)))⟩,
      ⟨some 52, none, .prim (.bin false .gtr (.tmp 51) (.const (Go.Value.int Go.IntKind.i64 0)))⟩])
    (.cond (.tmp 52)
    (.ops [⟨some 53, none, .prim (.mov (.tmp 0))⟩,
      ⟨some 54, none, .call (.func 46) [(.tmp 53), (.func 47)]⟩,
      ⟨some 55, none, .prim (.fadr 7 (.tmp 3))⟩,
      ⟨none, none, .prim (.store 1 (.tmp 55) (.tmp 54))⟩])
    .skip))
    (.seq (.seq (.ops [⟨some 56, none, .prim (.mov (.tmp 4))⟩,
      ⟨some 57, none, .prim (.bin false .and (.tmp 56) (.const (Go.Value.int Go.IntKind.i64 64)))⟩,
      ⟨some 58, none, .prim (.bin false .gtr (.tmp 57) (.const (Go.Value.int Go.IntKind.i64 0)))⟩])
    (.cond (.tmp 58)
    (.ops [⟨some 59, none, .prim (.mov (.tmp 0))⟩,
      ⟨some 60, none, .call (.func 48) [(.tmp 59), (.func 49)]⟩,
      ⟨some 61, none, .prim (.fadr 8 (.tmp 3))⟩,
      ⟨none, none, .prim (.store 3 (.tmp 61) (.tmp 60))⟩])
    .skip))
    (.seq (.seq (.ops [⟨some 62, none, .prim (.mov (.tmp 4))⟩,
      ⟨some 63, none, .prim (.bin false .and (.tmp 62) (.const (Go.Value.int Go.IntKind.i64 128)))⟩,
      ⟨some 64, none, .prim (.bin false .gtr (.tmp 63) (.const (Go.Value.int Go.IntKind.i64 0)))⟩])
    (.cond (.tmp 64)
    (.ops [⟨some 65, none, .prim (.mov (.tmp 0))⟩,
      ⟨some 66, none, .call (.func 50) [(.tmp 65), (.func 51)]⟩,
      ⟨some 67, none, .prim (.fadr 11 (.tmp 3))⟩,
      ⟨none, none, .prim (.store 6 (.tmp 67) (.tmp 66))⟩])
    .skip))
    (.seq (.seq (.ops [⟨some 68, none, .prim (.mov (.tmp 4))⟩,
      ⟨some 69, none, .prim (.bin false .and (.tmp 68) (.const (Go.Value.int Go.IntKind.i64 256)))⟩,
      ⟨some 70, none, .prim (.bin false .gtr (.tmp 69) (.const (Go.Value.int Go.IntKind.i64 0)))⟩])
    (.cond (.tmp 70)
    (.ops [⟨some 71, none, .prim (.mov (.tmp 0))⟩,
      ⟨some 72, none, .call (.func 52) [(.tmp 71), (.func 53)]⟩,
      ⟨some 73, none, .prim (.fadr 17 (.tmp 3))⟩,
      ⟨none, none, .prim (.store 1 (.tmp 73) (.tmp 72))⟩])
    .skip))
    (.seq (.seq (.ops [⟨some 74, none, .prim (.mov (.tmp 4))⟩,
      ⟨some 75, none, .prim (.bin false .and (.tmp 74) (.const (Go.Value.int Go.IntKind.i64 512)))⟩,
      ⟨some 76, none, .prim (.bin false .gtr (.tmp 75) (.const (Go.Value.int Go.IntKind.i64 0)))⟩])
    (.cond (.tmp 76)
    (.seq (.ops [⟨some 78, none, .prim (.mov (.tmp 0))⟩,
      ⟨some 79, none, .call (.func 55) [(.tmp 78)]⟩,
      ⟨some 80, none, .call (.func 54) [(.tmp 79)]⟩,
      ⟨some 77, none, .prim (.mov (.tmp 80))⟩,
      ⟨some 81, none, .prim (.extr 0 (.tmp 77))⟩,
      ⟨some 82, none, .prim (.extr 1 (.tmp 77))⟩,
      ⟨some 6, none, .prim (.mov (.tmp 81))⟩,
      ⟨some 7, none, .prim (.mov (.tmp 82))⟩])
    (.seq (.ops [⟨some 83, none, .prim (.mov (.tmp 0))⟩,
      ⟨some 84, none, .prim (.mov (.tmp 7))⟩,
      ⟨some 85, none, .call (.func 43) [(.tmp 83), (.tmp 84)]⟩])
    (.ops [⟨some 86, none, .prim (.mov (.tmp 6))⟩,
      ⟨some 87, none, .prim (.fadr 18 (.tmp 3))⟩,
      ⟨none, none, .prim (.store 1 (.tmp 87) (.tmp 86))⟩])))
    .skip))
    (.seq (.ops [⟨some 88, none, .prim (.mov (.tmp 0))⟩,
      ⟨some 89, none, .prim (.load 19 true (.tmp 3))⟩,
      ⟨some 90, none, .call (.func 56) [(.tmp 89)]⟩,
      ⟨some 91, none, .call (.func 43) [(.tmp 88), (.tmp 90)]⟩])
    (.seq (.ops [⟨some 92, none, .prim (.load 19 true (.tmp 3))⟩,
      ⟨none, none, .prim (.store 19 (.tmp 2) (.tmp 92))⟩])
    .ret)))))))))))))))
def o39 : List Tmp := [2, 3]
def r39 : List RV := [.cell 2 19 true]
theorem t39 : Text Tryz.prog 39 o39 c39 r39 93 := ⟨⟨Tryz.f39, _, by kernel_rfl, by kernel_rfl, rfl, by kernel_rfl, by kernel_rfl, rfl⟩, by kernel_rfl⟩

/-- (*sordine/peel.Reader).End -/
def c40 : ACode :=
  (.seq (.ops [⟨some 2, none, .prim (.mov (.const (Go.Value.int Go.IntKind.i64 0)))⟩,
      ⟨some 3, none, .prim (.mov (.const (Go.Value.bool Bool.false)))⟩])
    (.seq (.seq (.ops [⟨some 4, none, .prim (.mov (.tmp 0))⟩,
      ⟨some 5, none, .prim (.nilc (.tmp 4))⟩,
      ⟨some 6, none, .prim (.fadr 2 (.tmp 5))⟩,
      ⟨some 7, none, .prim (.load 1 false (.tmp 6))⟩])
    (.cond (.tmp 7)
    (.seq (.ops [⟨some 2, none, .prim (.mov (.const (Go.Value.int Go.IntKind.i64 0)))⟩,
      ⟨some 3, none, .prim (.mov (.const (Go.Value.bool Bool.false)))⟩])
    .ret)
    .skip))
    (.seq (.ops [⟨some 8, none, .prim (.mov (.tmp 0))⟩,
      ⟨some 9, none, .prim (.nilc (.tmp 8))⟩,
      ⟨some 10, none, .prim (.fadr 1 (.tmp 9))⟩,
      ⟨some 11, none, .prim (.load 1 false (.tmp 10))⟩,
      ⟨some 2, none, .prim (.mov (.tmp 11))⟩,
      ⟨some 3, none, .prim (.mov (.const (Go.Value.bool Bool.true)))⟩])
    .ret)))
def o40 : List Tmp := []
def r40 : List RV := [.tmp 2, .tmp 3]
theorem t40 : Text Tryz.prog 40 o40 c40 r40 12 := ⟨⟨Tryz.f40, _, by kernel_rfl, by kernel_rfl, rfl, by kernel_rfl, by kernel_rfl, rfl⟩, by kernel_rfl⟩

/-- (*sordine/peel.Reader).Byte -/
def c41 : ACode :=
  (.seq (.ops [⟨some 2, none, .prim (.mov (.const (Go.Value.int Go.IntKind.u8 0)))⟩])
    (.seq (.ops [⟨some 4, none, .prim (.mov (.tmp 0))⟩,
      ⟨some 5, none, .call (.func 57) [(.tmp 4)]⟩,
      ⟨some 3, none, .prim (.mov (.tmp 5))⟩])
    (.seq (.seq (.ops [⟨some 6, none, .prim (.mov (.tmp 0))⟩,
      ⟨some 7, none, .prim (.mov (.tmp 3))⟩,
      ⟨some 8, none, .prim (.lenv (.tmp 7))⟩,
      ⟨some 9, none, .prim (.bin false .gtr (.tmp 8) (.const (Go.Value.int Go.IntKind.i64 0)))⟩,
      ⟨some 10, none, .call (.func 58) [(.tmp 6), (.const (Go.Value.int Go.IntKind.i64 1)), (.tmp 9)]⟩,
      ⟨some 11, none, .prim (.un .not (.tmp 10))⟩])
    (.cond (.tmp 11)
    (.seq (.ops [⟨some 2, none, .prim (.mov (.const (Go.Value.int Go.IntKind.u8 0)))⟩])
    .ret)
    .skip))
    (.seq (.ops [⟨some 12, none, .prim (.mov (.tmp 3))⟩,
      ⟨some 13, none, .prim (.iadrs 1 (.tmp 12) (.const (Go.Value.int Go.IntKind.i64 0)))⟩,
      ⟨some 14, none, .prim (.load 1 false (.tmp 13))⟩,
      ⟨some 2, none, .prim (.mov (.tmp 14))⟩])
    .ret))))
def o41 : List Tmp := []
def r41 : List RV := [.tmp 2]
theorem t41 : Text Tryz.prog 41 o41 c41 r41 15 := ⟨⟨Tryz.f41, _, by kernel_rfl, by kernel_rfl, rfl, by kernel_rfl, by kernel_rfl, rfl⟩, by kernel_rfl⟩

/-- sordine/req.fields -/
def c42 : ACode :=
  (.seq (.ops [⟨some 2, none, .prim (.mov (.const (Go.Value.int Go.IntKind.i64 0)))⟩,
      ⟨some 3, none, .prim (.mov (.const (Go.Value.bool Bool.false)))⟩])
    (.seq (.seq (.ops [⟨some 4, none, .prim (.mov (.tmp 0))⟩])
    (.block 0 (.seq (.seq (.ops [⟨some 6, none, .prim (.bin false .eql (.tmp 4) (.const (Go.Value.int Go.IntKind.i64 1)))⟩,
      ⟨some 5, none, .prim (.mov (.tmp 6))⟩])
    (.cond (.tmp 5)
    .skip
    (.seq (.ops [⟨some 7, none, .prim (.bin false .eql (.tmp 4) (.const (Go.Value.int Go.IntKind.i64 14)))⟩,
      ⟨some 5, none, .prim (.mov (.tmp 7))⟩])
    (.cond (.tmp 5)
    .skip
    (.seq (.ops [⟨some 8, none, .prim (.bin false .eql (.tmp 4) (.const (Go.Value.int Go.IntKind.i64 16)))⟩,
      ⟨some 5, none, .prim (.mov (.tmp 8))⟩])
    (.cond (.tmp 5)
    .skip
    (.ops [⟨some 9, none, .prim (.bin false .eql (.tmp 4) (.const (Go.Value.int Go.IntKind.i64 17)))⟩,
      ⟨some 5, none, .prim (.mov (.tmp 9))⟩])))))))
    (.cond (.tmp 5)
    (.seq (.ops [⟨some 2, none, .prim (.mov (.const (Go.Value.int Go.IntKind.i64 0)))⟩,
      ⟨some 3, none, .prim (.mov (.const (Go.Value.bool Bool.true)))⟩])
    .ret)
    (.seq (.seq (.ops [⟨some 11, none, .prim (.bin false .eql (.tmp 4) (.const (Go.Value.int Go.IntKind.i64 2)))⟩,
      ⟨some 10, none, .prim (.mov (.tmp 11))⟩])
    (.cond (.tmp 10)
    .skip
    (.seq (.ops [⟨some 12, none, .prim (.bin false .eql (.tmp 4) (.const (Go.Value.int Go.IntKind.i64 7)))⟩,
      ⟨some 10, none, .prim (.mov (.tmp 12))⟩])
    (.cond (.tmp 10)
    .skip
    (.seq (.ops [⟨some 13, none, .prim (.bin false .eql (.tmp 4) (.const (Go.Value.int Go.IntKind.i64 10)))⟩,
      ⟨some 10, none, .prim (.mov (.tmp 13))⟩])
    (.cond (.tmp 10)
    .skip
    (.seq (.ops [⟨some 14, none, .prim (.bin false .eql (.tmp 4) (.const (Go.Value.int Go.IntKind.i64 12)))⟩,
      ⟨some 10, none, .prim (.mov (.tmp 14))⟩])
    (.cond (.tmp 10)
    .skip
    (.ops [⟨some 15, none, .prim (.bin false .eql (.tmp 4) (.const (Go.Value.int Go.IntKind.i64 15)))⟩,
      ⟨some 10, none, .prim (.mov (.tmp 15))⟩])))))))))
    (.cond (.tmp 10)
    (.seq (.ops [⟨some 2, none, .prim (.mov (.const (Go.Value.int Go.IntKind.i64 1)))⟩,
      ⟨some 3, none, .prim (.mov (.const (Go.Value.bool Bool.true)))⟩])
    .ret)
    (.seq (.seq (.ops [⟨some 17, none, .prim (.bin false .eql (.tmp 4) (.const (Go.Value.int Go.IntKind.i64 3)))⟩,
      ⟨some 16, none, .prim (.mov (.tmp 17))⟩])
    (.cond (.tmp 16)
    .skip
    (.ops [⟨some 18, none, .prim (.bin false .eql (.tmp 4) (.const (Go.Value.int Go.IntKind.i64 4)))⟩,
      ⟨some 16, none, .prim (.mov (.tmp 18))⟩])))
    (.cond (.tmp 16)
    (.seq (.ops [⟨some 2, none, .prim (.mov (.const (Go.Value.int Go.IntKind.i64 3)))⟩,
      ⟨some 3, none, .prim (.mov (.const (Go.Value.bool Bool.true)))⟩])
    .ret)
    (.seq (.ops [⟨some 20, none, .prim (.bin false .eql (.tmp 4) (.const (Go.Value.int Go.IntKind.i64 5)))⟩,
      ⟨some 19, none, .prim (.mov (.tmp 20))⟩])
    (.cond (.tmp 19)
    (.seq (.ops [⟨some 2, none, .prim (.mov (.const (Go.Value.int Go.IntKind.i64 116)))⟩,
      ⟨some 3, none, .prim (.mov (.const (Go.Value.bool Bool.true)))⟩])
    .ret)
    (.seq (.ops [⟨some 22, none, .prim (.bin false .eql (.tmp 4) (.const (Go.Value.int Go.IntKind.i64 6)))⟩,
      ⟨some 21, none, .prim (.mov (.tmp 22))⟩])
    (.cond (.tmp 21)
    (.seq (.ops [⟨some 2, none, .prim (.mov (.const (Go.Value.int Go.IntKind.i64 117)))⟩,
      ⟨some 3, none, .prim (.mov (.const (Go.Value.bool Bool.true)))⟩])
    .ret)
    (.seq (.ops [⟨some 24, none, .prim (.bin false .eql (.tmp 4) (.const (Go.Value.int Go.IntKind.i64 8)))⟩,
      ⟨some 23, none, .prim (.mov (.tmp 24))⟩])
    (.cond (.tmp 23)
    (.seq (.ops [⟨some 2, none, .prim (.mov (.const (Go.Value.int Go.IntKind.i64 8)))⟩,
      ⟨some 3, none, .prim (.mov (.const (Go.Value.bool Bool.true)))⟩])
    .ret)
    (.seq (.ops [⟨some 26, none, .prim (.bin false .eql (.tmp 4) (.const (Go.Value.int Go.IntKind.i64 9)))⟩,
      ⟨some 25, none, .prim (.mov (.tmp 26))⟩])
    (.cond (.tmp 25)
    (.seq (.ops [⟨some 2, none, .prim (.mov (.const (Go.Value.int Go.IntKind.i64 128)))⟩,
      ⟨some 3, none, .prim (.mov (.const (Go.Value.bool Bool.true)))⟩])
    .ret)
    (.seq (.ops [⟨some 28, none, .prim (.bin false .eql (.tmp 4) (.const (Go.Value.int Go.IntKind.i64 11)))⟩,
      ⟨some 27, none, .prim (.mov (.tmp 28))⟩])
    (.cond (.tmp 27)
    (.seq (.ops [⟨some 2, none, .prim (.mov (.const (Go.Value.int Go.IntKind.i64 768)))⟩,
      ⟨some 3, none, .prim (.mov (.const (Go.Value.bool Bool.true)))⟩])
    .ret)
    (.seq (.ops [⟨some 30, none, .prim (.bin false .eql (.tmp 4) (.const (Go.Value.int Go.IntKind.i64 13)))⟩,
      ⟨some 29, none, .prim (.mov (.tmp 30))⟩])
    (.cond (.tmp 29)
    (.seq (.ops [⟨some 2, none, .prim (.mov (.const (Go.Value.int Go.IntKind.i64 16)))⟩,
      ⟨some 3, none, .prim (.mov (.const (Go.Value.bool Bool.true)))⟩])
    .ret)
    .skip))))))))))))))))))))
    (.seq (.ops [⟨some 2, none, .prim (.mov (.const (Go.Value.int Go.IntKind.i64 0)))⟩,
      ⟨some 3, none, .prim (.mov (.const (Go.Value.bool Bool.false)))⟩])
    .ret)))
def o42 : List Tmp := []
def r42 : List RV := [.tmp 2, .tmp 3]
theorem t42 : Text Tryz.prog 42 o42 c42 r42 31 := ⟨⟨Tryz.f42, _, by kernel_rfl, by kernel_rfl, rfl, by kernel_rfl, by kernel_rfl, rfl⟩, by kernel_rfl⟩

/-- (*sordine/peel.Reader).Refuse -/
def c43 : ACode :=
  (.ops [⟨some 4, none, .prim (.mov (.tmp 0))⟩,
      ⟨some 5, none, .prim (.mov (.tmp 1))⟩,
      ⟨some 6, none, .call (.func 58) [(.tmp 4), (.const (Go.Value.int Go.IntKind.i64 0)), (.tmp 5)]⟩])
def o43 : List Tmp := []
def r43 : List RV := []
theorem t43 : Text Tryz.prog 43 o43 c43 r43 7 := ⟨⟨Tryz.f43, _, by kernel_rfl, by kernel_rfl, rfl, by kernel_rfl, by kernel_rfl, rfl⟩, by kernel_rfl⟩

/-- (*sordine/peel.Reader).Num -/
def c44 : ACode :=
  (.seq (.ops [⟨some 4, none, .prim (.mov (.const (Go.Value.int Go.IntKind.u64 0)))⟩])
    (.seq (.ops [⟨some 9, none, .prim (.mov (.tmp 0))⟩,
      ⟨some 10, none, .call (.func 57) [(.tmp 9)]⟩,
      ⟨some 11, none, .call (.func 59) [(.tmp 10)]⟩,
      ⟨some 8, none, .prim (.mov (.tmp 11))⟩,
      ⟨some 12, none, .prim (.extr 0 (.tmp 8))⟩,
      ⟨some 13, none, .prim (.extr 1 (.tmp 8))⟩,
      ⟨some 14, none, .prim (.extr 2 (.tmp 8))⟩,
      ⟨some 5, none, .prim (.mov (.tmp 12))⟩,
      ⟨some 6, none, .prim (.mov (.tmp 13))⟩,
      ⟨some 7, none, .prim (.mov (.tmp 14))⟩])
    (.seq (.seq (.ops [⟨some 15, none, .prim (.mov (.tmp 0))⟩,
      ⟨some 16, none, .prim (.mov (.tmp 6))⟩,
      ⟨some 17, none, .prim (.mov (.tmp 7))⟩,
      ⟨some 18, none, .prim (.mov (.tmp 17))⟩,
      ⟨some 19, (some (18, true)), .prim (.mov (.tmp 5))⟩,
      ⟨some 20, (some (18, true)), .prim (.mov (.tmp 1))⟩,
      ⟨some 21, (some (18, true)), .prim (.bin false .leq (.tmp 19) (.tmp 20))⟩,
      ⟨some 22, none, .prim (.pick (.tmp 18) (.tmp 21) (.const (Go.Value.bool Bool.false)))⟩,
      ⟨some 23, none, .call (.func 58) [(.tmp 15), (.tmp 16), (.tmp 22)]⟩,
      ⟨some 24, none, .prim (.un .not (.tmp 23))⟩])
    (.cond (.tmp 24)
    (.seq (.ops [⟨some 4, none, .prim (.mov (.const (Go.Value.int Go.IntKind.u64 0)))⟩])
    .ret)
    .skip))
    (.seq (.ops [⟨some 25, none, .prim (.mov (.tmp 5))⟩,
      ⟨some 4, none, .prim (.mov (.tmp 25))⟩])
    .ret))))
def o44 : List Tmp := []
def r44 : List RV := [.tmp 4]
theorem t44 : Text Tryz.prog 44 o44 c44 r44 26 := ⟨⟨Tryz.f44, _, by kernel_rfl, by kernel_rfl, rfl, by kernel_rfl, by kernel_rfl, rfl⟩, by kernel_rfl⟩

/-- (*sordine/peel.Reader).Text -/
def c45 : ACode :=
  (.seq (.ops [⟨some 4, none, .prim (.mov (.const (Go.Value.string (ByteArray.mk #[]))))⟩])
    (.seq (.ops [⟨some 9, none, .prim (.mov (.tmp 0))⟩,
      ⟨some 10, none, .call (.func 57) [(.tmp 9)]⟩,
      ⟨some 11, none, .prim (.mov (.tmp 1))⟩,
      ⟨some 12, none, .call (.func 60) [(.tmp 10), (.tmp 11)]⟩,
      ⟨some 8, none, .prim (.mov (.tmp 12))⟩,
      ⟨some 13, none, .prim (.extr 0 (.tmp 8))⟩,
      ⟨some 14, none, .prim (.extr 1 (.tmp 8))⟩,
      ⟨some 15, none, .prim (.extr 2 (.tmp 8))⟩,
      ⟨some 5, none, .prim (.mov (.tmp 13))⟩,
      ⟨some 6, none, .prim (.mov (.tmp 14))⟩,
      ⟨some 7, none, .prim (.mov (.tmp 15))⟩])
    (.seq (.seq (.ops [⟨some 16, none, .prim (.mov (.tmp 0))⟩,
      ⟨some 17, none, .prim (.mov (.tmp 6))⟩,
      ⟨some 18, none, .prim (.mov (.tmp 7))⟩,
      ⟨some 19, none, .call (.func 58) [(.tmp 16), (.tmp 17), (.tmp 18)]⟩,
      ⟨some 20, none, .prim (.un .not (.tmp 19))⟩])
    (.cond (.tmp 20)
    (.seq (.ops [⟨some 4, none, .prim (.mov (.const (Go.Value.string (ByteArray.mk #[]))))⟩])
    .ret)
    .skip))
    (.seq (.ops [⟨some 21, none, .prim (.mov (.tmp 5))⟩,
      ⟨some 4, none, .prim (.mov (.tmp 21))⟩])
    .ret))))
def o45 : List Tmp := []
def r45 : List RV := [.tmp 4]
theorem t45 : Text Tryz.prog 45 o45 c45 r45 22 := ⟨⟨Tryz.f45, _, by kernel_rfl, by kernel_rfl, rfl, by kernel_rfl, by kernel_rfl, rfl⟩, by kernel_rfl⟩

/-- sordine/peel.Of[[]sordine/api.Matcher] -/
def c46 : ACode :=
  (.seq (.ops [⟨some 4, none, .prim (.mov (.const (Go.Value.slice Option.none 0 0)))⟩])
    (.seq (.ops [⟨some 10, none, .prim (.mov (.tmp 1))⟩,
      ⟨some 11, none, .prim (.mov (.tmp 0))⟩,
      ⟨some 12, none, .call (.func 57) [(.tmp 11)]⟩,
      ⟨some 13, none, .call (.tmp 10) [(.tmp 12)]⟩,
      ⟨some 9, none, .prim (.mov (.tmp 13))⟩,
      ⟨some 14, none, .prim (.extr 0 (.tmp 9))⟩,
      ⟨some 15, none, .prim (.extr 1 (.tmp 9))⟩,
      ⟨some 16, none, .prim (.extr 2 (.tmp 9))⟩,
      ⟨some 5, none, .prim (.mov (.tmp 14))⟩,
      ⟨some 6, none, .prim (.mov (.tmp 15))⟩,
      ⟨some 7, none, .prim (.mov (.tmp 16))⟩])
    (.seq (.seq (.ops [⟨some 17, none, .prim (.mov (.tmp 0))⟩,
      ⟨some 18, none, .prim (.mov (.tmp 6))⟩,
      ⟨some 19, none, .prim (.mov (.tmp 7))⟩,
      ⟨some 20, none, .call (.func 58) [(.tmp 17), (.tmp 18), (.tmp 19)]⟩,
      ⟨some 21, none, .prim (.un .not (.tmp 20))⟩])
    (.cond (.tmp 21)
    (.seq (.ops [⟨some 8, none, .prim (.mov (.const (Go.Value.slice Option.none 0 0)))⟩])
    (.seq (.ops [⟨some 22, none, .prim (.mov (.tmp 8))⟩,
      ⟨some 4, none, .prim (.mov (.tmp 22))⟩])
    .ret))
    .skip))
    (.seq (.ops [⟨some 23, none, .prim (.mov (.tmp 5))⟩,
      ⟨some 4, none, .prim (.mov (.tmp 23))⟩])
    .ret))))
def o46 : List Tmp := []
def r46 : List RV := [.tmp 4]
theorem t46 : Text Tryz.prog 46 o46 c46 r46 24 := ⟨⟨Tryz.f46, _, by kernel_rfl, by kernel_rfl, rfl, by kernel_rfl, by kernel_rfl, rfl⟩, by kernel_rfl⟩

/-- sordine/match.Read -/
def c47 : ACode :=
  (.seq (.ops [⟨some 2, none, .prim (.mov (.const (Go.Value.slice Option.none 0 0)))⟩,
      ⟨some 3, none, .prim (.mov (.const (Go.Value.int Go.IntKind.i64 0)))⟩,
      ⟨some 4, none, .prim (.mov (.const (Go.Value.bool Bool.false)))⟩])
    (.seq (.ops [⟨some 9, none, .prim (.mov (.tmp 0))⟩,
      ⟨some 10, none, .call (.func 37) [(.tmp 9)]⟩,
      ⟨some 5, none, .prim (.mov (.tmp 10))⟩])
    (.seq (.ops [⟨some 6, none, .prim (.mov (.const (Go.Value.slice Option.none 0 0)))⟩])
    (.seq (.seq (.ops [⟨some 11, none, .prim (.mov (.tmp 5))⟩,
      ⟨some 12, none, .call (.func 44) [(.tmp 11), (.const (Go.Value.int Go.IntKind.u64 5))]⟩,
      ⟨some 13, none, .prim (.mov (.const (Go.Value.int Go.IntKind.u64 0)))⟩])
    (.block 0 (.loop [0, 1, 2, 3, 4, 7, 8, 9, 10, 11, 14, 15, 16, 17, 18, 19, 20, 21, 22, 23, 24, 25, 26, 27, 28, 29, 30, 31, 32, 33, 34, 35, 36, 37, 38, 39] (.seq (.ops [⟨some 14, none, .prim (.bin false .lss (.tmp 13) (.tmp 12))⟩])
    (.seq (.cond (.tmp 14)
    .skip
    (.exit 0))
    (.seq (.block 1 (.ops [⟨some 15, none, .prim (.mov (.tmp 6))⟩,
      ⟨some 16, none, .prim (.mov (.tmp 5))⟩,
      ⟨some 17, none, .call (.func 41) [(.tmp 16)]⟩,
      ⟨some 18, none, .prim (.convi .i64 (.tmp 17))⟩,
      ⟨some 19, none, .prim (.mov (.tmp 5))⟩,
      ⟨some 20, none, .call (.func 45) [(.tmp 19), (.const (Go.Value.int Go.IntKind.i64 12))]⟩,
      ⟨some 21, none, .prim (.mov (.tmp 5))⟩,
      ⟨some 22, none, .call (.func 45) [(.tmp 21), (.const (Go.Value.int Go.IntKind.i64 40))]⟩,
      ⟨some 23, none, .prim (.build [.pl (.int .i64 0), .pl (.string .empty), .pl (.string .empty)] [(0, 1, (.tmp 18)), (1, 1, (.tmp 20)), (2, 1, (.tmp 22))])⟩,
      ⟨some 24, none, .prim (.bsl false 3 true 1 [.pl (.int .i64 0), .pl (.string .empty), .pl (.string .empty)] [(0, 3, (.tmp 23))])⟩,
      ⟨some 25, none, .prim (.app 3 (.tmp 15) (.tmp 24))⟩,
      ⟨some 6, none, .prim (.mov (.tmp 25))⟩]))
    (.ops [⟨some 26, none, .prim (.bin false .add (.tmp 13) (.const (Go.Value.int Go.IntKind.u64 1)))⟩,
      ⟨some 13, none, .prim (.mov (.tmp 26))⟩])))))))
    (.seq (.ops [⟨some 27, none, .prim (.mov (.tmp 5))⟩,
      ⟨some 28, none, .prim (.mov (.tmp 6))⟩,
      ⟨some 29, none, .call (.func 61) [(.tmp 28)]⟩,
      ⟨some 30, none, .call (.func 43) [(.tmp 27), (.tmp 29)]⟩])
    (.seq (.ops [⟨some 32, none, .prim (.mov (.tmp 5))⟩,
      ⟨some 33, none, .call (.func 40) [(.tmp 32)]⟩,
      ⟨some 31, none, .prim (.mov (.tmp 33))⟩,
      ⟨some 34, none, .prim (.extr 0 (.tmp 31))⟩,
      ⟨some 35, none, .prim (.extr 1 (.tmp 31))⟩,
      ⟨some 7, none, .prim (.mov (.tmp 34))⟩,
      ⟨some 8, none, .prim (.mov (.tmp 35))⟩])
    (.seq (.seq (.ops [⟨some 36, none, .prim (.mov (.tmp 8))⟩,
      ⟨some 37, none, .prim (.un .not (.tmp 36))⟩])
    (.cond (.tmp 37)
    (.seq (.ops [⟨some 2, none, .prim (.mov (.const (Go.Value.slice Option.none 0 0)))⟩,
      ⟨some 3, none, .prim (.mov (.const (Go.Value.int Go.IntKind.i64 0)))⟩,
      ⟨some 4, none, .prim (.mov (.const (Go.Value.bool Bool.false)))⟩])
    (.ghost (.shut 2) .ret))
    .skip))
    (.seq (.ops [⟨some 38, none, .prim (.mov (.tmp 6))⟩,
      ⟨some 39, none, .prim (.mov (.tmp 7))⟩,
      ⟨some 2, none, .prim (.mov (.tmp 38))⟩,
      ⟨some 3, none, .prim (.mov (.tmp 39))⟩,
      ⟨some 4, none, .prim (.mov (.const (Go.Value.bool Bool.true)))⟩])
    (.ghost (.shut 2) .ret)))))))))
def o47 : List Tmp := []
def r47 : List RV := [.tmp 2, .tmp 3, .tmp 4]
theorem t47 : Text Tryz.prog 47 o47 c47 r47 40 := ⟨⟨Tryz.f47, _, by kernel_rfl, by kernel_rfl, rfl, by kernel_rfl, by kernel_rfl, rfl⟩, by kernel_rfl⟩

/-- sordine/peel.Of[sordine/api.Band] -/
def c48 : ACode :=
  (.seq (.ops [⟨some 4, none, .prim (.allocm [.pl (.bool false), .pl (.float .f64 0), .pl (.float .f64 0)])⟩])
    (.seq (.ops [⟨some 10, none, .prim (.mov (.tmp 1))⟩,
      ⟨some 11, none, .prim (.mov (.tmp 0))⟩,
      ⟨some 12, none, .call (.func 57) [(.tmp 11)]⟩,
      ⟨some 13, none, .call (.tmp 10) [(.tmp 12)]⟩,
      ⟨some 9, none, .prim (.mov (.tmp 13))⟩,
      ⟨some 14, none, .prim (.extr 0 (.tmp 9))⟩,
      ⟨some 15, none, .prim (.extr 1 (.tmp 9))⟩,
      ⟨some 16, none, .prim (.extr 2 (.tmp 9))⟩,
      ⟨some 5, none, .fresh 3 5 (.tmp 14)⟩,
      ⟨some 6, none, .prim (.mov (.tmp 15))⟩,
      ⟨some 7, none, .prim (.mov (.tmp 16))⟩])
    (.seq (.seq (.ops [⟨some 17, none, .prim (.mov (.tmp 0))⟩,
      ⟨some 18, none, .prim (.mov (.tmp 6))⟩,
      ⟨some 19, none, .prim (.mov (.tmp 7))⟩,
      ⟨some 20, none, .call (.func 58) [(.tmp 17), (.tmp 18), (.tmp 19)]⟩,
      ⟨some 21, none, .prim (.un .not (.tmp 20))⟩])
    (.cond (.tmp 21)
    (.seq (.ops [⟨some 8, none, .prim (.allocm [.pl (.bool false), .pl (.float .f64 0), .pl (.float .f64 0)])⟩])
    (.seq (.ops [⟨some 22, none, .prim (.load 3 true (.tmp 8))⟩,
      ⟨none, none, .prim (.store 3 (.tmp 4) (.tmp 22))⟩])
    .ret))
    .skip))
    (.seq (.ops [⟨some 23, none, .prim (.load 3 true (.tmp 5))⟩,
      ⟨none, none, .prim (.store 3 (.tmp 4) (.tmp 23))⟩])
    .ret))))
def o48 : List Tmp := [4]
def r48 : List RV := [.cell 4 3 true]
theorem t48 : Text Tryz.prog 48 o48 c48 r48 24 := ⟨⟨Tryz.f48, _, by kernel_rfl, by kernel_rfl, rfl, by kernel_rfl, by kernel_rfl, rfl⟩, by kernel_rfl⟩

/-- sordine/rule.ReadBand -/
def c49 : ACode :=
  (.seq (.ops [⟨some 2, none, .prim (.allocm [.pl (.bool false), .pl (.float .f64 0), .pl (.float .f64 0)])⟩,
      ⟨some 3, none, .prim (.mov (.const (Go.Value.int Go.IntKind.i64 0)))⟩,
      ⟨some 4, none, .prim (.mov (.const (Go.Value.bool Bool.false)))⟩])
    (.seq (.ops [⟨some 9, none, .prim (.mov (.tmp 0))⟩,
      ⟨some 10, none, .call (.func 37) [(.tmp 9)]⟩,
      ⟨some 5, none, .prim (.mov (.tmp 10))⟩])
    (.seq (.ops [⟨some 6, none, .prim (.allocm [.pl (.bool false), .pl (.float .f64 0), .pl (.float .f64 0)])⟩])
    (.seq (.seq (.ops [⟨some 11, none, .prim (.mov (.tmp 5))⟩,
      ⟨some 12, none, .call (.func 41) [(.tmp 11)]⟩])
    (.block 0 (.seq (.ops [⟨some 16, none, .prim (.bin false .eql (.tmp 12) (.const (Go.Value.int Go.IntKind.u8 0)))⟩,
      ⟨some 15, none, .prim (.mov (.tmp 16))⟩])
    (.cond (.tmp 15)
    (.ops [⟨some 17, none, .prim (.mov (.tmp 5))⟩,
      ⟨some 18, none, .call (.func 62) [(.tmp 17)]⟩,
      ⟨some 19, none, .prim (.mov (.tmp 5))⟩,
      ⟨some 20, none, .call (.func 62) [(.tmp 19)]⟩,
      ⟨some 21, none, .prim (.fadr 1 (.tmp 6))⟩,
      ⟨none, none, .prim (.store 1 (.tmp 21) (.tmp 18))⟩,
      ⟨some 22, none, .prim (.fadr 2 (.tmp 6))⟩,
      ⟨none, none, .prim (.store 1 (.tmp 22) (.tmp 20))⟩])
    (.seq (.ops [⟨some 24, none, .prim (.bin false .eql (.tmp 12) (.const (Go.Value.int Go.IntKind.u8 1)))⟩,
      ⟨some 23, none, .prim (.mov (.tmp 24))⟩])
    (.cond (.tmp 23)
    (.ops [⟨some 25, none, .prim (.fadr 0 (.tmp 6))⟩,
      ⟨none, none, .prim (.store 1 (.tmp 25) (.const (Go.Value.bool Bool.true)))⟩])
    (.ops [⟨some 13, none, .prim (.mov (.tmp 5))⟩,
      ⟨some 14, none, .call (.func 43) [(.tmp 13), (.const (Go.Value.bool Bool.false))]⟩])))))))
    (.seq (.ops [⟨some 26, none, .prim (.mov (.tmp 5))⟩,
      ⟨some 27, none, .prim (.load 3 true (.tmp 6))⟩,
      ⟨some 28, none, .call (.func 63) [(.tmp 27)]⟩,
      ⟨some 29, none, .call (.func 43) [(.tmp 26), (.tmp 28)]⟩])
    (.seq (.ops [⟨some 31, none, .prim (.mov (.tmp 5))⟩,
      ⟨some 32, none, .call (.func 40) [(.tmp 31)]⟩,
      ⟨some 30, none, .prim (.mov (.tmp 32))⟩,
      ⟨some 33, none, .prim (.extr 0 (.tmp 30))⟩,
      ⟨some 34, none, .prim (.extr 1 (.tmp 30))⟩,
      ⟨some 7, none, .prim (.mov (.tmp 33))⟩,
      ⟨some 8, none, .prim (.mov (.tmp 34))⟩])
    (.seq (.seq (.ops [⟨some 35, none, .prim (.mov (.tmp 8))⟩,
      ⟨some 36, none, .prim (.un .not (.tmp 35))⟩])
    (.cond (.tmp 36)
    (.seq (.ops [⟨some 37, none, .prim (.build [.pl (.bool false), .pl (.float .f64 0), .pl (.float .f64 0)] [])⟩,
      ⟨none, none, .prim (.store 3 (.tmp 2) (.tmp 37))⟩,
      ⟨some 3, none, .prim (.mov (.const (Go.Value.int Go.IntKind.i64 0)))⟩,
      ⟨some 4, none, .prim (.mov (.const (Go.Value.bool Bool.false)))⟩])
    .ret)
    .skip))
    (.seq (.ops [⟨some 38, none, .prim (.load 3 true (.tmp 6))⟩,
      ⟨some 39, none, .prim (.mov (.tmp 7))⟩,
      ⟨none, none, .prim (.store 3 (.tmp 2) (.tmp 38))⟩,
      ⟨some 3, none, .prim (.mov (.tmp 39))⟩,
      ⟨some 4, none, .prim (.mov (.const (Go.Value.bool Bool.true)))⟩])
    .ret))))))))
def o49 : List Tmp := [2, 6]
def r49 : List RV := [.cell 2 3 true, .tmp 3, .tmp 4]
theorem t49 : Text Tryz.prog 49 o49 c49 r49 40 := ⟨⟨Tryz.f49, _, by kernel_rfl, by kernel_rfl, rfl, by kernel_rfl, by kernel_rfl, rfl⟩, by kernel_rfl⟩

/-- sordine/peel.Of[sordine/api.Rule] -/
def c50 : ACode :=
  (.seq (.ops [⟨some 4, none, .prim (.allocm [.nils, .nils, .pl (.bool false), .pl (.float .f64 0), .pl (.float .f64 0), .nils])⟩])
    (.seq (.ops [⟨some 10, none, .prim (.mov (.tmp 1))⟩,
      ⟨some 11, none, .prim (.mov (.tmp 0))⟩,
      ⟨some 12, none, .call (.func 57) [(.tmp 11)]⟩,
      ⟨some 13, none, .call (.tmp 10) [(.tmp 12)]⟩,
      ⟨some 9, none, .prim (.mov (.tmp 13))⟩,
      ⟨some 14, none, .prim (.extr 0 (.tmp 9))⟩,
      ⟨some 15, none, .prim (.extr 1 (.tmp 9))⟩,
      ⟨some 16, none, .prim (.extr 2 (.tmp 9))⟩,
      ⟨some 5, none, .fresh 6 5 (.tmp 14)⟩,
      ⟨some 6, none, .prim (.mov (.tmp 15))⟩,
      ⟨some 7, none, .prim (.mov (.tmp 16))⟩])
    (.seq (.seq (.ops [⟨some 17, none, .prim (.mov (.tmp 0))⟩,
      ⟨some 18, none, .prim (.mov (.tmp 6))⟩,
      ⟨some 19, none, .prim (.mov (.tmp 7))⟩,
      ⟨some 20, none, .call (.func 58) [(.tmp 17), (.tmp 18), (.tmp 19)]⟩,
      ⟨some 21, none, .prim (.un .not (.tmp 20))⟩])
    (.cond (.tmp 21)
    (.seq (.ops [⟨some 8, none, .prim (.allocm [.nils, .nils, .pl (.bool false), .pl (.float .f64 0), .pl (.float .f64 0), .nils])⟩])
    (.seq (.ops [⟨some 22, none, .prim (.load 6 true (.tmp 8))⟩,
      ⟨none, none, .prim (.store 6 (.tmp 4) (.tmp 22))⟩])
    .ret))
    .skip))
    (.seq (.ops [⟨some 23, none, .prim (.load 6 true (.tmp 5))⟩,
      ⟨none, none, .prim (.store 6 (.tmp 4) (.tmp 23))⟩])
    .ret))))
def o50 : List Tmp := [4]
def r50 : List RV := [.cell 4 6 true]
theorem t50 : Text Tryz.prog 50 o50 c50 r50 24 := ⟨⟨Tryz.f50, _, by kernel_rfl, by kernel_rfl, rfl, by kernel_rfl, by kernel_rfl, rfl⟩, by kernel_rfl⟩

/-- sordine/rule.Read -/
def c51 : ACode :=
  (.seq (.ops [⟨some 2, none, .prim (.allocm [.nils, .nils, .pl (.bool false), .pl (.float .f64 0), .pl (.float .f64 0), .nils])⟩,
      ⟨some 3, none, .prim (.mov (.const (Go.Value.int Go.IntKind.i64 0)))⟩,
      ⟨some 4, none, .prim (.mov (.const (Go.Value.bool Bool.false)))⟩])
    (.seq (.ops [⟨some 9, none, .prim (.mov (.tmp 0))⟩,
      ⟨some 10, none, .call (.func 37) [(.tmp 9)]⟩,
      ⟨some 5, none, .prim (.mov (.tmp 10))⟩])
    (.seq (.ops [⟨some 11, none, .prim (.mov (.tmp 5))⟩,
      ⟨some 12, none, .call (.func 46) [(.tmp 11), (.func 47)]⟩,
      ⟨some 13, none, .prim (.mov (.tmp 5))⟩,
      ⟨some 14, none, .call (.func 46) [(.tmp 13), (.func 47)]⟩,
      ⟨some 15, none, .prim (.mov (.tmp 5))⟩,
      ⟨some 16, none, .call (.func 48) [(.tmp 15), (.func 49)]⟩,
      ⟨some 17, none, .prim (.build [.nils, .nils, .pl (.bool false), .pl (.float .f64 0), .pl (.float .f64 0), .nils] [(0, 1, (.tmp 12)), (1, 1, (.tmp 14)), (2, 3, (.tmp 16))])⟩,
      ⟨some 6, none, .prim (.allocm [.nils, .nils, .pl (.bool false), .pl (.float .f64 0), .pl (.float .f64 0), .nils])⟩,
      ⟨none, none, .prim (.store 6 (.tmp 6) (.tmp 17))⟩])
    (.seq (.seq (.ops [⟨some 18, none, .prim (.mov (.tmp 5))⟩,
      ⟨some 19, none, .call (.func 44) [(.tmp 18), (.const (Go.Value.int Go.IntKind.u64 4))]⟩,
      ⟨some 20, none, .prim (.mov (.const (Go.Value.int Go.IntKind.u64 0)))⟩])
    (.block 0 (.loop [0, 1, 3, 4, 7, 8, 9, 10, 11, 12, 13, 14, 15, 16, 17, 18, 21, 22, 23, 24, 25, 26, 27, 28, 29, 30, 31, 32, 33, 34, 35, 36, 37, 38, 39, 40, 41, 42, 43] (.seq (.ops [⟨some 21, none, .prim (.bin false .lss (.tmp 20) (.tmp 19))⟩])
    (.seq (.cond (.tmp 21)
    .skip
    (.exit 0))
    (.seq (.block 1 (.draw [⟨⟨some 22, none, .prim (.fadr 5 (.tmp 6))⟩, [], false, 0, 1⟩,
      ⟨⟨some 23, none, .prim (.load 1 false (.tmp 22))⟩, [0], false, 0, 1⟩,
      ⟨⟨some 24, none, .prim (.mov (.tmp 5))⟩, [], false, 0, 0⟩,
      ⟨⟨some 25, none, .call (.func 45) [(.tmp 24), (.const (Go.Value.int Go.IntKind.i64 12))]⟩, [2], true, 0, 0⟩,
      ⟨⟨some 26, none, .prim (.bsl false 1 false 1 [.pl (.string .empty)] [(0, 1, (.tmp 25))])⟩, [2, 3], false, 1, 1⟩,
      ⟨⟨some 27, none, .prim (.app 1 (.tmp 23) (.tmp 26))⟩, [0, 1, 2, 3, 4], true, 0, 0⟩,
      ⟨⟨some 28, none, .prim (.fadr 5 (.tmp 6))⟩, [0, 1, 2, 3, 4, 5], false, 2, 2⟩,
      ⟨⟨none, none, .prim (.store 1 (.tmp 28) (.tmp 27))⟩, [0, 1, 2, 3, 4, 5, 6], true, 0, 0⟩]))
    (.ops [⟨some 29, none, .prim (.bin false .add (.tmp 20) (.const (Go.Value.int Go.IntKind.u64 1)))⟩,
      ⟨some 20, none, .prim (.mov (.tmp 29))⟩])))))))
    (.seq (.ops [⟨some 30, none, .prim (.mov (.tmp 5))⟩,
      ⟨some 31, none, .prim (.load 6 true (.tmp 6))⟩,
      ⟨some 32, none, .call (.func 64) [(.tmp 31)]⟩,
      ⟨some 33, none, .call (.func 43) [(.tmp 30), (.tmp 32)]⟩])
    (.seq (.ops [⟨some 35, none, .prim (.mov (.tmp 5))⟩,
      ⟨some 36, none, .call (.func 40) [(.tmp 35)]⟩,
      ⟨some 34, none, .prim (.mov (.tmp 36))⟩,
      ⟨some 37, none, .prim (.extr 0 (.tmp 34))⟩,
      ⟨some 38, none, .prim (.extr 1 (.tmp 34))⟩,
      ⟨some 7, none, .prim (.mov (.tmp 37))⟩,
      ⟨some 8, none, .prim (.mov (.tmp 38))⟩])
    (.seq (.seq (.ops [⟨some 39, none, .prim (.mov (.tmp 8))⟩,
      ⟨some 40, none, .prim (.un .not (.tmp 39))⟩])
    (.cond (.tmp 40)
    (.seq (.ops [⟨some 41, none, .prim (.build [.nils, .nils, .pl (.bool false), .pl (.float .f64 0), .pl (.float .f64 0), .nils] [])⟩,
      ⟨none, none, .prim (.store 6 (.tmp 2) (.tmp 41))⟩,
      ⟨some 3, none, .prim (.mov (.const (Go.Value.int Go.IntKind.i64 0)))⟩,
      ⟨some 4, none, .prim (.mov (.const (Go.Value.bool Bool.false)))⟩])
    .ret)
    .skip))
    (.seq (.ops [⟨some 42, none, .prim (.load 6 true (.tmp 6))⟩,
      ⟨some 43, none, .prim (.mov (.tmp 7))⟩,
      ⟨none, none, .prim (.store 6 (.tmp 2) (.tmp 42))⟩,
      ⟨some 3, none, .prim (.mov (.tmp 43))⟩,
      ⟨some 4, none, .prim (.mov (.const (Go.Value.bool Bool.true)))⟩])
    .ret))))))))
def o51 : List Tmp := [2, 6]
def r51 : List RV := [.cell 2 6 true, .tmp 3, .tmp 4]
theorem t51 : Text Tryz.prog 51 o51 c51 r51 44 := ⟨⟨Tryz.f51, _, by kernel_rfl, by kernel_rfl, rfl, by kernel_rfl, by kernel_rfl, rfl⟩, by kernel_rfl⟩

/-- sordine/peel.Of[[]sordine/api.Label] -/
def c52 : ACode :=
  (.seq (.ops [⟨some 4, none, .prim (.mov (.const (Go.Value.slice Option.none 0 0)))⟩])
    (.seq (.ops [⟨some 10, none, .prim (.mov (.tmp 1))⟩,
      ⟨some 11, none, .prim (.mov (.tmp 0))⟩,
      ⟨some 12, none, .call (.func 57) [(.tmp 11)]⟩,
      ⟨some 13, none, .call (.tmp 10) [(.tmp 12)]⟩,
      ⟨some 9, none, .prim (.mov (.tmp 13))⟩,
      ⟨some 14, none, .prim (.extr 0 (.tmp 9))⟩,
      ⟨some 15, none, .prim (.extr 1 (.tmp 9))⟩,
      ⟨some 16, none, .prim (.extr 2 (.tmp 9))⟩,
      ⟨some 5, none, .prim (.mov (.tmp 14))⟩,
      ⟨some 6, none, .prim (.mov (.tmp 15))⟩,
      ⟨some 7, none, .prim (.mov (.tmp 16))⟩])
    (.seq (.seq (.ops [⟨some 17, none, .prim (.mov (.tmp 0))⟩,
      ⟨some 18, none, .prim (.mov (.tmp 6))⟩,
      ⟨some 19, none, .prim (.mov (.tmp 7))⟩,
      ⟨some 20, none, .call (.func 58) [(.tmp 17), (.tmp 18), (.tmp 19)]⟩,
      ⟨some 21, none, .prim (.un .not (.tmp 20))⟩])
    (.cond (.tmp 21)
    (.seq (.ops [⟨some 8, none, .prim (.mov (.const (Go.Value.slice Option.none 0 0)))⟩])
    (.seq (.ops [⟨some 22, none, .prim (.mov (.tmp 8))⟩,
      ⟨some 4, none, .prim (.mov (.tmp 22))⟩])
    .ret))
    .skip))
    (.seq (.ops [⟨some 23, none, .prim (.mov (.tmp 5))⟩,
      ⟨some 4, none, .prim (.mov (.tmp 23))⟩])
    .ret))))
def o52 : List Tmp := []
def r52 : List RV := [.tmp 4]
theorem t52 : Text Tryz.prog 52 o52 c52 r52 24 := ⟨⟨Tryz.f52, _, by kernel_rfl, by kernel_rfl, rfl, by kernel_rfl, by kernel_rfl, rfl⟩, by kernel_rfl⟩

/-- sordine/labels.Read -/
def c53 : ACode :=
  (.seq (.ops [⟨some 2, none, .prim (.mov (.const (Go.Value.slice Option.none 0 0)))⟩,
      ⟨some 3, none, .prim (.mov (.const (Go.Value.int Go.IntKind.i64 0)))⟩,
      ⟨some 4, none, .prim (.mov (.const (Go.Value.bool Bool.false)))⟩])
    (.seq (.ops [⟨some 9, none, .prim (.mov (.tmp 0))⟩,
      ⟨some 10, none, .call (.func 37) [(.tmp 9)]⟩,
      ⟨some 5, none, .prim (.mov (.tmp 10))⟩])
    (.seq (.ops [⟨some 6, none, .prim (.mov (.const (Go.Value.slice Option.none 0 0)))⟩])
    (.seq (.seq (.ops [⟨some 11, none, .prim (.mov (.tmp 5))⟩,
      ⟨some 12, none, .call (.func 44) [(.tmp 11), (.const (Go.Value.int Go.IntKind.u64 6))]⟩,
      ⟨some 13, none, .prim (.mov (.const (Go.Value.int Go.IntKind.u64 0)))⟩])
    (.block 0 (.loop [0, 1, 2, 3, 4, 7, 8, 9, 10, 11, 14, 15, 16, 17, 18, 19, 20, 21, 22, 23, 24, 25, 26, 27, 28, 29, 30, 31, 32, 33, 34, 35, 36] (.seq (.ops [⟨some 14, none, .prim (.bin false .lss (.tmp 13) (.tmp 12))⟩])
    (.seq (.cond (.tmp 14)
    .skip
    (.exit 0))
    (.seq (.block 1 (.ops [⟨some 15, none, .prim (.mov (.tmp 6))⟩,
      ⟨some 16, none, .prim (.mov (.tmp 5))⟩,
      ⟨some 17, none, .call (.func 45) [(.tmp 16), (.const (Go.Value.int Go.IntKind.i64 12))]⟩,
      ⟨some 18, none, .prim (.mov (.tmp 5))⟩,
      ⟨some 19, none, .call (.func 45) [(.tmp 18), (.const (Go.Value.int Go.IntKind.i64 24))]⟩,
      ⟨some 20, none, .prim (.build [.pl (.string .empty), .pl (.string .empty)] [(0, 1, (.tmp 17)), (1, 1, (.tmp 19))])⟩,
      ⟨some 21, none, .prim (.bsl false 2 true 1 [.pl (.string .empty), .pl (.string .empty)] [(0, 2, (.tmp 20))])⟩,
      ⟨some 22, none, .prim (.app 2 (.tmp 15) (.tmp 21))⟩,
      ⟨some 6, none, .prim (.mov (.tmp 22))⟩]))
    (.ops [⟨some 23, none, .prim (.bin false .add (.tmp 13) (.const (Go.Value.int Go.IntKind.u64 1)))⟩,
      ⟨some 13, none, .prim (.mov (.tmp 23))⟩])))))))
    (.seq (.ops [⟨some 24, none, .prim (.mov (.tmp 5))⟩,
      ⟨some 25, none, .prim (.mov (.tmp 6))⟩,
      ⟨some 26, none, .call (.func 65) [(.tmp 25)]⟩,
      ⟨some 27, none, .call (.func 43) [(.tmp 24), (.tmp 26)]⟩])
    (.seq (.ops [⟨some 29, none, .prim (.mov (.tmp 5))⟩,
      ⟨some 30, none, .call (.func 40) [(.tmp 29)]⟩,
      ⟨some 28, none, .prim (.mov (.tmp 30))⟩,
      ⟨some 31, none, .prim (.extr 0 (.tmp 28))⟩,
      ⟨some 32, none, .prim (.extr 1 (.tmp 28))⟩,
      ⟨some 7, none, .prim (.mov (.tmp 31))⟩,
      ⟨some 8, none, .prim (.mov (.tmp 32))⟩])
    (.seq (.seq (.ops [⟨some 33, none, .prim (.mov (.tmp 8))⟩,
      ⟨some 34, none, .prim (.un .not (.tmp 33))⟩])
    (.cond (.tmp 34)
    (.seq (.ops [⟨some 2, none, .prim (.mov (.const (Go.Value.slice Option.none 0 0)))⟩,
      ⟨some 3, none, .prim (.mov (.const (Go.Value.int Go.IntKind.i64 0)))⟩,
      ⟨some 4, none, .prim (.mov (.const (Go.Value.bool Bool.false)))⟩])
    (.ghost (.shut 2) .ret))
    .skip))
    (.seq (.ops [⟨some 35, none, .prim (.mov (.tmp 6))⟩,
      ⟨some 36, none, .prim (.mov (.tmp 7))⟩,
      ⟨some 2, none, .prim (.mov (.tmp 35))⟩,
      ⟨some 3, none, .prim (.mov (.tmp 36))⟩,
      ⟨some 4, none, .prim (.mov (.const (Go.Value.bool Bool.true)))⟩])
    (.ghost (.shut 2) .ret)))))))))
def o53 : List Tmp := []
def r53 : List RV := [.tmp 2, .tmp 3, .tmp 4]
theorem t53 : Text Tryz.prog 53 o53 c53 r53 37 := ⟨⟨Tryz.f53, _, by kernel_rfl, by kernel_rfl, rfl, by kernel_rfl, by kernel_rfl, rfl⟩, by kernel_rfl⟩

/-- sordine/real.Of -/
def c54 : ACode :=
  (.seq (.ops [⟨some 2, none, .prim (.mov (.const (Go.Value.float Go.FloatKind.f64 0)))⟩,
      ⟨some 3, none, .prim (.mov (.const (Go.Value.bool Bool.false)))⟩])
    (.seq (.ops [⟨some 5, none, .prim (.mov (.tmp 0))⟩,
      ⟨some 6, none, .call (.func 66) [(.tmp 5)]⟩,
      ⟨some 4, none, .prim (.mov (.tmp 6))⟩])
    (.seq (.seq (.ops [⟨some 7, none, .prim (.mov (.tmp 4))⟩,
      ⟨some 8, none, .call (.func 67) [(.tmp 7)]⟩,
      ⟨some 9, none, .prim (.mov (.tmp 0))⟩,
      ⟨some 10, none, .prim (.bin false .neq (.tmp 8) (.tmp 9))⟩])
    (.cond (.tmp 10)
    (.seq (.ops [⟨some 2, none, .prim (.mov (.const (Go.Value.float Go.FloatKind.f64 0)))⟩,
      ⟨some 3, none, .prim (.mov (.const (Go.Value.bool Bool.false)))⟩])
    .ret)
    .skip))
    (.seq (.ops [⟨some 11, none, .prim (.mov (.tmp 4))⟩,
      ⟨some 2, none, .prim (.mov (.tmp 11))⟩,
      ⟨some 3, none, .prim (.mov (.const (Go.Value.bool Bool.true)))⟩])
    .ret))))
def o54 : List Tmp := []
def r54 : List RV := [.tmp 2, .tmp 3]
theorem t54 : Text Tryz.prog 54 o54 c54 r54 12 := ⟨⟨Tryz.f54, _, by kernel_rfl, by kernel_rfl, rfl, by kernel_rfl, by kernel_rfl, rfl⟩, by kernel_rfl⟩

/-- (*sordine/peel.Reader).Word -/
def c55 : ACode :=
  (.seq (.ops [⟨some 2, none, .prim (.mov (.const (Go.Value.int Go.IntKind.u64 0)))⟩])
    (.seq (.ops [⟨some 6, none, .prim (.mov (.tmp 0))⟩,
      ⟨some 7, none, .call (.func 57) [(.tmp 6)]⟩,
      ⟨some 8, none, .call (.func 68) [(.tmp 7)]⟩,
      ⟨some 5, none, .prim (.mov (.tmp 8))⟩,
      ⟨some 9, none, .prim (.extr 0 (.tmp 5))⟩,
      ⟨some 10, none, .prim (.extr 1 (.tmp 5))⟩,
      ⟨some 3, none, .prim (.mov (.tmp 9))⟩,
      ⟨some 4, none, .prim (.mov (.tmp 10))⟩])
    (.seq (.seq (.ops [⟨some 11, none, .prim (.mov (.tmp 0))⟩,
      ⟨some 12, none, .prim (.mov (.tmp 4))⟩,
      ⟨some 13, none, .call (.func 58) [(.tmp 11), (.const (Go.Value.int Go.IntKind.i64 8)), (.tmp 12)]⟩,
      ⟨some 14, none, .prim (.un .not (.tmp 13))⟩])
    (.cond (.tmp 14)
    (.seq (.ops [⟨some 2, none, .prim (.mov (.const (Go.Value.int Go.IntKind.u64 0)))⟩])
    .ret)
    .skip))
    (.seq (.ops [⟨some 15, none, .prim (.mov (.tmp 3))⟩,
      ⟨some 2, none, .prim (.mov (.tmp 15))⟩])
    .ret))))
def o55 : List Tmp := []
def r55 : List RV := [.tmp 2]
theorem t55 : Text Tryz.prog 55 o55 c55 r55 16 := ⟨⟨Tryz.f55, _, by kernel_rfl, by kernel_rfl, rfl, by kernel_rfl, by kernel_rfl, rfl⟩, by kernel_rfl⟩

/-- sordine/req.may -/
def c56 : ACode :=
  (.seq (.ops [⟨some 1, none, .prim (.boxr (.tmp 0))⟩,
      ⟨some 2, none, .prim (.mov (.const (Go.Value.bool Bool.false)))⟩])
    (.seq (.ops [⟨some 6, none, .prim (.fadr 1 (.tmp 1))⟩,
      ⟨some 7, none, .prim (.load 1 false (.tmp 6))⟩,
      ⟨some 8, none, .call (.func 42) [(.tmp 7)]⟩,
      ⟨some 5, none, .prim (.mov (.tmp 8))⟩,
      ⟨some 9, none, .prim (.extr 0 (.tmp 5))⟩,
      ⟨some 10, none, .prim (.extr 1 (.tmp 5))⟩,
      ⟨some 3, none, .prim (.mov (.tmp 9))⟩,
      ⟨some 4, none, .prim (.mov (.tmp 10))⟩])
    (.seq (.ops [⟨some 11, none, .prim (.mov (.tmp 4))⟩,
      ⟨some 12, none, .prim (.mov (.tmp 11))⟩,
      ⟨some 13, (some (12, true)), .prim (.load 19 true (.tmp 1))⟩,
      ⟨some 14, (some (12, true)), .prim (.mov (.tmp 3))⟩,
      ⟨some 15, (some (12, true)), .call (.func 69) [(.tmp 13), (.tmp 14)]⟩,
      ⟨some 16, none, .prim (.pick (.tmp 12) (.tmp 15) (.const (Go.Value.bool Bool.false)))⟩,
      ⟨some 17, none, .prim (.mov (.tmp 16))⟩,
      ⟨some 18, (some (17, true)), .prim (.load 19 true (.tmp 1))⟩,
      ⟨some 19, (some (17, true)), .prim (.mov (.tmp 3))⟩,
      ⟨some 20, (some (17, true)), .call (.func 70) [(.tmp 18), (.tmp 19)]⟩,
      ⟨some 21, none, .prim (.pick (.tmp 17) (.tmp 20) (.const (Go.Value.bool Bool.false)))⟩,
      ⟨some 2, none, .prim (.mov (.tmp 21))⟩])
    .ret)))
def o56 : List Tmp := []
def r56 : List RV := [.tmp 2]
theorem t56 : Text Tryz.prog 56 o56 c56 r56 22 := ⟨⟨Tryz.f56, _, by kernel_rfl, by kernel_rfl, rfl, by kernel_rfl, by kernel_rfl, rfl⟩, by kernel_rfl⟩

/-- (*sordine/peel.Reader).rest -/
def c57 : ACode :=
  (.seq (.ops [⟨some 2, none, .prim (.mov (.const (Go.Value.slice Option.none 0 0)))⟩])
    (.seq (.draw [⟨⟨some 3, none, .prim (.mov (.tmp 0))⟩, [], false, 0, 0⟩,
      ⟨⟨some 4, none, .prim (.nilc (.tmp 3))⟩, [0], false, 0, 0⟩,
      ⟨⟨some 5, none, .prim (.fadr 0 (.tmp 4))⟩, [0, 1], false, 0, 0⟩,
      ⟨⟨some 6, none, .prim (.load 1 false (.tmp 5))⟩, [0, 1, 2], false, 0, 0⟩,
      ⟨⟨some 7, none, .prim (.mov (.tmp 0))⟩, [], false, 0, 0⟩,
      ⟨⟨some 8, none, .prim (.nilc (.tmp 7))⟩, [4], false, 0, 0⟩,
      ⟨⟨some 9, none, .prim (.fadr 1 (.tmp 8))⟩, [4, 5], false, 0, 0⟩,
      ⟨⟨some 10, none, .prim (.load 1 false (.tmp 9))⟩, [4, 5, 6], false, 0, 0⟩,
      ⟨⟨some 11, none, .prim (.slcv 1 (.tmp 6) (some (.tmp 10)) none)⟩, [0, 1, 2, 3, 4, 5, 6, 7], false, 0, 0⟩,
      ⟨⟨some 2, none, .prim (.mov (.tmp 11))⟩, [0, 1, 2, 3, 4, 5, 6, 7, 8], false, 0, 0⟩])
    (.ghost (.shut 2) .ret)))
def o57 : List Tmp := []
def r57 : List RV := [.tmp 2]
theorem t57 : Text Tryz.prog 57 o57 c57 r57 12 := ⟨⟨Tryz.f57, _, by kernel_rfl, by kernel_rfl, rfl, by kernel_rfl, by kernel_rfl, rfl⟩, by kernel_rfl⟩

/-- (*sordine/peel.Reader).took -/
def c58 : ACode :=
  (.seq (.ops [⟨some 6, none, .prim (.mov (.const (Go.Value.bool Bool.false)))⟩])
    (.seq (.ops [⟨some 7, none, .prim (.mov (.tmp 0))⟩,
      ⟨some 8, none, .prim (.mov (.tmp 0))⟩,
      ⟨some 9, none, .prim (.nilc (.tmp 8))⟩,
      ⟨some 10, none, .prim (.fadr 2 (.tmp 9))⟩,
      ⟨some 11, none, .prim (.load 1 false (.tmp 10))⟩,
      ⟨some 12, none, .prim (.mov (.tmp 11))⟩,
      ⟨some 13, (some (12, false)), .prim (.mov (.tmp 2))⟩,
      ⟨some 14, (some (12, false)), .prim (.un .not (.tmp 13))⟩,
      ⟨some 15, none, .prim (.pick (.tmp 12) (.const (Go.Value.bool Bool.true)) (.tmp 14))⟩,
      ⟨some 16, none, .prim (.nilc (.tmp 7))⟩,
      ⟨some 17, none, .prim (.fadr 2 (.tmp 16))⟩,
      ⟨none, none, .prim (.store 1 (.tmp 17) (.tmp 15))⟩])
    (.seq (.seq (.ops [⟨some 18, none, .prim (.mov (.tmp 0))⟩,
      ⟨some 19, none, .prim (.nilc (.tmp 18))⟩,
      ⟨some 20, none, .prim (.fadr 2 (.tmp 19))⟩,
      ⟨some 21, none, .prim (.load 1 false (.tmp 20))⟩,
      ⟨some 22, none, .prim (.un .not (.tmp 21))⟩])
    (.cond (.tmp 22)
    (.ops [⟨some 23, none, .prim (.mov (.tmp 0))⟩,
      ⟨some 24, none, .prim (.nilc (.tmp 23))⟩,
      ⟨some 25, none, .prim (.fadr 1 (.tmp 24))⟩,
      ⟨some 26, none, .prim (.load 1 false (.tmp 25))⟩,
      ⟨some 27, none, .prim (.mov (.tmp 1))⟩,
      ⟨some 28, none, .prim (.bin false .add (.tmp 26) (.tmp 27))⟩,
      ⟨some 29, none, .prim (.nilc (.tmp 23))⟩,
      ⟨some 30, none, .prim (.fadr 1 (.tmp 29))⟩,
      ⟨none, none, .prim (.store 1 (.tmp 30) (.tmp 28))⟩])
    .skip))
    (.seq (.ops [⟨some 31, none, .prim (.mov (.tmp 0))⟩,
      ⟨some 32, none, .prim (.nilc (.tmp 31))⟩,
      ⟨some 33, none, .prim (.fadr 2 (.tmp 32))⟩,
      ⟨some 34, none, .prim (.load 1 false (.tmp 33))⟩,
      ⟨some 35, none, .prim (.un .not (.tmp 34))⟩,
      ⟨some 6, none, .prim (.mov (.tmp 35))⟩])
    .ret))))
def o58 : List Tmp := []
def r58 : List RV := [.tmp 6]
theorem t58 : Text Tryz.prog 58 o58 c58 r58 36 := ⟨⟨Tryz.f58, _, by kernel_rfl, by kernel_rfl, rfl, by kernel_rfl, by kernel_rfl, rfl⟩, by kernel_rfl⟩

/-- sordine/vint.Get -/
def c59 : ACode :=
  (.seq (.ops [⟨some 2, none, .prim (.mov (.const (Go.Value.int Go.IntKind.u64 0)))⟩,
      ⟨some 3, none, .prim (.mov (.const (Go.Value.int Go.IntKind.i64 0)))⟩,
      ⟨some 4, none, .prim (.mov (.const (Go.Value.bool Bool.false)))⟩])
    (.seq (.ops [⟨some 5, none, .prim (.mov (.const (Go.Value.int Go.IntKind.u64 0)))⟩])
    (.seq (.seq (.ops [⟨some 8, none, .prim (.mov (.tmp 0))⟩,
      ⟨some 9, none, .prim (.lenv (.tmp 8))⟩,
      ⟨some 10, none, .prim (.mov (.const (Go.Value.int Go.IntKind.i64 0)))⟩])
    (.block 0 (.loop [0, 1, 2, 3, 4, 6, 7, 11, 12, 13, 14, 15, 16, 17, 18, 19, 20, 21, 22, 23, 24, 25, 26, 27, 28, 29, 30, 31, 32, 33, 34, 35, 36, 37, 38, 39, 40, 41, 42] (.seq (.ops [⟨some 11, none, .prim (.bin false .lss (.tmp 10) (.tmp 9))⟩])
    (.seq (.cond (.tmp 11)
    .skip
    (.exit 0))
    (.seq (.block 1 (.seq (.ops [⟨some 12, none, .prim (.mov (.tmp 10))⟩,
      ⟨some 13, none, .prim (.iadrs 1 (.tmp 8) (.tmp 10))⟩,
      ⟨some 14, none, .prim (.load 1 false (.tmp 13))⟩,
      ⟨some 6, none, .prim (.mov (.tmp 12))⟩,
      ⟨some 7, none, .prim (.mov (.tmp 14))⟩])
    (.seq (.seq (.ops [⟨some 15, none, .prim (.mov (.tmp 6))⟩,
      ⟨some 16, none, .prim (.bin false .eql (.tmp 15) (.const (Go.Value.int Go.IntKind.i64 9)))⟩,
      ⟨some 17, none, .prim (.mov (.tmp 16))⟩,
      ⟨some 18, (some (17, true)), .prim (.mov (.tmp 7))⟩,
      ⟨some 19, (some (17, true)), .prim (.bin false .gtr (.tmp 18) (.const (Go.Value.int Go.IntKind.u8 1)))⟩,
      ⟨some 20, none, .prim (.pick (.tmp 17) (.tmp 19) (.const (Go.Value.bool Bool.false)))⟩,
      ⟨some 21, none, .prim (.mov (.tmp 20))⟩,
      ⟨some 22, (some (21, false)), .prim (.mov (.tmp 6))⟩,
      ⟨some 23, (some (21, false)), .prim (.bin false .gtr (.tmp 22) (.const (Go.Value.int Go.IntKind.i64 0)))⟩,
      ⟨some 24, (some (21, false)), .prim (.mov (.tmp 23))⟩,
      ⟨some 25, (some (24, true)), .prim (.mov (.tmp 7))⟩,
      ⟨some 26, (some (24, true)), .prim (.bin false .eql (.tmp 25) (.const (Go.Value.int Go.IntKind.u8 0)))⟩,
      ⟨some 27, (some (21, false)), .prim (.pick (.tmp 24) (.tmp 26) (.const (Go.Value.bool Bool.false)))⟩,
      ⟨some 28, none, .prim (.pick (.tmp 21) (.const (Go.Value.bool Bool.true)) (.tmp 27))⟩])
    (.cond (.tmp 28)
    (.exit 0)
    .skip))
    (.seq (.ops [⟨some 29, none, .prim (.mov (.tmp 5))⟩,
      ⟨some 30, none, .prim (.mov (.tmp 7))⟩,
      ⟨some 31, none, .prim (.bin false .and (.tmp 30) (.const (Go.Value.int Go.IntKind.u8 127)))⟩,
      ⟨some 32, none, .prim (.convi .u64 (.tmp 31))⟩,
      ⟨some 33, none, .prim (.mov (.tmp 6))⟩,
      ⟨some 34, none, .prim (.bin false .mul (.const (Go.Value.int Go.IntKind.i64 7)) (.tmp 33))⟩,
      ⟨some 35, none, .prim (.bin false .shl (.tmp 32) (.tmp 34))⟩,
      ⟨some 36, none, .prim (.bin false .or (.tmp 29) (.tmp 35))⟩,
      ⟨some 5, none, .prim (.mov (.tmp 36))⟩])
    (.seq (.ops [⟨some 37, none, .prim (.mov (.tmp 7))⟩,
      ⟨some 38, none, .prim (.bin false .lss (.tmp 37) (.const (Go.Value.int Go.IntKind.u8 128)))⟩])
    (.cond (.tmp 38)
    (.seq (.ops [⟨some 39, none, .prim (.mov (.tmp 5))⟩,
      ⟨some 40, none, .prim (.mov (.tmp 6))⟩,
      ⟨some 41, none, .prim (.bin false .add (.tmp 40) (.const (Go.Value.int Go.IntKind.i64 1)))⟩,
      ⟨some 2, none, .prim (.mov (.tmp 39))⟩,
      ⟨some 3, none, .prim (.mov (.tmp 41))⟩,
      ⟨some 4, none, .prim (.mov (.const (Go.Value.bool Bool.true)))⟩])
    .ret)
    .skip))))))
    (.ops [⟨some 42, none, .prim (.bin false .add (.tmp 10) (.const (Go.Value.int Go.IntKind.i64 1)))⟩,
      ⟨some 10, none, .prim (.mov (.tmp 42))⟩])))))))
    (.seq (.ops [⟨some 2, none, .prim (.mov (.const (Go.Value.int Go.IntKind.u64 0)))⟩,
      ⟨some 3, none, .prim (.mov (.const (Go.Value.int Go.IntKind.i64 0)))⟩,
      ⟨some 4, none, .prim (.mov (.const (Go.Value.bool Bool.false)))⟩])
    .ret))))
def o59 : List Tmp := []
def r59 : List RV := [.tmp 2, .tmp 3, .tmp 4]
theorem t59 : Text Tryz.prog 59 o59 c59 r59 43 := ⟨⟨Tryz.f59, _, by kernel_rfl, by kernel_rfl, rfl, by kernel_rfl, by kernel_rfl, rfl⟩, by kernel_rfl⟩

/-- sordine/vint.GetText -/
def c60 : ACode :=
  (.seq (.ops [⟨some 4, none, .prim (.mov (.const (Go.Value.string (ByteArray.mk #[]))))⟩,
      ⟨some 5, none, .prim (.mov (.const (Go.Value.int Go.IntKind.i64 0)))⟩,
      ⟨some 6, none, .prim (.mov (.const (Go.Value.bool Bool.false)))⟩])
    (.seq (.ops [⟨some 12, none, .prim (.mov (.tmp 0))⟩,
      ⟨some 13, none, .call (.func 59) [(.tmp 12)]⟩,
      ⟨some 11, none, .prim (.mov (.tmp 13))⟩,
      ⟨some 14, none, .prim (.extr 0 (.tmp 11))⟩,
      ⟨some 15, none, .prim (.extr 1 (.tmp 11))⟩,
      ⟨some 16, none, .prim (.extr 2 (.tmp 11))⟩,
      ⟨some 7, none, .prim (.mov (.tmp 14))⟩,
      ⟨some 8, none, .prim (.mov (.tmp 15))⟩,
      ⟨some 9, none, .prim (.mov (.tmp 16))⟩])
    (.seq (.seq (.ops [⟨some 17, none, .prim (.mov (.tmp 9))⟩,
      ⟨some 18, none, .prim (.un .not (.tmp 17))⟩,
      ⟨some 19, none, .prim (.mov (.tmp 18))⟩,
      ⟨some 20, (some (19, false)), .prim (.mov (.tmp 1))⟩,
      ⟨some 21, (some (19, false)), .prim (.bin false .lss (.tmp 20) (.const (Go.Value.int Go.IntKind.i64 0)))⟩,
      ⟨some 22, none, .prim (.pick (.tmp 19) (.const (Go.Value.bool Bool.true)) (.tmp 21))⟩,
      ⟨some 23, none, .prim (.mov (.tmp 22))⟩,
      ⟨some 24, (some (23, false)), .prim (.mov (.tmp 7))⟩,
      ⟨some 25, (some (23, false)), .prim (.mov (.tmp 1))⟩,
      ⟨some 26, (some (23, false)), .prim (.convi .u64 (.tmp 25))⟩,
      ⟨some 27, (some (23, false)), .prim (.bin false .gtr (.tmp 24) (.tmp 26))⟩,
      ⟨some 28, none, .prim (.pick (.tmp 23) (.const (Go.Value.bool Bool.true)) (.tmp 27))⟩,
      ⟨some 29, none, .prim (.mov (.tmp 28))⟩,
      ⟨some 30, (some (29, false)), .prim (.mov (.tmp 7))⟩,
      ⟨some 31, (some (29, false)), .prim (.mov (.tmp 0))⟩,
      ⟨some 32, (some (29, false)), .prim (.lenv (.tmp 31))⟩,
      ⟨some 33, (some (29, false)), .prim (.mov (.tmp 8))⟩,
      ⟨some 34, (some (29, false)), .prim (.bin false .sub (.tmp 32) (.tmp 33))⟩,
      ⟨some 35, (some (29, false)), .prim (.convi .u64 (.tmp 34))⟩,
      ⟨some 36, (some (29, false)), .prim (.bin false .gtr (.tmp 30) (.tmp 35))⟩,
      ⟨some 37, none, .prim (.pick (.tmp 29) (.const (Go.Value.bool Bool.true)) (.tmp 36))⟩])
    (.cond (.tmp 37)
    (.seq (.ops [⟨some 4, none, .prim (.mov (.const (Go.Value.string (ByteArray.mk #[]))))⟩,
      ⟨some 5, none, .prim (.mov (.const (Go.Value.int Go.IntKind.i64 0)))⟩,
      ⟨some 6, none, .prim (.mov (.const (Go.Value.bool Bool.false)))⟩])
    .ret)
    .skip))
    (.seq (.ops [⟨some 38, none, .prim (.mov (.tmp 8))⟩,
      ⟨some 39, none, .prim (.mov (.tmp 7))⟩,
      ⟨some 40, none, .prim (.convi .i64 (.tmp 39))⟩,
      ⟨some 41, none, .prim (.bin false .add (.tmp 38) (.tmp 40))⟩,
      ⟨some 10, none, .prim (.mov (.tmp 41))⟩])
    (.seq (.ops [⟨some 42, none, .prim (.mov (.tmp 0))⟩,
      ⟨some 43, none, .prim (.mov (.tmp 8))⟩,
      ⟨some 44, none, .prim (.mov (.tmp 10))⟩,
      ⟨some 45, none, .prim (.slcv 1 (.tmp 42) (some (.tmp 43)) (some (.tmp 44)))⟩,
      ⟨some 46, none, .prim (.b2s (.tmp 45))⟩,
      ⟨some 47, none, .prim (.mov (.tmp 10))⟩,
      ⟨some 4, none, .prim (.mov (.tmp 46))⟩,
      ⟨some 5, none, .prim (.mov (.tmp 47))⟩,
      ⟨some 6, none, .prim (.mov (.const (Go.Value.bool Bool.true)))⟩])
    .ret)))))
def o60 : List Tmp := []
def r60 : List RV := [.tmp 4, .tmp 5, .tmp 6]
theorem t60 : Text Tryz.prog 60 o60 c60 r60 48 := ⟨⟨Tryz.f60, _, by kernel_rfl, by kernel_rfl, rfl, by kernel_rfl, by kernel_rfl, rfl⟩, by kernel_rfl⟩

/-- sordine/match.List -/
def c61 : ACode :=
  (.seq (.ops [⟨some 2, none, .prim (.mov (.const (Go.Value.bool Bool.false)))⟩])
    (.seq (.seq (.ops [⟨some 5, none, .prim (.mov (.tmp 0))⟩,
      ⟨some 6, none, .prim (.lenv (.tmp 5))⟩,
      ⟨some 7, none, .prim (.bin false .gtr (.tmp 6) (.const (Go.Value.int Go.IntKind.i64 5)))⟩])
    (.cond (.tmp 7)
    (.seq (.ops [⟨some 2, none, .prim (.mov (.const (Go.Value.bool Bool.false)))⟩])
    .ret)
    .skip))
    (.seq (.seq (.ops [⟨some 8, none, .prim (.mov (.tmp 0))⟩,
      ⟨some 9, none, .prim (.lenv (.tmp 8))⟩,
      ⟨some 10, none, .prim (.mov (.const (Go.Value.int Go.IntKind.i64 0)))⟩])
    (.block 0 (.loop [1, 2, 3, 4, 5, 6, 7, 11, 12, 13, 14, 15, 16, 17, 18, 19, 20, 21, 22, 23, 24, 25, 26, 27, 28, 29, 30, 31, 32] (.seq (.ops [⟨some 11, none, .prim (.bin false .lss (.tmp 10) (.tmp 9))⟩])
    (.seq (.cond (.tmp 11)
    .skip
    (.exit 0))
    (.seq (.block 1 (.seq (.ops [⟨some 12, none, .prim (.mov (.tmp 10))⟩,
      ⟨some 13, none, .prim (.iadrs 3 (.tmp 8) (.tmp 10))⟩,
      ⟨some 14, none, .prim (.load 3 true (.tmp 13))⟩,
      ⟨some 4, none, .prim (.allocm [.pl (.int .i64 0), .pl (.string .empty), .pl (.string .empty)])⟩,
      ⟨some 3, none, .prim (.mov (.tmp 12))⟩,
      ⟨none, none, .prim (.store 3 (.tmp 4) (.tmp 14))⟩])
    (.seq (.draw [⟨⟨some 15, none, .prim (.load 3 true (.tmp 4))⟩, [], false, 0, 0⟩,
      ⟨⟨some 16, none, .call (.func 71) [(.tmp 15)]⟩, [0], true, 0, 0⟩,
      ⟨⟨some 17, none, .prim (.un .not (.tmp 16))⟩, [0, 1], false, 1, 1⟩,
      ⟨⟨some 18, none, .prim (.mov (.tmp 17))⟩, [0, 1, 2], false, 1, 1⟩,
      ⟨⟨some 19, (some (18, false)), .prim (.mov (.tmp 3))⟩, [0, 1, 2, 3], false, 1, 1⟩,
      ⟨⟨some 20, (some (18, false)), .prim (.bin false .gtr (.tmp 19) (.const (Go.Value.int Go.IntKind.i64 0)))⟩, [0, 1, 2, 3, 4], false, 1, 1⟩,
      ⟨⟨some 21, (some (18, false)), .prim (.mov (.tmp 20))⟩, [0, 1, 2, 3, 4, 5], false, 1, 1⟩,
      ⟨⟨some 22, (some (21, true)), .prim (.mov (.tmp 0))⟩, [0, 1, 2, 3, 4, 5, 6], false, 1, 1⟩,
      ⟨⟨some 23, (some (21, true)), .prim (.mov (.tmp 3))⟩, [0, 1, 2, 3, 4, 5, 6], false, 1, 1⟩,
      ⟨⟨some 24, (some (21, true)), .prim (.bin false .sub (.tmp 23) (.const (Go.Value.int Go.IntKind.i64 1)))⟩, [0, 1, 2, 3, 4, 5, 6, 8], false, 1, 1⟩,
      ⟨⟨some 25, (some (21, true)), .prim (.iadrs 3 (.tmp 22) (.tmp 24))⟩, [0, 1, 2, 3, 4, 5, 6, 7, 8, 9], false, 1, 1⟩,
      ⟨⟨some 26, (some (21, true)), .prim (.load 3 true (.tmp 25))⟩, [0, 1, 2, 3, 4, 5, 6, 7, 8, 9, 10], false, 1, 1⟩,
      ⟨⟨some 27, (some (21, true)), .prim (.load 3 true (.tmp 4))⟩, [0, 1, 2, 3, 4, 5, 6], false, 1, 1⟩,
      ⟨⟨some 28, (some (21, true)), .call (.func 72) [(.tmp 26), (.tmp 27)]⟩, [0, 1, 2, 3, 4, 5, 6, 7, 8, 9, 10, 11, 12], true, 0, 0⟩,
      ⟨⟨some 29, (some (21, true)), .prim (.bin false .geq (.tmp 28) (.const (Go.Value.int Go.IntKind.i64 0)))⟩, [0, 1, 2, 3, 4, 5, 6, 7, 8, 9, 10, 11, 12, 13], false, 2, 2⟩,
      ⟨⟨some 30, (some (18, false)), .prim (.pick (.tmp 21) (.tmp 29) (.const (Go.Value.bool Bool.false)))⟩, [0, 1, 2, 3, 4, 5, 6, 7, 8, 9, 10, 11, 12, 13, 14], false, 2, 2⟩,
      ⟨⟨some 31, none, .prim (.pick (.tmp 18) (.const (Go.Value.bool Bool.true)) (.tmp 30))⟩, [0, 1, 2, 3, 4, 5, 6, 7, 8, 9, 10, 11, 12, 13, 14, 15], false, 2, 2⟩])
    (.cond (.tmp 31)
    (.seq (.ops [⟨some 2, none, .prim (.mov (.const (Go.Value.bool Bool.false)))⟩])
    .ret)
    .skip))))
    (.ops [⟨some 32, none, .prim (.bin false .add (.tmp 10) (.const (Go.Value.int Go.IntKind.i64 1)))⟩,
      ⟨some 10, none, .prim (.mov (.tmp 32))⟩])))))))
    (.seq (.ops [⟨some 2, none, .prim (.mov (.const (Go.Value.bool Bool.true)))⟩])
    .ret))))
def o61 : List Tmp := [4]
def r61 : List RV := [.tmp 2]
theorem t61 : Text Tryz.prog 61 o61 c61 r61 33 := ⟨⟨Tryz.f61, _, by kernel_rfl, by kernel_rfl, rfl, by kernel_rfl, by kernel_rfl, rfl⟩, by kernel_rfl⟩

/-- sordine/rule.value -/
def c62 : ACode :=
  (.seq (.ops [⟨some 2, none, .prim (.mov (.const (Go.Value.float Go.FloatKind.f64 0)))⟩])
    (.seq (.ops [⟨some 6, none, .prim (.mov (.tmp 0))⟩,
      ⟨some 7, none, .call (.func 55) [(.tmp 6)]⟩,
      ⟨some 8, none, .call (.func 54) [(.tmp 7)]⟩,
      ⟨some 5, none, .prim (.mov (.tmp 8))⟩,
      ⟨some 9, none, .prim (.extr 0 (.tmp 5))⟩,
      ⟨some 10, none, .prim (.extr 1 (.tmp 5))⟩,
      ⟨some 3, none, .prim (.mov (.tmp 9))⟩,
      ⟨some 4, none, .prim (.mov (.tmp 10))⟩])
    (.seq (.ops [⟨some 11, none, .prim (.mov (.tmp 0))⟩,
      ⟨some 12, none, .prim (.mov (.tmp 4))⟩,
      ⟨some 13, none, .call (.func 43) [(.tmp 11), (.tmp 12)]⟩])
    (.seq (.ops [⟨some 14, none, .prim (.mov (.tmp 3))⟩,
      ⟨some 2, none, .prim (.mov (.tmp 14))⟩])
    .ret))))
def o62 : List Tmp := []
def r62 : List RV := [.tmp 2]
theorem t62 : Text Tryz.prog 62 o62 c62 r62 15 := ⟨⟨Tryz.f62, _, by kernel_rfl, by kernel_rfl, rfl, by kernel_rfl, by kernel_rfl, rfl⟩, by kernel_rfl⟩

/-- sordine/real.May -/
def c63 : ACode :=
  (.seq (.ops [⟨some 1, none, .prim (.boxr (.tmp 0))⟩,
      ⟨some 2, none, .prim (.mov (.const (Go.Value.bool Bool.false)))⟩])
    (.seq (.seq (.ops [⟨some 3, none, .prim (.fadr 0 (.tmp 1))⟩,
      ⟨some 4, none, .prim (.load 1 false (.tmp 3))⟩])
    (.cond (.tmp 4)
    (.seq (.ops [⟨some 5, none, .prim (.fadr 1 (.tmp 1))⟩,
      ⟨some 6, none, .prim (.load 1 false (.tmp 5))⟩,
      ⟨some 7, none, .call (.func 67) [(.tmp 6)]⟩,
      ⟨some 8, none, .prim (.bin false .eql (.tmp 7) (.const (Go.Value.int Go.IntKind.u64 0)))⟩,
      ⟨some 9, none, .prim (.mov (.tmp 8))⟩,
      ⟨some 10, (some (9, true)), .prim (.fadr 2 (.tmp 1))⟩,
      ⟨some 11, (some (9, true)), .prim (.load 1 false (.tmp 10))⟩,
      ⟨some 12, (some (9, true)), .call (.func 67) [(.tmp 11)]⟩,
      ⟨some 13, (some (9, true)), .prim (.bin false .eql (.tmp 12) (.const (Go.Value.int Go.IntKind.u64 0)))⟩,
      ⟨some 14, none, .prim (.pick (.tmp 9) (.tmp 13) (.const (Go.Value.bool Bool.false)))⟩,
      ⟨some 2, none, .prim (.mov (.tmp 14))⟩])
    .ret)
    .skip))
    (.seq (.ops [⟨some 15, none, .prim (.fadr 1 (.tmp 1))⟩,
      ⟨some 16, none, .prim (.load 1 false (.tmp 15))⟩,
      ⟨some 17, none, .prim (.fadr 2 (.tmp 1))⟩,
      ⟨some 18, none, .prim (.load 1 false (.tmp 17))⟩,
      ⟨some 19, none, .prim (.bin false .leq (.tmp 16) (.tmp 18))⟩,
      ⟨some 2, none, .prim (.mov (.tmp 19))⟩])
    .ret)))
def o63 : List Tmp := []
def r63 : List RV := [.tmp 2]
theorem t63 : Text Tryz.prog 63 o63 c63 r63 20 := ⟨⟨Tryz.f63, _, by kernel_rfl, by kernel_rfl, rfl, by kernel_rfl, by kernel_rfl, rfl⟩, by kernel_rfl⟩

/-- sordine/rule.Is -/
def c64 : ACode :=
  (.seq (.ops [⟨some 1, none, .prim (.boxr (.tmp 0))⟩,
      ⟨some 2, none, .prim (.mov (.const (Go.Value.bool Bool.false)))⟩])
    (.seq (.seq (.ops [⟨some 5, none, .prim (.fadr 0 (.tmp 1))⟩,
      ⟨some 6, none, .prim (.load 1 false (.tmp 5))⟩,
      ⟨some 7, none, .prim (.lenv (.tmp 6))⟩,
      ⟨some 8, none, .prim (.bin false .eql (.tmp 7) (.const (Go.Value.int Go.IntKind.i64 0)))⟩,
      ⟨some 9, none, .prim (.mov (.tmp 8))⟩,
      ⟨some 10, (some (9, false)), .prim (.fadr 1 (.tmp 1))⟩,
      ⟨some 11, (some (9, false)), .prim (.load 1 false (.tmp 10))⟩,
      ⟨some 12, (some (9, false)), .prim (.lenv (.tmp 11))⟩,
      ⟨some 13, (some (9, false)), .prim (.bin false .eql (.tmp 12) (.const (Go.Value.int Go.IntKind.i64 0)))⟩,
      ⟨some 14, none, .prim (.pick (.tmp 9) (.const (Go.Value.bool Bool.true)) (.tmp 13))⟩,
      ⟨some 15, none, .prim (.mov (.tmp 14))⟩,
      ⟨some 16, (some (15, false)), .prim (.fadr 0 (.tmp 1))⟩,
      ⟨some 17, (some (15, false)), .prim (.load 1 false (.tmp 16))⟩,
      ⟨some 18, (some (15, false)), .call (.func 61) [(.tmp 17)]⟩,
      ⟨some 19, (some (15, false)), .prim (.un .not (.tmp 18))⟩,
      ⟨some 20, none, .prim (.pick (.tmp 15) (.const (Go.Value.bool Bool.true)) (.tmp 19))⟩,
      ⟨some 21, none, .prim (.mov (.tmp 20))⟩,
      ⟨some 22, (some (21, false)), .prim (.fadr 1 (.tmp 1))⟩,
      ⟨some 23, (some (21, false)), .prim (.load 1 false (.tmp 22))⟩,
      ⟨some 24, (some (21, false)), .call (.func 61) [(.tmp 23)]⟩,
      ⟨some 25, (some (21, false)), .prim (.un .not (.tmp 24))⟩,
      ⟨some 26, none, .prim (.pick (.tmp 21) (.const (Go.Value.bool Bool.true)) (.tmp 25))⟩,
      ⟨some 27, none, .prim (.mov (.tmp 26))⟩,
      ⟨some 28, (some (27, false)), .prim (.fadr 2 (.tmp 1))⟩,
      ⟨some 29, (some (27, false)), .prim (.load 3 true (.tmp 28))⟩,
      ⟨some 30, (some (27, false)), .call (.func 63) [(.tmp 29)]⟩,
      ⟨some 31, (some (27, false)), .prim (.un .not (.tmp 30))⟩,
      ⟨some 32, none, .prim (.pick (.tmp 27) (.const (Go.Value.bool Bool.true)) (.tmp 31))⟩,
      ⟨some 33, none, .prim (.mov (.tmp 32))⟩,
      ⟨some 34, (some (33, false)), .prim (.fadr 5 (.tmp 1))⟩,
      ⟨some 35, (some (33, false)), .prim (.load 1 false (.tmp 34))⟩,
      ⟨some 36, (some (33, false)), .prim (.lenv (.tmp 35))⟩,
      ⟨some 37, (some (33, false)), .prim (.bin false .gtr (.tmp 36) (.const (Go.Value.int Go.IntKind.i64 4)))⟩,
      ⟨some 38, none, .prim (.pick (.tmp 33) (.const (Go.Value.bool Bool.true)) (.tmp 37))⟩])
    (.cond (.tmp 38)
    (.seq (.ops [⟨some 2, none, .prim (.mov (.const (Go.Value.bool Bool.false)))⟩])
    .ret)
    .skip))
    (.seq (.seq (.ops [⟨some 39, none, .prim (.fadr 5 (.tmp 1))⟩,
      ⟨some 40, none, .prim (.load 1 false (.tmp 39))⟩,
      ⟨some 41, none, .prim (.lenv (.tmp 40))⟩,
      ⟨some 42, none, .prim (.mov (.const (Go.Value.int Go.IntKind.i64 0)))⟩])
    (.block 0 (.loop [0, 2, 3, 4, 5, 6, 7, 8, 9, 10, 11, 12, 13, 14, 15, 16, 17, 18, 19, 20, 21, 22, 23, 24, 25, 26, 27, 28, 29, 30, 31, 32, 33, 34, 35, 36, 37, 38, 39, 43, 44, 45, 46, 47, 48, 49, 50, 51, 52, 53, 54, 55, 56, 57, 58, 59, 60, 61, 62, 63, 64] (.seq (.ops [⟨some 43, none, .prim (.bin false .lss (.tmp 42) (.tmp 41))⟩])
    (.seq (.cond (.tmp 43)
    .skip
    (.exit 0))
    (.seq (.block 1 (.seq (.ops [⟨some 44, none, .prim (.mov (.tmp 42))⟩,
      ⟨some 45, none, .prim (.iadrs 1 (.tmp 40) (.tmp 42))⟩,
      ⟨some 46, none, .prim (.load 1 false (.tmp 45))⟩,
      ⟨some 3, none, .prim (.mov (.tmp 44))⟩,
      ⟨some 4, none, .prim (.mov (.tmp 46))⟩])
    (.seq (.ops [⟨some 47, none, .prim (.mov (.tmp 4))⟩,
      ⟨some 48, none, .call (.func 73) [(.tmp 47)]⟩,
      ⟨some 49, none, .prim (.un .not (.tmp 48))⟩,
      ⟨some 50, none, .prim (.mov (.tmp 49))⟩,
      ⟨some 51, (some (50, false)), .prim (.mov (.tmp 3))⟩,
      ⟨some 52, (some (50, false)), .prim (.bin false .gtr (.tmp 51) (.const (Go.Value.int Go.IntKind.i64 0)))⟩,
      ⟨some 53, (some (50, false)), .prim (.mov (.tmp 52))⟩,
      ⟨some 54, (some (53, true)), .prim (.mov (.tmp 4))⟩,
      ⟨some 55, (some (53, true)), .prim (.fadr 5 (.tmp 1))⟩,
      ⟨some 56, (some (53, true)), .prim (.load 1 false (.tmp 55))⟩,
      ⟨some 57, (some (53, true)), .prim (.mov (.tmp 3))⟩,
      ⟨some 58, (some (53, true)), .prim (.bin false .sub (.tmp 57) (.const (Go.Value.int Go.IntKind.i64 1)))⟩,
      ⟨some 59, (some (53, true)), .prim (.iadrs 1 (.tmp 56) (.tmp 58))⟩,
      ⟨some 60, (some (53, true)), .prim (.load 1 false (.tmp 59))⟩,
      ⟨some 61, (some (53, true)), .prim (.bin false .leq (.tmp 54) (.tmp 60))⟩,
      ⟨some 62, (some (50, false)), .prim (.pick (.tmp 53) (.tmp 61) (.const (Go.Value.bool Bool.false)))⟩,
      ⟨some 63, none, .prim (.pick (.tmp 50) (.const (Go.Value.bool Bool.true)) (.tmp 62))⟩])
    (.cond (.tmp 63)
    (.seq (.ops [⟨some 2, none, .prim (.mov (.const (Go.Value.bool Bool.false)))⟩])
    .ret)
    .skip))))
    (.ops [⟨some 64, none, .prim (.bin false .add (.tmp 42) (.const (Go.Value.int Go.IntKind.i64 1)))⟩,
      ⟨some 42, none, .prim (.mov (.tmp 64))⟩])))))))
    (.seq (.ops [⟨some 2, none, .prim (.mov (.const (Go.Value.bool Bool.true)))⟩])
    .ret))))
def o64 : List Tmp := []
def r64 : List RV := [.tmp 2]
theorem t64 : Text Tryz.prog 64 o64 c64 r64 65 := ⟨⟨Tryz.f64, _, by kernel_rfl, by kernel_rfl, rfl, by kernel_rfl, by kernel_rfl, rfl⟩, by kernel_rfl⟩

/-- sordine/labels.Is -/
def c65 : ACode :=
  (.seq (.ops [⟨some 2, none, .prim (.mov (.const (Go.Value.bool Bool.false)))⟩])
    (.seq (.seq (.ops [⟨some 5, none, .prim (.mov (.tmp 0))⟩,
      ⟨some 6, none, .prim (.lenv (.tmp 5))⟩,
      ⟨some 7, none, .prim (.bin false .lss (.tmp 6) (.const (Go.Value.int Go.IntKind.i64 1)))⟩,
      ⟨some 8, none, .prim (.mov (.tmp 7))⟩,
      ⟨some 9, (some (8, false)), .prim (.mov (.tmp 0))⟩,
      ⟨some 10, (some (8, false)), .prim (.lenv (.tmp 9))⟩,
      ⟨some 11, (some (8, false)), .prim (.bin false .gtr (.tmp 10) (.const (Go.Value.int Go.IntKind.i64 6)))⟩,
      ⟨some 12, none, .prim (.pick (.tmp 8) (.const (Go.Value.bool Bool.true)) (.tmp 11))⟩])
    (.cond (.tmp 12)
    (.seq (.ops [⟨some 2, none, .prim (.mov (.const (Go.Value.bool Bool.false)))⟩])
    .ret)
    .skip))
    (.seq (.seq (.ops [⟨some 13, none, .prim (.mov (.tmp 0))⟩,
      ⟨some 14, none, .prim (.lenv (.tmp 13))⟩,
      ⟨some 15, none, .prim (.mov (.const (Go.Value.int Go.IntKind.i64 0)))⟩])
    (.block 0 (.loop [1, 2, 3, 4, 5, 6, 7, 8, 9, 10, 11, 12, 16, 17, 18, 19, 20, 21, 22, 23, 24, 25, 26, 27, 28, 29, 30, 31, 32, 33, 34, 35, 36, 37, 38, 39, 40, 41, 42, 43, 44, 45] (.seq (.ops [⟨some 16, none, .prim (.bin false .lss (.tmp 15) (.tmp 14))⟩])
    (.seq (.cond (.tmp 16)
    .skip
    (.exit 0))
    (.seq (.block 1 (.seq (.ops [⟨some 17, none, .prim (.mov (.tmp 15))⟩,
      ⟨some 18, none, .prim (.iadrs 2 (.tmp 13) (.tmp 15))⟩,
      ⟨some 19, none, .prim (.load 2 true (.tmp 18))⟩,
      ⟨some 4, none, .prim (.allocm [.pl (.string .empty), .pl (.string .empty)])⟩,
      ⟨some 3, none, .prim (.mov (.tmp 17))⟩,
      ⟨none, none, .prim (.store 2 (.tmp 4) (.tmp 19))⟩])
    (.seq (.draw [⟨⟨some 20, none, .prim (.fadr 0 (.tmp 4))⟩, [], false, 0, 0⟩,
      ⟨⟨some 21, none, .prim (.load 1 false (.tmp 20))⟩, [0], false, 0, 0⟩,
      ⟨⟨some 22, none, .call (.func 73) [(.tmp 21)]⟩, [0, 1], true, 0, 0⟩,
      ⟨⟨some 23, none, .prim (.un .not (.tmp 22))⟩, [0, 1, 2], false, 1, 1⟩,
      ⟨⟨some 24, none, .prim (.mov (.tmp 23))⟩, [0, 1, 2, 3], false, 1, 1⟩,
      ⟨⟨some 25, (some (24, false)), .prim (.fadr 1 (.tmp 4))⟩, [0, 1, 2, 3, 4], false, 1, 1⟩,
      ⟨⟨some 26, (some (24, false)), .prim (.load 1 false (.tmp 25))⟩, [0, 1, 2, 3, 4, 5], false, 1, 1⟩,
      ⟨⟨some 27, (some (24, false)), .call (.func 74) [(.tmp 26)]⟩, [0, 1, 2, 3, 4, 5, 6], true, 0, 0⟩,
      ⟨⟨some 28, (some (24, false)), .prim (.un .not (.tmp 27))⟩, [0, 1, 2, 3, 4, 5, 6, 7], false, 2, 2⟩,
      ⟨⟨some 29, none, .prim (.pick (.tmp 24) (.const (Go.Value.bool Bool.true)) (.tmp 28))⟩, [0, 1, 2, 3, 4, 5, 6, 7, 8], false, 2, 2⟩,
      ⟨⟨some 30, none, .prim (.mov (.tmp 29))⟩, [0, 1, 2, 3, 4, 5, 6, 7, 8, 9], false, 2, 2⟩,
      ⟨⟨some 31, (some (30, false)), .prim (.mov (.tmp 3))⟩, [0, 1, 2, 3, 4, 5, 6, 7, 8, 9, 10], false, 2, 2⟩,
      ⟨⟨some 32, (some (30, false)), .prim (.bin false .gtr (.tmp 31) (.const (Go.Value.int Go.IntKind.i64 0)))⟩, [0, 1, 2, 3, 4, 5, 6, 7, 8, 9, 10, 11], false, 2, 2⟩,
      ⟨⟨some 33, (some (30, false)), .prim (.mov (.tmp 32))⟩, [0, 1, 2, 3, 4, 5, 6, 7, 8, 9, 10, 11, 12], false, 2, 2⟩,
      ⟨⟨some 34, (some (33, true)), .prim (.fadr 0 (.tmp 4))⟩, [0, 1, 2, 3, 4, 5, 6, 7, 8, 9, 10, 11, 12, 13], false, 2, 2⟩,
      ⟨⟨some 35, (some (33, true)), .prim (.load 1 false (.tmp 34))⟩, [0, 1, 2, 3, 4, 5, 6, 7, 8, 9, 10, 11, 12, 13, 14], false, 2, 2⟩,
      ⟨⟨some 36, (some (33, true)), .prim (.mov (.tmp 0))⟩, [0, 1, 2, 3, 4, 5, 6, 7, 8, 9, 10, 11, 12, 13], false, 2, 2⟩,
      ⟨⟨some 37, (some (33, true)), .prim (.mov (.tmp 3))⟩, [0, 1, 2, 3, 4, 5, 6, 7, 8, 9, 10, 11, 12, 13], false, 2, 2⟩,
      ⟨⟨some 38, (some (33, true)), .prim (.bin false .sub (.tmp 37) (.const (Go.Value.int Go.IntKind.i64 1)))⟩, [0, 1, 2, 3, 4, 5, 6, 7, 8, 9, 10, 11, 12, 13, 17], false, 2, 2⟩,
      ⟨⟨some 39, (some (33, true)), .prim (.iadrs 2 (.tmp 36) (.tmp 38))⟩, [0, 1, 2, 3, 4, 5, 6, 7, 8, 9, 10, 11, 12, 13, 16, 17, 18], false, 2, 2⟩,
      ⟨⟨some 40, (some (33, true)), .prim (.fadr 0 (.tmp 39))⟩, [0, 1, 2, 3, 4, 5, 6, 7, 8, 9, 10, 11, 12, 13, 16, 17, 18, 19], false, 2, 2⟩,
      ⟨⟨some 41, (some (33, true)), .prim (.load 1 false (.tmp 40))⟩, [0, 1, 2, 3, 4, 5, 6, 7, 8, 9, 10, 11, 12, 13, 16, 17, 18, 19, 20], false, 2, 2⟩,
      ⟨⟨some 42, (some (33, true)), .prim (.bin false .leq (.tmp 35) (.tmp 41))⟩, [0, 1, 2, 3, 4, 5, 6, 7, 8, 9, 10, 11, 12, 13, 14, 15, 16, 17, 18, 19, 20, 21], false, 2, 2⟩,
      ⟨⟨some 43, (some (30, false)), .prim (.pick (.tmp 33) (.tmp 42) (.const (Go.Value.bool Bool.false)))⟩, [0, 1, 2, 3, 4, 5, 6, 7, 8, 9, 10, 11, 12, 13, 14, 15, 16, 17, 18, 19, 20, 21, 22], false, 2, 2⟩,
      ⟨⟨some 44, none, .prim (.pick (.tmp 30) (.const (Go.Value.bool Bool.true)) (.tmp 43))⟩, [0, 1, 2, 3, 4, 5, 6, 7, 8, 9, 10, 11, 12, 13, 14, 15, 16, 17, 18, 19, 20, 21, 22, 23], false, 2, 2⟩])
    (.cond (.tmp 44)
    (.seq (.ops [⟨some 2, none, .prim (.mov (.const (Go.Value.bool Bool.false)))⟩])
    .ret)
    .skip))))
    (.ops [⟨some 45, none, .prim (.bin false .add (.tmp 15) (.const (Go.Value.int Go.IntKind.i64 1)))⟩,
      ⟨some 15, none, .prim (.mov (.tmp 45))⟩])))))))
    (.seq (.ops [⟨some 2, none, .prim (.mov (.const (Go.Value.bool Bool.true)))⟩])
    .ret))))
def o65 : List Tmp := [4]
def r65 : List RV := [.tmp 2]
theorem t65 : Text Tryz.prog 65 o65 c65 r65 46 := ⟨⟨Tryz.f65, _, by kernel_rfl, by kernel_rfl, rfl, by kernel_rfl, by kernel_rfl, rfl⟩, by kernel_rfl⟩

/-- sordine/real.Bits -/
def c67 : ACode :=
  (.seq (.ops [⟨some 2, none, .prim (.mov (.const (Go.Value.int Go.IntKind.u64 0)))⟩])
    (.seq (.seq (.ops [⟨some 3, none, .prim (.mov (.tmp 0))⟩,
      ⟨some 4, none, .call (.func 75) [(.tmp 3)]⟩])
    (.cond (.tmp 4)
    (.seq (.ops [⟨some 2, none, .prim (.mov (.const (Go.Value.int Go.IntKind.u64 9221120237041090561)))⟩])
    .ret)
    .skip))
    (.seq (.ops [⟨some 5, none, .prim (.mov (.tmp 0))⟩,
      ⟨some 6, none, .call (.func 76) [(.tmp 5)]⟩,
      ⟨some 2, none, .prim (.mov (.tmp 6))⟩])
    .ret)))
def o67 : List Tmp := []
def r67 : List RV := [.tmp 2]
theorem t67 : Text Tryz.prog 67 o67 c67 r67 7 := ⟨⟨Tryz.f67, _, by kernel_rfl, by kernel_rfl, rfl, by kernel_rfl, by kernel_rfl, rfl⟩, by kernel_rfl⟩

/-- sordine/vint.GetWord -/
def c68 : ACode :=
  (.seq (.ops [⟨some 2, none, .prim (.mov (.const (Go.Value.int Go.IntKind.u64 0)))⟩,
      ⟨some 3, none, .prim (.mov (.const (Go.Value.bool Bool.false)))⟩])
    (.seq (.seq (.ops [⟨some 7, none, .prim (.mov (.tmp 0))⟩,
      ⟨some 8, none, .prim (.lenv (.tmp 7))⟩,
      ⟨some 9, none, .prim (.bin false .lss (.tmp 8) (.const (Go.Value.int Go.IntKind.i64 8)))⟩])
    (.cond (.tmp 9)
    (.seq (.ops [⟨some 2, none, .prim (.mov (.const (Go.Value.int Go.IntKind.u64 0)))⟩,
      ⟨some 3, none, .prim (.mov (.const (Go.Value.bool Bool.false)))⟩])
    .ret)
    .skip))
    (.seq (.ops [⟨some 4, none, .prim (.mov (.const (Go.Value.int Go.IntKind.u64 0)))⟩])
    (.seq (.seq (.ops [⟨some 10, none, .prim (.mov (.tmp 0))⟩,
      ⟨some 11, none, .prim (.slcv 1 (.tmp 10) none (some (.const (Go.Value.int Go.IntKind.i64 8))))⟩,
      ⟨some 12, none, .prim (.lenv (.tmp 11))⟩,
      ⟨some 13, none, .prim (.mov (.const (Go.Value.int Go.IntKind.i64 0)))⟩])
    (.block 0 (.loop [0, 1, 2, 3, 5, 6, 7, 8, 9, 10, 14, 15, 16, 17, 18, 19, 20, 21, 22, 23] (.seq (.ops [⟨some 14, none, .prim (.bin false .lss (.tmp 13) (.tmp 12))⟩])
    (.seq (.cond (.tmp 14)
    .skip
    (.exit 0))
    (.seq (.block 1 (.seq (.ops [⟨some 15, none, .prim (.iadrs 1 (.tmp 11) (.tmp 13))⟩,
      ⟨some 16, none, .prim (.load 1 false (.tmp 15))⟩,
      ⟨some 6, none, .prim (.mov (.tmp 16))⟩])
    (.ops [⟨some 17, none, .prim (.mov (.tmp 4))⟩,
      ⟨some 18, none, .prim (.bin false .shl (.tmp 17) (.const (Go.Value.int Go.IntKind.u64 8)))⟩,
      ⟨some 19, none, .prim (.mov (.tmp 6))⟩,
      ⟨some 20, none, .prim (.convi .u64 (.tmp 19))⟩,
      ⟨some 21, none, .prim (.bin false .or (.tmp 18) (.tmp 20))⟩,
      ⟨some 4, none, .prim (.mov (.tmp 21))⟩])))
    (.ops [⟨some 22, none, .prim (.bin false .add (.tmp 13) (.const (Go.Value.int Go.IntKind.i64 1)))⟩,
      ⟨some 13, none, .prim (.mov (.tmp 22))⟩])))))))
    (.seq (.ops [⟨some 23, none, .prim (.mov (.tmp 4))⟩,
      ⟨some 2, none, .prim (.mov (.tmp 23))⟩,
      ⟨some 3, none, .prim (.mov (.const (Go.Value.bool Bool.true)))⟩])
    .ret)))))
def o68 : List Tmp := []
def r68 : List RV := [.tmp 2, .tmp 3]
theorem t68 : Text Tryz.prog 68 o68 c68 r68 24 := ⟨⟨Tryz.f68, _, by kernel_rfl, by kernel_rfl, rfl, by kernel_rfl, by kernel_rfl, rfl⟩, by kernel_rfl⟩

/-- sordine/req.zero -/
def c69 : ACode :=
  (.seq (.ops [⟨some 2, none, .prim (.boxr (.tmp 0))⟩,
      ⟨some 4, none, .prim (.mov (.const (Go.Value.bool Bool.false)))⟩])
    (.seq (.ops [⟨some 5, none, .prim (.mov (.tmp 1))⟩,
      ⟨some 6, none, .prim (.bin false .and (.tmp 5) (.const (Go.Value.int Go.IntKind.i64 1)))⟩,
      ⟨some 7, none, .prim (.bin false .gtr (.tmp 6) (.const (Go.Value.int Go.IntKind.i64 0)))⟩,
      ⟨some 8, none, .prim (.mov (.tmp 7))⟩,
      ⟨some 9, (some (8, false)), .prim (.fadr 2 (.tmp 2))⟩,
      ⟨some 10, (some (8, false)), .prim (.load 1 false (.tmp 9))⟩,
      ⟨some 11, (some (8, false)), .prim (.bin false .eql (.tmp 10) (.const (Go.Value.int Go.IntKind.i64 0)))⟩,
      ⟨some 12, none, .prim (.pick (.tmp 8) (.const (Go.Value.bool Bool.true)) (.tmp 11))⟩,
      ⟨some 13, none, .prim (.mov (.tmp 12))⟩,
      ⟨some 14, (some (13, true)), .prim (.mov (.tmp 1))⟩,
      ⟨some 15, (some (13, true)), .prim (.bin false .and (.tmp 14) (.const (Go.Value.int Go.IntKind.i64 2)))⟩,
      ⟨some 16, (some (13, true)), .prim (.bin false .gtr (.tmp 15) (.const (Go.Value.int Go.IntKind.i64 0)))⟩,
      ⟨some 17, (some (13, true)), .prim (.mov (.tmp 16))⟩,
      ⟨some 18, (some (17, false)), .prim (.fadr 3 (.tmp 2))⟩,
      ⟨some 19, (some (17, false)), .prim (.load 1 false (.tmp 18))⟩,
      ⟨some 20, (some (17, false)), .prim (.bin false .eql (.tmp 19) (.const (Go.Value.string (ByteArray.mk #[]))))⟩,
      ⟨some 21, (some (13, true)), .prim (.pick (.tmp 17) (.const (Go.Value.bool Bool.true)) (.tmp 20))⟩,
      ⟨some 22, none, .prim (.pick (.tmp 13) (.tmp 21) (.const (Go.Value.bool Bool.false)))⟩,
      ⟨some 23, none, .prim (.mov (.tmp 22))⟩,
      ⟨some 24, (some (23, true)), .prim (.mov (.tmp 1))⟩,
      ⟨some 25, (some (23, true)), .prim (.bin false .and (.tmp 24) (.const (Go.Value.int Go.IntKind.i64 4)))⟩,
      ⟨some 26, (some (23, true)), .prim (.bin false .gtr (.tmp 25) (.const (Go.Value.int Go.IntKind.i64 0)))⟩,
      ⟨some 27, (some (23, true)), .prim (.mov (.tmp 26))⟩,
      ⟨some 28, (some (27, false)), .prim (.fadr 4 (.tmp 2))⟩,
      ⟨some 29, (some (27, false)), .prim (.load 1 false (.tmp 28))⟩,
      ⟨some 30, (some (27, false)), .prim (.bin false .eql (.tmp 29) (.const (Go.Value.int Go.IntKind.u64 0)))⟩,
      ⟨some 31, (some (27, false)), .prim (.mov (.tmp 30))⟩,
      ⟨some 32, (some (31, true)), .prim (.fadr 5 (.tmp 2))⟩,
      ⟨some 33, (some (31, true)), .prim (.load 1 false (.tmp 32))⟩,
      ⟨some 34, (some (31, true)), .prim (.bin false .eql (.tmp 33) (.const (Go.Value.int Go.IntKind.u64 0)))⟩,
      ⟨some 35, (some (27, false)), .prim (.pick (.tmp 31) (.tmp 34) (.const (Go.Value.bool Bool.false)))⟩,
      ⟨some 36, (some (23, true)), .prim (.pick (.tmp 27) (.const (Go.Value.bool Bool.true)) (.tmp 35))⟩,
      ⟨some 37, none, .prim (.pick (.tmp 23) (.tmp 36) (.const (Go.Value.bool Bool.false)))⟩,
      ⟨some 38, none, .prim (.mov (.tmp 37))⟩,
      ⟨some 39, (some (38, true)), .prim (.mov (.tmp 1))⟩,
      ⟨some 40, (some (38, true)), .prim (.bin false .and (.tmp 39) (.const (Go.Value.int Go.IntKind.i64 8)))⟩,
      ⟨some 41, (some (38, true)), .prim (.bin false .gtr (.tmp 40) (.const (Go.Value.int Go.IntKind.i64 0)))⟩,
      ⟨some 42, (some (38, true)), .prim (.mov (.tmp 41))⟩,
      ⟨some 43, (some (42, false)), .prim (.fadr 6 (.tmp 2))⟩,
      ⟨some 44, (some (42, false)), .prim (.load 1 false (.tmp 43))⟩,
      ⟨some 45, (some (42, false)), .prim (.bin false .eql (.tmp 44) (.const (Go.Value.int Go.IntKind.i64 0)))⟩,
      ⟨some 46, (some (38, true)), .prim (.pick (.tmp 42) (.const (Go.Value.bool Bool.true)) (.tmp 45))⟩,
      ⟨some 47, none, .prim (.pick (.tmp 38) (.tmp 46) (.const (Go.Value.bool Bool.false)))⟩,
      ⟨some 48, none, .prim (.mov (.tmp 47))⟩,
      ⟨some 49, (some (48, true)), .prim (.mov (.tmp 1))⟩,
      ⟨some 50, (some (48, true)), .prim (.bin false .and (.tmp 49) (.const (Go.Value.int Go.IntKind.i64 16)))⟩,
      ⟨some 51, (some (48, true)), .prim (.bin false .gtr (.tmp 50) (.const (Go.Value.int Go.IntKind.i64 0)))⟩,
      ⟨some 52, (some (48, true)), .prim (.mov (.tmp 51))⟩,
      ⟨some 53, (some (52, false)), .prim (.fadr 7 (.tmp 2))⟩,
      ⟨some 54, (some (52, false)), .prim (.load 1 false (.tmp 53))⟩,
      ⟨some 55, (some (52, false)), .prim (.lenv (.tmp 54))⟩,
      ⟨some 56, (some (52, false)), .prim (.bin false .eql (.tmp 55) (.const (Go.Value.int Go.IntKind.i64 0)))⟩,
      ⟨some 57, (some (48, true)), .prim (.pick (.tmp 52) (.const (Go.Value.bool Bool.true)) (.tmp 56))⟩,
      ⟨some 58, none, .prim (.pick (.tmp 48) (.tmp 57) (.const (Go.Value.bool Bool.false)))⟩,
      ⟨some 59, none, .prim (.mov (.tmp 58))⟩,
      ⟨some 60, (some (59, true)), .prim (.mov (.tmp 1))⟩,
      ⟨some 61, (some (59, true)), .prim (.bin false .and (.tmp 60) (.const (Go.Value.int Go.IntKind.i64 64)))⟩,
      ⟨some 62, (some (59, true)), .prim (.bin false .gtr (.tmp 61) (.const (Go.Value.int Go.IntKind.i64 0)))⟩,
      ⟨some 63, (some (59, true)), .prim (.mov (.tmp 62))⟩,
      ⟨some 64, (some (63, false)), .prim (.fadr 8 (.tmp 2))⟩,
      ⟨some 65, (some (63, false)), .prim (.load 3 true (.tmp 64))⟩,
      ⟨some 66, (some (63, false)), .call (.func 77) [(.tmp 65)]⟩,
      ⟨some 67, (some (59, true)), .prim (.pick (.tmp 63) (.const (Go.Value.bool Bool.true)) (.tmp 66))⟩,
      ⟨some 68, none, .prim (.pick (.tmp 59) (.tmp 67) (.const (Go.Value.bool Bool.false)))⟩,
      ⟨some 69, none, .prim (.mov (.tmp 68))⟩,
      ⟨some 70, (some (69, true)), .prim (.mov (.tmp 1))⟩,
      ⟨some 71, (some (69, true)), .prim (.bin false .and (.tmp 70) (.const (Go.Value.int Go.IntKind.i64 128)))⟩,
      ⟨some 72, (some (69, true)), .prim (.bin false .gtr (.tmp 71) (.const (Go.Value.int Go.IntKind.i64 0)))⟩,
      ⟨some 73, (some (69, true)), .prim (.mov (.tmp 72))⟩,
      ⟨some 74, (some (73, false)), .prim (.fadr 11 (.tmp 2))⟩,
      ⟨some 75, (some (73, false)), .prim (.load 6 true (.tmp 74))⟩,
      ⟨some 76, (some (73, false)), .call (.func 78) [(.tmp 75)]⟩,
      ⟨some 77, (some (69, true)), .prim (.pick (.tmp 73) (.const (Go.Value.bool Bool.true)) (.tmp 76))⟩,
      ⟨some 78, none, .prim (.pick (.tmp 69) (.tmp 77) (.const (Go.Value.bool Bool.false)))⟩,
      ⟨some 79, none, .prim (.mov (.tmp 78))⟩,
      ⟨some 80, (some (79, true)), .prim (.mov (.tmp 1))⟩,
      ⟨some 81, (some (79, true)), .prim (.bin false .and (.tmp 80) (.const (Go.Value.int Go.IntKind.i64 256)))⟩,
      ⟨some 82, (some (79, true)), .prim (.bin false .gtr (.tmp 81) (.const (Go.Value.int Go.IntKind.i64 0)))⟩,
      ⟨some 83, (some (79, true)), .prim (.mov (.tmp 82))⟩,
      ⟨some 84, (some (83, false)), .prim (.fadr 17 (.tmp 2))⟩,
      ⟨some 85, (some (83, false)), .prim (.load 1 false (.tmp 84))⟩,
      ⟨some 86, (some (83, false)), .prim (.lenv (.tmp 85))⟩,
      ⟨some 87, (some (83, false)), .prim (.bin false .eql (.tmp 86) (.const (Go.Value.int Go.IntKind.i64 0)))⟩,
      ⟨some 88, (some (79, true)), .prim (.pick (.tmp 83) (.const (Go.Value.bool Bool.true)) (.tmp 87))⟩,
      ⟨some 89, none, .prim (.pick (.tmp 79) (.tmp 88) (.const (Go.Value.bool Bool.false)))⟩,
      ⟨some 90, none, .prim (.mov (.tmp 89))⟩,
      ⟨some 91, (some (90, true)), .prim (.mov (.tmp 1))⟩,
      ⟨some 92, (some (90, true)), .prim (.bin false .and (.tmp 91) (.const (Go.Value.int Go.IntKind.i64 512)))⟩,
      ⟨some 93, (some (90, true)), .prim (.bin false .gtr (.tmp 92) (.const (Go.Value.int Go.IntKind.i64 0)))⟩,
      ⟨some 94, (some (90, true)), .prim (.mov (.tmp 93))⟩,
      ⟨some 95, (some (94, false)), .prim (.fadr 18 (.tmp 2))⟩,
      ⟨some 96, (some (94, false)), .prim (.load 1 false (.tmp 95))⟩,
      ⟨some 97, (some (94, false)), .call (.func 79) [(.tmp 96)]⟩,
      ⟨some 98, (some (90, true)), .prim (.pick (.tmp 94) (.const (Go.Value.bool Bool.true)) (.tmp 97))⟩,
      ⟨some 99, none, .prim (.pick (.tmp 90) (.tmp 98) (.const (Go.Value.bool Bool.false)))⟩,
      ⟨some 4, none, .prim (.mov (.tmp 99))⟩])
    .ret))
def o69 : List Tmp := []
def r69 : List RV := [.tmp 4]
theorem t69 : Text Tryz.prog 69 o69 c69 r69 100 := ⟨⟨Tryz.f69, _, by kernel_rfl, by kernel_rfl, rfl, by kernel_rfl, by kernel_rfl, rfl⟩, by kernel_rfl⟩

/-- sordine/req.right -/
def c70 : ACode :=
  (.seq (.ops [⟨some 2, none, .prim (.boxr (.tmp 0))⟩,
      ⟨some 4, none, .prim (.mov (.const (Go.Value.bool Bool.false)))⟩])
    (.seq (.ops [⟨some 5, none, .prim (.fadr 2 (.tmp 2))⟩,
      ⟨some 6, none, .prim (.load 1 false (.tmp 5))⟩,
      ⟨some 7, none, .prim (.bin false .geq (.tmp 6) (.const (Go.Value.int Go.IntKind.i64 0)))⟩,
      ⟨some 8, none, .prim (.mov (.tmp 7))⟩,
      ⟨some 9, (some (8, true)), .prim (.fadr 2 (.tmp 2))⟩,
      ⟨some 10, (some (8, true)), .prim (.load 1 false (.tmp 9))⟩,
      ⟨some 11, (some (8, true)), .prim (.bin false .leq (.tmp 10) (.const (Go.Value.int Go.IntKind.i64 2147483647)))⟩,
      ⟨some 12, none, .prim (.pick (.tmp 8) (.tmp 11) (.const (Go.Value.bool Bool.false)))⟩,
      ⟨some 13, none, .prim (.mov (.tmp 12))⟩,
      ⟨some 14, (some (13, true)), .prim (.mov (.tmp 1))⟩,
      ⟨some 15, (some (13, true)), .prim (.bin false .and (.tmp 14) (.const (Go.Value.int Go.IntKind.i64 2)))⟩,
      ⟨some 16, (some (13, true)), .prim (.bin false .eql (.tmp 15) (.const (Go.Value.int Go.IntKind.i64 0)))⟩,
      ⟨some 17, (some (13, true)), .prim (.mov (.tmp 16))⟩,
      ⟨some 18, (some (17, false)), .prim (.fadr 3 (.tmp 2))⟩,
      ⟨some 19, (some (17, false)), .prim (.load 1 false (.tmp 18))⟩,
      ⟨some 20, (some (17, false)), .call (.func 80) [(.tmp 19)]⟩,
      ⟨some 21, (some (13, true)), .prim (.pick (.tmp 17) (.const (Go.Value.bool Bool.true)) (.tmp 20))⟩,
      ⟨some 22, none, .prim (.pick (.tmp 13) (.tmp 21) (.const (Go.Value.bool Bool.false)))⟩,
      ⟨some 23, none, .prim (.mov (.tmp 22))⟩,
      ⟨some 24, (some (23, true)), .prim (.fadr 4 (.tmp 2))⟩,
      ⟨some 25, (some (23, true)), .prim (.load 1 false (.tmp 24))⟩,
      ⟨some 26, (some (23, true)), .prim (.bin false .leq (.tmp 25) (.const (Go.Value.int Go.IntKind.u64 1099511627776)))⟩,
      ⟨some 27, none, .prim (.pick (.tmp 23) (.tmp 26) (.const (Go.Value.bool Bool.false)))⟩,
      ⟨some 28, none, .prim (.mov (.tmp 27))⟩,
      ⟨some 29, (some (28, true)), .prim (.fadr 5 (.tmp 2))⟩,
      ⟨some 30, (some (28, true)), .prim (.load 1 false (.tmp 29))⟩,
      ⟨some 31, (some (28, true)), .prim (.bin false .leq (.tmp 30) (.const (Go.Value.int Go.IntKind.u64 1099511627776)))⟩,
      ⟨some 32, none, .prim (.pick (.tmp 28) (.tmp 31) (.const (Go.Value.bool Bool.false)))⟩,
      ⟨some 33, none, .prim (.mov (.tmp 32))⟩,
      ⟨some 34, (some (33, true)), .prim (.fadr 6 (.tmp 2))⟩,
      ⟨some 35, (some (33, true)), .prim (.load 1 false (.tmp 34))⟩,
      ⟨some 36, (some (33, true)), .prim (.bin false .geq (.tmp 35) (.const (Go.Value.int Go.IntKind.i64 0)))⟩,
      ⟨some 37, none, .prim (.pick (.tmp 33) (.tmp 36) (.const (Go.Value.bool Bool.false)))⟩,
      ⟨some 38, none, .prim (.mov (.tmp 37))⟩,
      ⟨some 39, (some (38, true)), .prim (.fadr 6 (.tmp 2))⟩,
      ⟨some 40, (some (38, true)), .prim (.load 1 false (.tmp 39))⟩,
      ⟨some 41, (some (38, true)), .prim (.bin false .leq (.tmp 40) (.const (Go.Value.int Go.IntKind.i64 3)))⟩,
      ⟨some 42, none, .prim (.pick (.tmp 38) (.tmp 41) (.const (Go.Value.bool Bool.false)))⟩,
      ⟨some 43, none, .prim (.mov (.tmp 42))⟩,
      ⟨some 44, (some (43, true)), .prim (.fadr 7 (.tmp 2))⟩,
      ⟨some 45, (some (43, true)), .prim (.load 1 false (.tmp 44))⟩,
      ⟨some 46, (some (43, true)), .call (.func 61) [(.tmp 45)]⟩,
      ⟨some 47, none, .prim (.pick (.tmp 43) (.tmp 46) (.const (Go.Value.bool Bool.false)))⟩,
      ⟨some 48, none, .prim (.mov (.tmp 47))⟩,
      ⟨some 49, (some (48, true)), .prim (.mov (.tmp 1))⟩,
      ⟨some 50, (some (48, true)), .prim (.bin false .and (.tmp 49) (.const (Go.Value.int Go.IntKind.i64 32)))⟩,
      ⟨some 51, (some (48, true)), .prim (.bin false .eql (.tmp 50) (.const (Go.Value.int Go.IntKind.i64 0)))⟩,
      ⟨some 52, (some (48, true)), .prim (.mov (.tmp 51))⟩,
      ⟨some 53, (some (52, false)), .prim (.fadr 7 (.tmp 2))⟩,
      ⟨some 54, (some (52, false)), .prim (.load 1 false (.tmp 53))⟩,
      ⟨some 55, (some (52, false)), .prim (.lenv (.tmp 54))⟩,
      ⟨some 56, (some (52, false)), .prim (.bin false .gtr (.tmp 55) (.const (Go.Value.int Go.IntKind.i64 0)))⟩,
      ⟨some 57, (some (48, true)), .prim (.pick (.tmp 52) (.const (Go.Value.bool Bool.true)) (.tmp 56))⟩,
      ⟨some 58, none, .prim (.pick (.tmp 48) (.tmp 57) (.const (Go.Value.bool Bool.false)))⟩,
      ⟨some 59, none, .prim (.mov (.tmp 58))⟩,
      ⟨some 60, (some (59, true)), .prim (.mov (.tmp 1))⟩,
      ⟨some 61, (some (59, true)), .prim (.bin false .and (.tmp 60) (.const (Go.Value.int Go.IntKind.i64 64)))⟩,
      ⟨some 62, (some (59, true)), .prim (.bin false .eql (.tmp 61) (.const (Go.Value.int Go.IntKind.i64 0)))⟩,
      ⟨some 63, (some (59, true)), .prim (.mov (.tmp 62))⟩,
      ⟨some 64, (some (63, false)), .prim (.fadr 8 (.tmp 2))⟩,
      ⟨some 65, (some (63, false)), .prim (.load 3 true (.tmp 64))⟩,
      ⟨some 66, (some (63, false)), .call (.func 63) [(.tmp 65)]⟩,
      ⟨some 67, (some (59, true)), .prim (.pick (.tmp 63) (.const (Go.Value.bool Bool.true)) (.tmp 66))⟩,
      ⟨some 68, none, .prim (.pick (.tmp 59) (.tmp 67) (.const (Go.Value.bool Bool.false)))⟩,
      ⟨some 69, none, .prim (.mov (.tmp 68))⟩,
      ⟨some 70, (some (69, true)), .prim (.mov (.tmp 1))⟩,
      ⟨some 71, (some (69, true)), .prim (.bin false .and (.tmp 70) (.const (Go.Value.int Go.IntKind.i64 128)))⟩,
      ⟨some 72, (some (69, true)), .prim (.bin false .eql (.tmp 71) (.const (Go.Value.int Go.IntKind.i64 0)))⟩,
      ⟨some 73, (some (69, true)), .prim (.mov (.tmp 72))⟩,
      ⟨some 74, (some (73, false)), .prim (.fadr 11 (.tmp 2))⟩,
      ⟨some 75, (some (73, false)), .prim (.load 6 true (.tmp 74))⟩,
      ⟨some 76, (some (73, false)), .call (.func 64) [(.tmp 75)]⟩,
      ⟨some 77, (some (69, true)), .prim (.pick (.tmp 73) (.const (Go.Value.bool Bool.true)) (.tmp 76))⟩,
      ⟨some 78, none, .prim (.pick (.tmp 69) (.tmp 77) (.const (Go.Value.bool Bool.false)))⟩,
      ⟨some 79, none, .prim (.mov (.tmp 78))⟩,
      ⟨some 80, (some (79, true)), .prim (.mov (.tmp 1))⟩,
      ⟨some 81, (some (79, true)), .prim (.bin false .and (.tmp 80) (.const (Go.Value.int Go.IntKind.i64 256)))⟩,
      ⟨some 82, (some (79, true)), .prim (.bin false .eql (.tmp 81) (.const (Go.Value.int Go.IntKind.i64 0)))⟩,
      ⟨some 83, (some (79, true)), .prim (.mov (.tmp 82))⟩,
      ⟨some 84, (some (83, false)), .prim (.fadr 17 (.tmp 2))⟩,
      ⟨some 85, (some (83, false)), .prim (.load 1 false (.tmp 84))⟩,
      ⟨some 86, (some (83, false)), .call (.func 65) [(.tmp 85)]⟩,
      ⟨some 87, (some (79, true)), .prim (.pick (.tmp 83) (.const (Go.Value.bool Bool.true)) (.tmp 86))⟩,
      ⟨some 88, none, .prim (.pick (.tmp 79) (.tmp 87) (.const (Go.Value.bool Bool.false)))⟩,
      ⟨some 4, none, .prim (.mov (.tmp 88))⟩])
    .ret))
def o70 : List Tmp := []
def r70 : List RV := [.tmp 4]
theorem t70 : Text Tryz.prog 70 o70 c70 r70 89 := ⟨⟨Tryz.f70, _, by kernel_rfl, by kernel_rfl, rfl, by kernel_rfl, by kernel_rfl, rfl⟩, by kernel_rfl⟩

/-- sordine/match.Is -/
def c71 : ACode :=
  (.seq (.ops [⟨some 1, none, .prim (.boxr (.tmp 0))⟩,
      ⟨some 2, none, .prim (.mov (.const (Go.Value.bool Bool.false)))⟩])
    (.seq (.seq (.ops [⟨some 5, none, .prim (.fadr 1 (.tmp 1))⟩,
      ⟨some 6, none, .prim (.load 1 false (.tmp 5))⟩,
      ⟨some 7, none, .call (.func 73) [(.tmp 6)]⟩,
      ⟨some 8, none, .prim (.un .not (.tmp 7))⟩])
    (.cond (.tmp 8)
    (.seq (.ops [⟨some 2, none, .prim (.mov (.const (Go.Value.bool Bool.false)))⟩])
    .ret)
    .skip))
    (.seq (.seq (.ops [⟨some 9, none, .prim (.load 3 true (.tmp 1))⟩,
      ⟨some 10, none, .call (.func 81) [(.tmp 9)]⟩])
    (.cond (.tmp 10)
    (.seq (.ops [⟨some 12, none, .prim (.fadr 2 (.tmp 1))⟩,
      ⟨some 13, none, .prim (.load 1 false (.tmp 12))⟩,
      ⟨some 14, none, .call (.func 82) [(.tmp 13)]⟩,
      ⟨some 11, none, .prim (.mov (.tmp 14))⟩,
      ⟨some 15, none, .prim (.extr 0 (.tmp 11))⟩,
      ⟨some 16, none, .prim (.extr 1 (.tmp 11))⟩,
      ⟨some 3, none, .fresh 6 3 (.tmp 15)⟩,
      ⟨some 4, none, .prim (.mov (.tmp 16))⟩])
    (.seq (.ops [⟨some 17, none, .prim (.mov (.tmp 4))⟩,
      ⟨some 2, none, .prim (.mov (.tmp 17))⟩])
    .ret))
    .skip))
    (.seq (.ops [⟨some 18, none, .prim (.fadr 0 (.tmp 1))⟩,
      ⟨some 19, none, .prim (.load 1 false (.tmp 18))⟩,
      ⟨some 20, none, .prim (.bin false .eql (.tmp 19) (.const (Go.Value.int Go.IntKind.i64 1)))⟩,
      ⟨some 21, none, .prim (.mov (.tmp 20))⟩,
      ⟨some 22, (some (21, false)), .prim (.fadr 0 (.tmp 1))⟩,
      ⟨some 23, (some (21, false)), .prim (.load 1 false (.tmp 22))⟩,
      ⟨some 24, (some (21, false)), .prim (.bin false .eql (.tmp 23) (.const (Go.Value.int Go.IntKind.i64 2)))⟩,
      ⟨some 25, none, .prim (.pick (.tmp 21) (.const (Go.Value.bool Bool.true)) (.tmp 24))⟩,
      ⟨some 26, none, .prim (.mov (.tmp 25))⟩,
      ⟨some 27, (some (26, true)), .prim (.fadr 2 (.tmp 1))⟩,
      ⟨some 28, (some (26, true)), .prim (.load 1 false (.tmp 27))⟩,
      ⟨some 29, (some (26, true)), .prim (.lens (.tmp 28))⟩,
      ⟨some 30, (some (26, true)), .prim (.bin false .leq (.tmp 29) (.const (Go.Value.int Go.IntKind.i64 24)))⟩,
      ⟨some 31, none, .prim (.pick (.tmp 26) (.tmp 30) (.const (Go.Value.bool Bool.false)))⟩,
      ⟨some 2, none, .prim (.mov (.tmp 31))⟩])
    .ret))))
def o71 : List Tmp := []
def r71 : List RV := [.tmp 2]
theorem t71 : Text Tryz.prog 71 o71 c71 r71 32 := ⟨⟨Tryz.f71, _, by kernel_rfl, by kernel_rfl, rfl, by kernel_rfl, by kernel_rfl, rfl⟩, by kernel_rfl⟩

/-- sordine/match.compare -/
def c72 : ACode :=
  (.seq (.ops [⟨some 2, none, .prim (.boxr (.tmp 0))⟩,
      ⟨some 3, none, .prim (.boxr (.tmp 1))⟩,
      ⟨some 4, none, .prim (.mov (.const (Go.Value.int Go.IntKind.i64 0)))⟩])
    (.seq (.draw [⟨⟨some 5, none, .prim (.fadr 1 (.tmp 2))⟩, [], false, 0, 0⟩,
      ⟨⟨some 6, none, .prim (.load 1 false (.tmp 5))⟩, [0], false, 0, 0⟩,
      ⟨⟨some 7, none, .prim (.fadr 1 (.tmp 3))⟩, [], false, 0, 0⟩,
      ⟨⟨some 8, none, .prim (.load 1 false (.tmp 7))⟩, [2], false, 0, 0⟩,
      ⟨⟨some 9, none, .call (.func 84) [(.tmp 6), (.tmp 8)]⟩, [0, 1, 2, 3], true, 0, 0⟩,
      ⟨⟨some 10, none, .prim (.fadr 0 (.tmp 2))⟩, [], false, 0, 1⟩,
      ⟨⟨some 11, none, .prim (.load 1 false (.tmp 10))⟩, [5], false, 0, 1⟩,
      ⟨⟨some 12, none, .prim (.fadr 0 (.tmp 3))⟩, [], false, 0, 1⟩,
      ⟨⟨some 13, none, .prim (.load 1 false (.tmp 12))⟩, [7], false, 0, 1⟩,
      ⟨⟨some 14, none, .call (.func 85) [(.tmp 11), (.tmp 13)]⟩, [0, 1, 2, 3, 4, 5, 6, 7, 8], true, 0, 0⟩,
      ⟨⟨some 15, none, .prim (.fadr 2 (.tmp 2))⟩, [], false, 0, 2⟩,
      ⟨⟨some 16, none, .prim (.load 1 false (.tmp 15))⟩, [10], false, 0, 2⟩,
      ⟨⟨some 17, none, .prim (.fadr 2 (.tmp 3))⟩, [], false, 0, 2⟩,
      ⟨⟨some 18, none, .prim (.load 1 false (.tmp 17))⟩, [12], false, 0, 2⟩,
      ⟨⟨some 19, none, .call (.func 84) [(.tmp 16), (.tmp 18)]⟩, [0, 1, 2, 3, 4, 5, 6, 7, 8, 9, 10, 11, 12, 13], true, 0, 0⟩,
      ⟨⟨some 20, none, .prim (.bsl false 1 false 3 [.pl (.int .i64 0)] [(0, 1, (.tmp 9)), (1, 1, (.tmp 14)), (2, 1, (.tmp 19))])⟩, [0, 1, 2, 3, 4, 5, 6, 7, 8, 9, 10, 11, 12, 13, 14], false, 3, 3⟩,
      ⟨⟨some 21, none, .call (.func 83) [(.tmp 20)]⟩, [0, 1, 2, 3, 4, 5, 6, 7, 8, 9, 10, 11, 12, 13, 14, 15], true, 0, 0⟩,
      ⟨⟨some 4, none, .prim (.mov (.tmp 21))⟩, [0, 1, 2, 3, 4, 5, 6, 7, 8, 9, 10, 11, 12, 13, 14, 15, 16], false, 4, 4⟩])
    .ret))
def o72 : List Tmp := []
def r72 : List RV := [.tmp 4]
theorem t72 : Text Tryz.prog 72 o72 c72 r72 22 := ⟨⟨Tryz.f72, _, by kernel_rfl, by kernel_rfl, rfl, by kernel_rfl, by kernel_rfl, rfl⟩, by kernel_rfl⟩

/-- sordine/labels.Name -/
def c73 : ACode :=
  (.seq (.ops [⟨some 2, none, .prim (.mov (.const (Go.Value.bool Bool.false)))⟩])
    (.seq (.seq (.ops [⟨some 4, none, .prim (.mov (.tmp 0))⟩,
      ⟨some 5, none, .prim (.lens (.tmp 4))⟩,
      ⟨some 6, none, .prim (.bin false .lss (.tmp 5) (.const (Go.Value.int Go.IntKind.i64 1)))⟩,
      ⟨some 7, none, .prim (.mov (.tmp 6))⟩,
      ⟨some 8, (some (7, false)), .prim (.mov (.tmp 0))⟩,
      ⟨some 9, (some (7, false)), .prim (.lens (.tmp 8))⟩,
      ⟨some 10, (some (7, false)), .prim (.bin false .gtr (.tmp 9) (.const (Go.Value.int Go.IntKind.i64 12)))⟩,
      ⟨some 11, none, .prim (.pick (.tmp 7) (.const (Go.Value.bool Bool.true)) (.tmp 10))⟩,
      ⟨some 12, none, .prim (.mov (.tmp 11))⟩,
      ⟨some 13, (some (12, false)), .prim (.mov (.tmp 0))⟩,
      ⟨some 14, (some (12, false)), .prim (.idxs (.tmp 13) (.const (Go.Value.int Go.IntKind.i64 0)))⟩,
      ⟨some 15, (some (12, false)), .call (.func 86) [(.tmp 14)]⟩,
      ⟨some 16, (some (12, false)), .prim (.un .not (.tmp 15))⟩,
      ⟨some 17, none, .prim (.pick (.tmp 12) (.const (Go.Value.bool Bool.true)) (.tmp 16))⟩])
    (.cond (.tmp 17)
    (.seq (.ops [⟨some 2, none, .prim (.mov (.const (Go.Value.bool Bool.false)))⟩])
    .ret)
    .skip))
    (.seq (.seq (.ops [⟨some 18, none, .prim (.mov (.tmp 0))⟩,
      ⟨some 19, none, .prim (.lens (.tmp 18))⟩,
      ⟨some 20, none, .prim (.mov (.const (Go.Value.int Go.IntKind.i64 0)))⟩])
    (.block 0 (.loop [1, 2, 3, 4, 5, 6, 7, 8, 9, 10, 11, 12, 13, 14, 15, 16, 17, 18, 21, 22, 23, 24, 25, 26, 27, 28, 29, 30, 31, 32, 33, 34, 35, 36, 37, 38, 39, 40] (.seq (.ops [⟨some 21, none, .prim (.bin false .lss (.tmp 20) (.tmp 19))⟩])
    (.seq (.cond (.tmp 21)
    .skip
    (.exit 0))
    (.seq (.block 1 (.seq (.ops [⟨some 22, none, .prim (.mov (.tmp 20))⟩,
      ⟨some 3, none, .prim (.mov (.tmp 22))⟩])
    (.seq (.ops [⟨some 23, none, .prim (.mov (.tmp 0))⟩,
      ⟨some 24, none, .prim (.mov (.tmp 3))⟩,
      ⟨some 25, none, .prim (.idxs (.tmp 23) (.tmp 24))⟩,
      ⟨some 26, none, .call (.func 86) [(.tmp 25)]⟩,
      ⟨some 27, none, .prim (.un .not (.tmp 26))⟩,
      ⟨some 28, none, .prim (.mov (.tmp 27))⟩,
      ⟨some 29, (some (28, true)), .prim (.mov (.tmp 0))⟩,
      ⟨some 30, (some (28, true)), .prim (.mov (.tmp 3))⟩,
      ⟨some 31, (some (28, true)), .prim (.idxs (.tmp 29) (.tmp 30))⟩,
      ⟨some 32, (some (28, true)), .prim (.bin false .lss (.tmp 31) (.const (Go.Value.int Go.IntKind.u8 48)))⟩,
      ⟨some 33, (some (28, true)), .prim (.mov (.tmp 32))⟩,
      ⟨some 34, (some (33, false)), .prim (.mov (.tmp 0))⟩,
      ⟨some 35, (some (33, false)), .prim (.mov (.tmp 3))⟩,
      ⟨some 36, (some (33, false)), .prim (.idxs (.tmp 34) (.tmp 35))⟩,
      ⟨some 37, (some (33, false)), .prim (.bin false .gtr (.tmp 36) (.const (Go.Value.int Go.IntKind.u8 57)))⟩,
      ⟨some 38, (some (28, true)), .prim (.pick (.tmp 33) (.const (Go.Value.bool Bool.true)) (.tmp 37))⟩,
      ⟨some 39, none, .prim (.pick (.tmp 28) (.tmp 38) (.const (Go.Value.bool Bool.false)))⟩])
    (.cond (.tmp 39)
    (.seq (.ops [⟨some 2, none, .prim (.mov (.const (Go.Value.bool Bool.false)))⟩])
    .ret)
    .skip))))
    (.ops [⟨some 40, none, .prim (.bin false .add (.tmp 20) (.const (Go.Value.int Go.IntKind.i64 1)))⟩,
      ⟨some 20, none, .prim (.mov (.tmp 40))⟩])))))))
    (.seq (.ops [⟨some 2, none, .prim (.mov (.const (Go.Value.bool Bool.true)))⟩])
    .ret))))
def o73 : List Tmp := []
def r73 : List RV := [.tmp 2]
theorem t73 : Text Tryz.prog 73 o73 c73 r73 41 := ⟨⟨Tryz.f73, _, by kernel_rfl, by kernel_rfl, rfl, by kernel_rfl, by kernel_rfl, rfl⟩, by kernel_rfl⟩

/-- sordine/labels.Value -/
def c74 : ACode :=
  (.seq (.ops [⟨some 2, none, .prim (.mov (.const (Go.Value.bool Bool.false)))⟩])
    (.seq (.ops [⟨some 3, none, .prim (.mov (.tmp 0))⟩,
      ⟨some 4, none, .prim (.lens (.tmp 3))⟩,
      ⟨some 5, none, .prim (.bin false .geq (.tmp 4) (.const (Go.Value.int Go.IntKind.i64 1)))⟩,
      ⟨some 6, none, .prim (.mov (.tmp 5))⟩,
      ⟨some 7, (some (6, true)), .prim (.mov (.tmp 0))⟩,
      ⟨some 8, (some (6, true)), .prim (.lens (.tmp 7))⟩,
      ⟨some 9, (some (6, true)), .prim (.bin false .leq (.tmp 8) (.const (Go.Value.int Go.IntKind.i64 24)))⟩,
      ⟨some 10, none, .prim (.pick (.tmp 6) (.tmp 9) (.const (Go.Value.bool Bool.false)))⟩,
      ⟨some 2, none, .prim (.mov (.tmp 10))⟩])
    .ret))
def o74 : List Tmp := []
def r74 : List RV := [.tmp 2]
theorem t74 : Text Tryz.prog 74 o74 c74 r74 11 := ⟨⟨Tryz.f74, _, by kernel_rfl, by kernel_rfl, rfl, by kernel_rfl, by kernel_rfl, rfl⟩, by kernel_rfl⟩

/-- sordine/real.no -/
def c75 : ACode :=
  (.seq (.ops [⟨some 2, none, .prim (.mov (.const (Go.Value.bool Bool.false)))⟩])
    (.seq (.ops [⟨some 3, none, .prim (.mov (.tmp 0))⟩,
      ⟨some 4, none, .prim (.mov (.tmp 0))⟩,
      ⟨some 5, none, .prim (.bin false .neq (.tmp 3) (.tmp 4))⟩,
      ⟨some 2, none, .prim (.mov (.tmp 5))⟩])
    .ret))
def o75 : List Tmp := []
def r75 : List RV := [.tmp 2]
theorem t75 : Text Tryz.prog 75 o75 c75 r75 6 := ⟨⟨Tryz.f75, _, by kernel_rfl, by kernel_rfl, rfl, by kernel_rfl, by kernel_rfl, rfl⟩, by kernel_rfl⟩

/-- sordine/req.noBand -/
def c77 : ACode :=
  (.seq (.ops [⟨some 1, none, .prim (.boxr (.tmp 0))⟩,
      ⟨some 2, none, .prim (.mov (.const (Go.Value.bool Bool.false)))⟩])
    (.seq (.ops [⟨some 3, none, .prim (.fadr 0 (.tmp 1))⟩,
      ⟨some 4, none, .prim (.load 1 false (.tmp 3))⟩,
      ⟨some 5, none, .prim (.un .not (.tmp 4))⟩,
      ⟨some 6, none, .prim (.mov (.tmp 5))⟩,
      ⟨some 7, (some (6, true)), .prim (.fadr 1 (.tmp 1))⟩,
      ⟨some 8, (some (6, true)), .prim (.load 1 false (.tmp 7))⟩,
      ⟨some 9, (some (6, true)), .call (.func 79) [(.tmp 8)]⟩,
      ⟨some 10, none, .prim (.pick (.tmp 6) (.tmp 9) (.const (Go.Value.bool Bool.false)))⟩,
      ⟨some 11, none, .prim (.mov (.tmp 10))⟩,
      ⟨some 12, (some (11, true)), .prim (.fadr 2 (.tmp 1))⟩,
      ⟨some 13, (some (11, true)), .prim (.load 1 false (.tmp 12))⟩,
      ⟨some 14, (some (11, true)), .call (.func 79) [(.tmp 13)]⟩,
      ⟨some 15, none, .prim (.pick (.tmp 11) (.tmp 14) (.const (Go.Value.bool Bool.false)))⟩,
      ⟨some 2, none, .prim (.mov (.tmp 15))⟩])
    .ret))
def o77 : List Tmp := []
def r77 : List RV := [.tmp 2]
theorem t77 : Text Tryz.prog 77 o77 c77 r77 16 := ⟨⟨Tryz.f77, _, by kernel_rfl, by kernel_rfl, rfl, by kernel_rfl, by kernel_rfl, rfl⟩, by kernel_rfl⟩

/-- sordine/req.noRule -/
def c78 : ACode :=
  (.seq (.ops [⟨some 1, none, .prim (.boxr (.tmp 0))⟩,
      ⟨some 2, none, .prim (.mov (.const (Go.Value.bool Bool.false)))⟩])
    (.seq (.ops [⟨some 3, none, .prim (.fadr 0 (.tmp 1))⟩,
      ⟨some 4, none, .prim (.load 1 false (.tmp 3))⟩,
      ⟨some 5, none, .prim (.lenv (.tmp 4))⟩,
      ⟨some 6, none, .prim (.bin false .eql (.tmp 5) (.const (Go.Value.int Go.IntKind.i64 0)))⟩,
      ⟨some 7, none, .prim (.mov (.tmp 6))⟩,
      ⟨some 8, (some (7, true)), .prim (.fadr 1 (.tmp 1))⟩,
      ⟨some 9, (some (7, true)), .prim (.load 1 false (.tmp 8))⟩,
      ⟨some 10, (some (7, true)), .prim (.lenv (.tmp 9))⟩,
      ⟨some 11, (some (7, true)), .prim (.bin false .eql (.tmp 10) (.const (Go.Value.int Go.IntKind.i64 0)))⟩,
      ⟨some 12, none, .prim (.pick (.tmp 7) (.tmp 11) (.const (Go.Value.bool Bool.false)))⟩,
      ⟨some 13, none, .prim (.mov (.tmp 12))⟩,
      ⟨some 14, (some (13, true)), .prim (.fadr 5 (.tmp 1))⟩,
      ⟨some 15, (some (13, true)), .prim (.load 1 false (.tmp 14))⟩,
      ⟨some 16, (some (13, true)), .prim (.lenv (.tmp 15))⟩,
      ⟨some 17, (some (13, true)), .prim (.bin false .eql (.tmp 16) (.const (Go.Value.int Go.IntKind.i64 0)))⟩,
      ⟨some 18, none, .prim (.pick (.tmp 13) (.tmp 17) (.const (Go.Value.bool Bool.false)))⟩,
      ⟨some 19, none, .prim (.mov (.tmp 18))⟩,
      ⟨some 20, (some (19, true)), .prim (.fadr 2 (.tmp 1))⟩,
      ⟨some 21, (some (19, true)), .prim (.load 3 true (.tmp 20))⟩,
      ⟨some 22, (some (19, true)), .call (.func 77) [(.tmp 21)]⟩,
      ⟨some 23, none, .prim (.pick (.tmp 19) (.tmp 22) (.const (Go.Value.bool Bool.false)))⟩,
      ⟨some 2, none, .prim (.mov (.tmp 23))⟩])
    .ret))
def o78 : List Tmp := []
def r78 : List RV := [.tmp 2]
theorem t78 : Text Tryz.prog 78 o78 c78 r78 24 := ⟨⟨Tryz.f78, _, by kernel_rfl, by kernel_rfl, rfl, by kernel_rfl, by kernel_rfl, rfl⟩, by kernel_rfl⟩

/-- sordine/req.nought -/
def c79 : ACode :=
  (.seq (.ops [⟨some 2, none, .prim (.mov (.const (Go.Value.bool Bool.false)))⟩])
    (.seq (.ops [⟨some 3, none, .prim (.mov (.tmp 0))⟩,
      ⟨some 4, none, .call (.func 67) [(.tmp 3)]⟩,
      ⟨some 5, none, .prim (.bin false .eql (.tmp 4) (.const (Go.Value.int Go.IntKind.u64 0)))⟩,
      ⟨some 2, none, .prim (.mov (.tmp 5))⟩])
    .ret))
def o79 : List Tmp := []
def r79 : List RV := [.tmp 2]
theorem t79 : Text Tryz.prog 79 o79 c79 r79 6 := ⟨⟨Tryz.f79, _, by kernel_rfl, by kernel_rfl, rfl, by kernel_rfl, by kernel_rfl, rfl⟩, by kernel_rfl⟩

/-- sordine/token.Is -/
def c80 : ACode :=
  (.seq (.ops [⟨some 2, none, .prim (.mov (.const (Go.Value.bool Bool.false)))⟩])
    (.seq (.ops [⟨some 3, none, .prim (.mov (.tmp 0))⟩,
      ⟨some 4, none, .prim (.lens (.tmp 3))⟩,
      ⟨some 5, none, .prim (.bin false .geq (.tmp 4) (.const (Go.Value.int Go.IntKind.i64 4)))⟩,
      ⟨some 6, none, .prim (.mov (.tmp 5))⟩,
      ⟨some 7, (some (6, true)), .prim (.mov (.tmp 0))⟩,
      ⟨some 8, (some (6, true)), .prim (.lens (.tmp 7))⟩,
      ⟨some 9, (some (6, true)), .prim (.bin false .leq (.tmp 8) (.const (Go.Value.int Go.IntKind.i64 16)))⟩,
      ⟨some 10, none, .prim (.pick (.tmp 6) (.tmp 9) (.const (Go.Value.bool Bool.false)))⟩,
      ⟨some 2, none, .prim (.mov (.tmp 10))⟩])
    .ret))
def o80 : List Tmp := []
def r80 : List RV := [.tmp 2]
theorem t80 : Text Tryz.prog 80 o80 c80 r80 11 := ⟨⟨Tryz.f80, _, by kernel_rfl, by kernel_rfl, rfl, by kernel_rfl, by kernel_rfl, rfl⟩, by kernel_rfl⟩

/-- sordine/match.like -/
def c81 : ACode :=
  (.seq (.ops [⟨some 1, none, .prim (.boxr (.tmp 0))⟩,
      ⟨some 2, none, .prim (.mov (.const (Go.Value.bool Bool.false)))⟩])
    (.seq (.ops [⟨some 3, none, .prim (.fadr 0 (.tmp 1))⟩,
      ⟨some 4, none, .prim (.load 1 false (.tmp 3))⟩,
      ⟨some 5, none, .prim (.bin false .eql (.tmp 4) (.const (Go.Value.int Go.IntKind.i64 3)))⟩,
      ⟨some 6, none, .prim (.mov (.tmp 5))⟩,
      ⟨some 7, (some (6, false)), .prim (.fadr 0 (.tmp 1))⟩,
      ⟨some 8, (some (6, false)), .prim (.load 1 false (.tmp 7))⟩,
      ⟨some 9, (some (6, false)), .prim (.bin false .eql (.tmp 8) (.const (Go.Value.int Go.IntKind.i64 4)))⟩,
      ⟨some 10, none, .prim (.pick (.tmp 6) (.const (Go.Value.bool Bool.true)) (.tmp 9))⟩,
      ⟨some 2, none, .prim (.mov (.tmp 10))⟩])
    .ret))
def o81 : List Tmp := []
def r81 : List RV := [.tmp 2]
theorem t81 : Text Tryz.prog 81 o81 c81 r81 11 := ⟨⟨Tryz.f81, _, by kernel_rfl, by kernel_rfl, rfl, by kernel_rfl, by kernel_rfl, rfl⟩, by kernel_rfl⟩

/-- sordine/rex.Parse -/
def c82 : ACode :=
  (.seq (.ops [⟨some 2, none, .prim (.allocm [.pl (.int .i64 0), .pl (.int .u64 0), .pl (.int .u64 0), .pl (.int .u64 0), .pl (.int .u64 0), .nils])⟩,
      ⟨some 3, none, .prim (.mov (.const (Go.Value.bool Bool.false)))⟩])
    (.seq (.ops [⟨some 6, none, .prim (.mov (.tmp 0))⟩,
      ⟨some 7, none, .prim (.mov (.tmp 0))⟩,
      ⟨some 8, none, .prim (.lens (.tmp 7))⟩,
      ⟨some 9, none, .prim (.bin false .gtr (.tmp 8) (.const (Go.Value.int Go.IntKind.i64 40)))⟩,
      ⟨some 10, none, .prim (.build [.pl (.string .empty), .pl (.int .i64 0), .pl (.bool false)] [(0, 1, (.tmp 6)), (2, 1, (.tmp 9))])⟩,
      ⟨some 11, none, .prim (.boxm (.tmp 10))⟩,
      ⟨some 4, none, .prim (.mov (.tmp 11))⟩])
    (.seq (.ops [⟨some 12, none, .prim (.mov (.tmp 4))⟩,
      ⟨some 13, none, .call (.func 87) [(.tmp 12), (.const (Go.Value.int Go.IntKind.i64 0))]⟩,
      ⟨some 5, none, .fresh 6 5 (.tmp 13)⟩])
    (.seq (.seq (.ops [⟨some 14, none, .prim (.mov (.tmp 4))⟩,
      ⟨some 15, none, .prim (.nilc (.tmp 14))⟩,
      ⟨some 16, none, .prim (.fadr 2 (.tmp 15))⟩,
      ⟨some 17, none, .prim (.load 1 false (.tmp 16))⟩,
      ⟨some 18, none, .prim (.mov (.tmp 17))⟩,
      ⟨some 19, (some (18, false)), .prim (.mov (.tmp 4))⟩,
      ⟨some 20, (some (18, false)), .prim (.nilc (.tmp 19))⟩,
      ⟨some 21, (some (18, false)), .prim (.fadr 1 (.tmp 20))⟩,
      ⟨some 22, (some (18, false)), .prim (.load 1 false (.tmp 21))⟩,
      ⟨some 23, (some (18, false)), .prim (.mov (.tmp 0))⟩,
      ⟨some 24, (some (18, false)), .prim (.lens (.tmp 23))⟩,
      ⟨some 25, (some (18, false)), .prim (.bin false .lss (.tmp 22) (.tmp 24))⟩,
      ⟨some 26, none, .prim (.pick (.tmp 18) (.const (Go.Value.bool Bool.true)) (.tmp 25))⟩])
    (.cond (.tmp 26)
    (.seq (.ops [⟨some 27, none, .prim (.build [.pl (.int .i64 0), .pl (.int .u64 0), .pl (.int .u64 0), .pl (.int .u64 0), .pl (.int .u64 0), .nils] [])⟩,
      ⟨none, none, .prim (.store 6 (.tmp 2) (.tmp 27))⟩,
      ⟨some 3, none, .prim (.mov (.const (Go.Value.bool Bool.false)))⟩])
    .ret)
    .skip))
    (.seq (.ops [⟨some 28, none, .prim (.load 6 true (.tmp 5))⟩,
      ⟨none, none, .prim (.store 6 (.tmp 2) (.tmp 28))⟩,
      ⟨some 3, none, .prim (.mov (.const (Go.Value.bool Bool.true)))⟩])
    .ret)))))
def o82 : List Tmp := [2, 11]
def r82 : List RV := [.cell 2 6 true, .tmp 3]
theorem t82 : Text Tryz.prog 82 o82 c82 r82 29 := ⟨⟨Tryz.f82, _, by kernel_rfl, by kernel_rfl, rfl, by kernel_rfl, by kernel_rfl, rfl⟩, by kernel_rfl⟩

/-- cmp.Or[int] -/
def c83 : ACode :=
  (.seq (.ops [⟨some 2, none, .prim (.mov (.const (Go.Value.int Go.IntKind.i64 0)))⟩])
    (.seq (.ops [⟨some 3, none, .prim (.mov (.const (Go.Value.int Go.IntKind.i64 0)))⟩])
    (.seq (.seq (.ops [⟨some 6, none, .prim (.mov (.tmp 0))⟩,
      ⟨some 7, none, .prim (.lenv (.tmp 6))⟩,
      ⟨some 8, none, .prim (.mov (.const (Go.Value.int Go.IntKind.i64 0)))⟩])
    (.block 0 (.loop [0, 1, 2, 4, 5, 9, 10, 11, 12, 13, 14, 15, 16, 17] (.seq (.ops [⟨some 9, none, .prim (.bin false .lss (.tmp 8) (.tmp 7))⟩])
    (.seq (.cond (.tmp 9)
    .skip
    (.exit 0))
    (.seq (.block 1 (.seq (.ops [⟨some 10, none, .prim (.iadrs 1 (.tmp 6) (.tmp 8))⟩,
      ⟨some 11, none, .prim (.load 1 false (.tmp 10))⟩,
      ⟨some 5, none, .prim (.mov (.tmp 11))⟩])
    (.seq (.ops [⟨some 12, none, .prim (.mov (.tmp 5))⟩,
      ⟨some 13, none, .prim (.mov (.tmp 3))⟩,
      ⟨some 14, none, .prim (.bin false .neq (.tmp 12) (.tmp 13))⟩])
    (.cond (.tmp 14)
    (.seq (.ops [⟨some 15, none, .prim (.mov (.tmp 5))⟩,
      ⟨some 2, none, .prim (.mov (.tmp 15))⟩])
    .ret)
    .skip))))
    (.ops [⟨some 16, none, .prim (.bin false .add (.tmp 8) (.const (Go.Value.int Go.IntKind.i64 1)))⟩,
      ⟨some 8, none, .prim (.mov (.tmp 16))⟩])))))))
    (.seq (.ops [⟨some 17, none, .prim (.mov (.tmp 3))⟩,
      ⟨some 2, none, .prim (.mov (.tmp 17))⟩])
    .ret))))
def o83 : List Tmp := []
def r83 : List RV := [.tmp 2]
theorem t83 : Text Tryz.prog 83 o83 c83 r83 18 := ⟨⟨Tryz.f83, _, by kernel_rfl, by kernel_rfl, rfl, by kernel_rfl, by kernel_rfl, rfl⟩, by kernel_rfl⟩

/-- strings.Compare -/
def c84 : ACode :=
  (.seq (.ops [⟨some 4, none, .prim (.mov (.const (Go.Value.int Go.IntKind.i64 0)))⟩])
    (.seq (.ops [⟨some 5, none, .prim (.mov (.tmp 0))⟩,
      ⟨some 6, none, .prim (.mov (.tmp 1))⟩,
      ⟨some 7, none, .call (.func 88) [(.tmp 5), (.tmp 6)]⟩,
      ⟨some 4, none, .prim (.mov (.tmp 7))⟩])
    .ret))
def o84 : List Tmp := []
def r84 : List RV := [.tmp 4]
theorem t84 : Text Tryz.prog 84 o84 c84 r84 8 := ⟨⟨Tryz.f84, _, by kernel_rfl, by kernel_rfl, rfl, by kernel_rfl, by kernel_rfl, rfl⟩, by kernel_rfl⟩

/-- cmp.Compare[int] -/
def c85 : ACode :=
  (.seq (.ops [⟨some 4, none, .prim (.mov (.const (Go.Value.int Go.IntKind.i64 0)))⟩])
    (.seq (.ops [⟨some 7, none, .prim (.mov (.tmp 0))⟩,
      ⟨some 8, none, .call (.func 89) [(.tmp 7)]⟩,
      ⟨some 5, none, .prim (.mov (.tmp 8))⟩])
    (.seq (.ops [⟨some 9, none, .prim (.mov (.tmp 1))⟩,
      ⟨some 10, none, .call (.func 89) [(.tmp 9)]⟩,
      ⟨some 6, none, .prim (.mov (.tmp 10))⟩])
    (.seq (.seq (.ops [⟨some 11, none, .prim (.mov (.tmp 5))⟩])
    (.cond (.tmp 11)
    (.seq (.seq (.ops [⟨some 12, none, .prim (.mov (.tmp 6))⟩])
    (.cond (.tmp 12)
    (.seq (.ops [⟨some 4, none, .prim (.mov (.const (Go.Value.int Go.IntKind.i64 0)))⟩])
    .ret)
    .skip))
    (.seq (.ops [⟨some 4, none, .prim (.mov (.const (Go.Value.int Go.IntKind.i64 (-1))))⟩])
    .ret))
    .skip))
    (.seq (.seq (.ops [⟨some 13, none, .prim (.mov (.tmp 6))⟩])
    (.cond (.tmp 13)
    (.seq (.ops [⟨some 4, none, .prim (.mov (.const (Go.Value.int Go.IntKind.i64 1)))⟩])
    .ret)
    .skip))
    (.seq (.seq (.ops [⟨some 14, none, .prim (.mov (.tmp 0))⟩,
      ⟨some 15, none, .prim (.mov (.tmp 1))⟩,
      ⟨some 16, none, .prim (.bin false .lss (.tmp 14) (.tmp 15))⟩])
    (.cond (.tmp 16)
    (.seq (.ops [⟨some 4, none, .prim (.mov (.const (Go.Value.int Go.IntKind.i64 (-1))))⟩])
    .ret)
    .skip))
    (.seq (.seq (.ops [⟨some 17, none, .prim (.mov (.tmp 0))⟩,
      ⟨some 18, none, .prim (.mov (.tmp 1))⟩,
      ⟨some 19, none, .prim (.bin false .gtr (.tmp 17) (.tmp 18))⟩])
    (.cond (.tmp 19)
    (.seq (.ops [⟨some 4, none, .prim (.mov (.const (Go.Value.int Go.IntKind.i64 1)))⟩])
    .ret)
    .skip))
    (.seq (.ops [⟨some 4, none, .prim (.mov (.const (Go.Value.int Go.IntKind.i64 0)))⟩])
    .ret))))))))
def o85 : List Tmp := []
def r85 : List RV := [.tmp 4]
theorem t85 : Text Tryz.prog 85 o85 c85 r85 20 := ⟨⟨Tryz.f85, _, by kernel_rfl, by kernel_rfl, rfl, by kernel_rfl, by kernel_rfl, rfl⟩, by kernel_rfl⟩

/-- sordine/labels.letter -/
def c86 : ACode :=
  (.seq (.ops [⟨some 2, none, .prim (.mov (.const (Go.Value.bool Bool.false)))⟩])
    (.seq (.ops [⟨some 3, none, .prim (.mov (.tmp 0))⟩,
      ⟨some 4, none, .prim (.bin false .geq (.tmp 3) (.const (Go.Value.int Go.IntKind.u8 97)))⟩,
      ⟨some 5, none, .prim (.mov (.tmp 4))⟩,
      ⟨some 6, (some (5, true)), .prim (.mov (.tmp 0))⟩,
      ⟨some 7, (some (5, true)), .prim (.bin false .leq (.tmp 6) (.const (Go.Value.int Go.IntKind.u8 122)))⟩,
      ⟨some 8, none, .prim (.pick (.tmp 5) (.tmp 7) (.const (Go.Value.bool Bool.false)))⟩,
      ⟨some 9, none, .prim (.mov (.tmp 8))⟩,
      ⟨some 10, (some (9, false)), .prim (.mov (.tmp 0))⟩,
      ⟨some 11, (some (9, false)), .prim (.bin false .geq (.tmp 10) (.const (Go.Value.int Go.IntKind.u8 65)))⟩,
      ⟨some 12, (some (9, false)), .prim (.mov (.tmp 11))⟩,
      ⟨some 13, (some (12, true)), .prim (.mov (.tmp 0))⟩,
      ⟨some 14, (some (12, true)), .prim (.bin false .leq (.tmp 13) (.const (Go.Value.int Go.IntKind.u8 90)))⟩,
      ⟨some 15, (some (9, false)), .prim (.pick (.tmp 12) (.tmp 14) (.const (Go.Value.bool Bool.false)))⟩,
      ⟨some 16, none, .prim (.pick (.tmp 9) (.const (Go.Value.bool Bool.true)) (.tmp 15))⟩,
      ⟨some 17, none, .prim (.mov (.tmp 16))⟩,
      ⟨some 18, (some (17, false)), .prim (.mov (.tmp 0))⟩,
      ⟨some 19, (some (17, false)), .prim (.bin false .eql (.tmp 18) (.const (Go.Value.int Go.IntKind.u8 95)))⟩,
      ⟨some 20, none, .prim (.pick (.tmp 17) (.const (Go.Value.bool Bool.true)) (.tmp 19))⟩,
      ⟨some 2, none, .prim (.mov (.tmp 20))⟩])
    .ret))
def o86 : List Tmp := []
def r86 : List RV := [.tmp 2]
theorem t86 : Text Tryz.prog 86 o86 c86 r86 21 := ⟨⟨Tryz.f86, _, by kernel_rfl, by kernel_rfl, rfl, by kernel_rfl, by kernel_rfl, rfl⟩, by kernel_rfl⟩

/-- (*sordine/rex.parser).ways -/
def c87 : ACode :=
  (.seq (.ops [⟨some 4, none, .prim (.allocm [.pl (.int .i64 0), .pl (.int .u64 0), .pl (.int .u64 0), .pl (.int .u64 0), .pl (.int .u64 0), .nils])⟩])
    (.seq (.ops [⟨some 6, none, .prim (.mov (.tmp 0))⟩,
      ⟨some 7, none, .prim (.mov (.tmp 1))⟩,
      ⟨some 8, none, .call (.func 90) [(.tmp 6), (.tmp 7)]⟩,
      ⟨some 9, none, .prim (.bsl true 6 true 1 [.pl (.int .i64 0), .pl (.int .u64 0), .pl (.int .u64 0), .pl (.int .u64 0), .pl (.int .u64 0), .nils] [(0, 6, (.tmp 8))])⟩,
      ⟨some 5, none, .prim (.mov (.tmp 9))⟩])
    (.seq (.block 0 (.loop [2, 3, 6, 7, 8, 9, 10, 11, 12, 13, 14, 15, 16, 17, 18, 19, 20, 21, 22, 23, 24, 25] (.seq (.seq (.ops [⟨some 10, none, .prim (.mov (.tmp 0))⟩,
      ⟨some 11, none, .call (.func 91) [(.tmp 10), (.const (Go.Value.int Go.IntKind.u8 124))]⟩])
    (.cond (.tmp 11)
    .skip
    (.exit 0)))
    (.block 1 (.ops [⟨some 12, none, .prim (.mov (.tmp 5))⟩,
      ⟨some 13, none, .prim (.mov (.tmp 0))⟩,
      ⟨some 14, none, .prim (.mov (.tmp 1))⟩,
      ⟨some 15, none, .call (.func 90) [(.tmp 13), (.tmp 14)]⟩,
      ⟨some 16, none, .prim (.bsl false 6 true 1 [.pl (.int .i64 0), .pl (.int .u64 0), .pl (.int .u64 0), .pl (.int .u64 0), .pl (.int .u64 0), .nils] [(0, 6, (.tmp 15))])⟩,
      ⟨some 17, none, .prim (.app 6 (.tmp 12) (.tmp 16))⟩,
      ⟨some 5, none, .prim (.mov (.tmp 17))⟩])))))
    (.seq (.seq (.ops [⟨some 18, none, .prim (.mov (.tmp 5))⟩,
      ⟨some 19, none, .prim (.lenv (.tmp 18))⟩,
      ⟨some 20, none, .prim (.bin false .eql (.tmp 19) (.const (Go.Value.int Go.IntKind.i64 1)))⟩])
    (.cond (.tmp 20)
    (.seq (.ops [⟨some 21, none, .prim (.mov (.tmp 5))⟩,
      ⟨some 22, none, .prim (.iadrs 6 (.tmp 21) (.const (Go.Value.int Go.IntKind.i64 0)))⟩,
      ⟨some 23, none, .prim (.load 6 true (.tmp 22))⟩,
      ⟨none, none, .prim (.store 6 (.tmp 4) (.tmp 23))⟩])
    .ret)
    .skip))
    (.seq (.ghost (.shut 5) (.ops [⟨some 24, none, .prim (.mov (.tmp 5))⟩,
      ⟨some 25, none, .prim (.build [.pl (.int .i64 0), .pl (.int .u64 0), .pl (.int .u64 0), .pl (.int .u64 0), .pl (.int .u64 0), .nils] [(0, 1, (.const (Go.Value.int Go.IntKind.i64 3))), (5, 1, (.tmp 24))])⟩,
      ⟨none, none, .prim (.store 6 (.tmp 4) (.tmp 25))⟩]))
    .ret)))))
def o87 : List Tmp := [4, 9]
def r87 : List RV := [.cell 4 6 true]
theorem t87 : Text Tryz.prog 87 o87 c87 r87 26 := ⟨⟨Tryz.f87, _, by kernel_rfl, by kernel_rfl, rfl, by kernel_rfl, by kernel_rfl, rfl⟩, by kernel_rfl⟩

/-- internal/bytealg.CompareString -/
def c88 : ACode :=
  (.seq (.ops [⟨some 4, none, .prim (.mov (.const (Go.Value.int Go.IntKind.i64 0)))⟩])
    (.seq (.ops [⟨some 5, none, .prim (.mov (.tmp 0))⟩,
      ⟨some 6, none, .prim (.mov (.tmp 1))⟩,
      ⟨some 7, none, .call (.func 92) [(.tmp 5), (.tmp 6)]⟩,
      ⟨some 4, none, .prim (.mov (.tmp 7))⟩])
    .ret))
def o88 : List Tmp := []
def r88 : List RV := [.tmp 4]
theorem t88 : Text Tryz.prog 88 o88 c88 r88 8 := ⟨⟨Tryz.f88, _, by kernel_rfl, by kernel_rfl, rfl, by kernel_rfl, by kernel_rfl, rfl⟩, by kernel_rfl⟩

/-- cmp.isNaN[int] -/
def c89 : ACode :=
  (.seq (.ops [⟨some 2, none, .prim (.mov (.const (Go.Value.bool Bool.false)))⟩])
    (.seq (.ops [⟨some 3, none, .prim (.mov (.tmp 0))⟩,
      ⟨some 4, none, .prim (.mov (.tmp 0))⟩,
      ⟨some 5, none, .prim (.bin false .neq (.tmp 3) (.tmp 4))⟩,
      ⟨some 2, none, .prim (.mov (.tmp 5))⟩])
    .ret))
def o89 : List Tmp := []
def r89 : List RV := [.tmp 2]
theorem t89 : Text Tryz.prog 89 o89 c89 r89 6 := ⟨⟨Tryz.f89, _, by kernel_rfl, by kernel_rfl, rfl, by kernel_rfl, by kernel_rfl, rfl⟩, by kernel_rfl⟩

/-- (*sordine/rex.parser).way -/
def c90 : ACode :=
  (.seq (.ops [⟨some 4, none, .prim (.allocm [.pl (.int .i64 0), .pl (.int .u64 0), .pl (.int .u64 0), .pl (.int .u64 0), .pl (.int .u64 0), .nils])⟩])
    (.seq (.ops [⟨some 5, none, .prim (.mov (.const (Go.Value.slice Option.none 0 0)))⟩])
    (.seq (.block 0 (.loop [2, 3, 6, 7, 8, 9, 10, 11, 12, 13, 14, 15, 16, 17, 18, 19, 20, 21, 22, 23, 24, 25, 26, 27, 28, 29, 30, 31, 32] (.seq (.seq (.ops [⟨some 6, none, .prim (.mov (.tmp 0))⟩,
      ⟨some 7, none, .call (.func 93) [(.tmp 6)]⟩,
      ⟨some 8, none, .prim (.un .not (.tmp 7))⟩,
      ⟨some 9, none, .prim (.mov (.tmp 8))⟩,
      ⟨some 10, (some (9, true)), .prim (.mov (.tmp 0))⟩,
      ⟨some 11, (some (9, true)), .call (.func 94) [(.tmp 10), (.const (Go.Value.int Go.IntKind.u8 124))]⟩,
      ⟨some 12, (some (9, true)), .prim (.un .not (.tmp 11))⟩,
      ⟨some 13, none, .prim (.pick (.tmp 9) (.tmp 12) (.const (Go.Value.bool Bool.false)))⟩,
      ⟨some 14, none, .prim (.mov (.tmp 13))⟩,
      ⟨some 15, (some (14, true)), .prim (.mov (.tmp 0))⟩,
      ⟨some 16, (some (14, true)), .call (.func 94) [(.tmp 15), (.const (Go.Value.int Go.IntKind.u8 41))]⟩,
      ⟨some 17, (some (14, true)), .prim (.un .not (.tmp 16))⟩,
      ⟨some 18, none, .prim (.pick (.tmp 14) (.tmp 17) (.const (Go.Value.bool Bool.false)))⟩])
    (.cond (.tmp 18)
    .skip
    (.exit 0)))
    (.block 1 (.ops [⟨some 19, none, .prim (.mov (.tmp 5))⟩,
      ⟨some 20, none, .prim (.mov (.tmp 0))⟩,
      ⟨some 21, none, .prim (.mov (.tmp 1))⟩,
      ⟨some 22, none, .call (.func 95) [(.tmp 20), (.tmp 21)]⟩,
      ⟨some 23, none, .prim (.bsl false 6 true 1 [.pl (.int .i64 0), .pl (.int .u64 0), .pl (.int .u64 0), .pl (.int .u64 0), .pl (.int .u64 0), .nils] [(0, 6, (.tmp 22))])⟩,
      ⟨some 24, none, .prim (.app 6 (.tmp 19) (.tmp 23))⟩,
      ⟨some 5, none, .prim (.mov (.tmp 24))⟩])))))
    (.seq (.seq (.ops [⟨some 25, none, .prim (.mov (.tmp 5))⟩,
      ⟨some 26, none, .prim (.lenv (.tmp 25))⟩,
      ⟨some 27, none, .prim (.bin false .eql (.tmp 26) (.const (Go.Value.int Go.IntKind.i64 1)))⟩])
    (.cond (.tmp 27)
    (.seq (.ops [⟨some 28, none, .prim (.mov (.tmp 5))⟩,
      ⟨some 29, none, .prim (.iadrs 6 (.tmp 28) (.const (Go.Value.int Go.IntKind.i64 0)))⟩,
      ⟨some 30, none, .prim (.load 6 true (.tmp 29))⟩,
      ⟨none, none, .prim (.store 6 (.tmp 4) (.tmp 30))⟩])
    .ret)
    .skip))
    (.seq (.ghost (.shut 5) (.ops [⟨some 31, none, .prim (.mov (.tmp 5))⟩,
      ⟨some 32, none, .prim (.build [.pl (.int .i64 0), .pl (.int .u64 0), .pl (.int .u64 0), .pl (.int .u64 0), .pl (.int .u64 0), .nils] [(0, 1, (.const (Go.Value.int Go.IntKind.i64 2))), (5, 1, (.tmp 31))])⟩,
      ⟨none, none, .prim (.store 6 (.tmp 4) (.tmp 32))⟩]))
    .ret)))))
def o90 : List Tmp := [4]
def r90 : List RV := [.cell 4 6 true]
theorem t90 : Text Tryz.prog 90 o90 c90 r90 33 := ⟨⟨Tryz.f90, _, by kernel_rfl, by kernel_rfl, rfl, by kernel_rfl, by kernel_rfl, rfl⟩, by kernel_rfl⟩

/-- (*sordine/rex.parser).next -/
def c91 : ACode :=
  (.seq (.ops [⟨some 4, none, .prim (.mov (.const (Go.Value.bool Bool.false)))⟩])
    (.seq (.seq (.ops [⟨some 5, none, .prim (.mov (.tmp 0))⟩,
      ⟨some 6, none, .prim (.mov (.tmp 1))⟩,
      ⟨some 7, none, .call (.func 94) [(.tmp 5), (.tmp 6)]⟩,
      ⟨some 8, none, .prim (.un .not (.tmp 7))⟩])
    (.cond (.tmp 8)
    (.seq (.ops [⟨some 4, none, .prim (.mov (.const (Go.Value.bool Bool.false)))⟩])
    .ret)
    .skip))
    (.seq (.ops [⟨some 9, none, .prim (.mov (.tmp 0))⟩,
      ⟨some 10, none, .prim (.nilc (.tmp 9))⟩,
      ⟨some 11, none, .prim (.fadr 1 (.tmp 10))⟩,
      ⟨some 12, none, .prim (.load 1 false (.tmp 11))⟩,
      ⟨some 13, none, .prim (.bin false .add (.tmp 12) (.const (Go.Value.int Go.IntKind.i64 1)))⟩,
      ⟨some 14, none, .prim (.nilc (.tmp 9))⟩,
      ⟨some 15, none, .prim (.fadr 1 (.tmp 14))⟩,
      ⟨none, none, .prim (.store 1 (.tmp 15) (.tmp 13))⟩])
    (.seq (.ops [⟨some 4, none, .prim (.mov (.const (Go.Value.bool Bool.true)))⟩])
    .ret))))
def o91 : List Tmp := []
def r91 : List RV := [.tmp 4]
theorem t91 : Text Tryz.prog 91 o91 c91 r91 16 := ⟨⟨Tryz.f91, _, by kernel_rfl, by kernel_rfl, rfl, by kernel_rfl, by kernel_rfl, rfl⟩, by kernel_rfl⟩

/-- (*sordine/rex.parser).over -/
def c93 : ACode :=
  (.seq (.ops [⟨some 2, none, .prim (.mov (.const (Go.Value.bool Bool.false)))⟩])
    (.seq (.draw [⟨⟨some 3, none, .prim (.mov (.tmp 0))⟩, [], false, 0, 0⟩,
      ⟨⟨some 4, none, .prim (.nilc (.tmp 3))⟩, [0], false, 0, 0⟩,
      ⟨⟨some 5, none, .prim (.fadr 2 (.tmp 4))⟩, [0, 1], false, 0, 0⟩,
      ⟨⟨some 6, none, .prim (.load 1 false (.tmp 5))⟩, [0, 1, 2], false, 0, 0⟩,
      ⟨⟨some 7, none, .prim (.mov (.tmp 6))⟩, [0, 1, 2, 3], false, 0, 0⟩,
      ⟨⟨some 8, (some (7, false)), .prim (.mov (.tmp 0))⟩, [0, 1, 2, 3, 4], false, 0, 0⟩,
      ⟨⟨some 9, (some (7, false)), .prim (.nilc (.tmp 8))⟩, [0, 1, 2, 3, 4, 5], false, 0, 0⟩,
      ⟨⟨some 10, (some (7, false)), .prim (.fadr 1 (.tmp 9))⟩, [0, 1, 2, 3, 4, 5, 6], false, 0, 0⟩,
      ⟨⟨some 11, (some (7, false)), .prim (.load 1 false (.tmp 10))⟩, [0, 1, 2, 3, 4, 5, 6, 7], false, 0, 0⟩,
      ⟨⟨some 12, (some (7, false)), .prim (.mov (.tmp 0))⟩, [0, 1, 2, 3, 4], false, 0, 0⟩,
      ⟨⟨some 13, (some (7, false)), .prim (.nilc (.tmp 12))⟩, [0, 1, 2, 3, 4, 9], false, 0, 0⟩,
      ⟨⟨some 14, (some (7, false)), .prim (.fadr 0 (.tmp 13))⟩, [0, 1, 2, 3, 4, 9, 10], false, 0, 0⟩,
      ⟨⟨some 15, (some (7, false)), .prim (.load 1 false (.tmp 14))⟩, [0, 1, 2, 3, 4, 9, 10, 11], false, 0, 0⟩,
      ⟨⟨some 16, (some (7, false)), .prim (.lens (.tmp 15))⟩, [0, 1, 2, 3, 4, 9, 10, 11, 12], false, 0, 0⟩,
      ⟨⟨some 17, (some (7, false)), .prim (.bin false .geq (.tmp 11) (.tmp 16))⟩, [0, 1, 2, 3, 4, 5, 6, 7, 8, 9, 10, 11, 12, 13], false, 0, 0⟩,
      ⟨⟨some 18, none, .prim (.pick (.tmp 7) (.const (Go.Value.bool Bool.true)) (.tmp 17))⟩, [0, 1, 2, 3, 4, 5, 6, 7, 8, 9, 10, 11, 12, 13, 14], false, 0, 0⟩,
      ⟨⟨some 2, none, .prim (.mov (.tmp 18))⟩, [0, 1, 2, 3, 4, 5, 6, 7, 8, 9, 10, 11, 12, 13, 14, 15], false, 0, 0⟩])
    .ret))
def o93 : List Tmp := []
def r93 : List RV := [.tmp 2]
theorem t93 : Text Tryz.prog 93 o93 c93 r93 19 := ⟨⟨Tryz.f93, _, by kernel_rfl, by kernel_rfl, rfl, by kernel_rfl, by kernel_rfl, rfl⟩, by kernel_rfl⟩

/-- (*sordine/rex.parser).sees -/
def c94 : ACode :=
  (.seq (.ops [⟨some 4, none, .prim (.mov (.const (Go.Value.bool Bool.false)))⟩])
    (.seq (.draw [⟨⟨some 5, none, .prim (.mov (.tmp 0))⟩, [], false, 0, 0⟩,
      ⟨⟨some 6, none, .call (.func 93) [(.tmp 5)]⟩, [0], true, 0, 0⟩,
      ⟨⟨some 7, none, .prim (.un .not (.tmp 6))⟩, [0, 1], false, 1, 1⟩,
      ⟨⟨some 8, none, .prim (.mov (.tmp 7))⟩, [0, 1, 2], false, 1, 1⟩,
      ⟨⟨some 9, (some (8, true)), .prim (.mov (.tmp 0))⟩, [0, 1, 2, 3], false, 1, 1⟩,
      ⟨⟨some 10, (some (8, true)), .prim (.nilc (.tmp 9))⟩, [0, 1, 2, 3, 4], false, 1, 1⟩,
      ⟨⟨some 11, (some (8, true)), .prim (.fadr 0 (.tmp 10))⟩, [0, 1, 2, 3, 4, 5], false, 1, 1⟩,
      ⟨⟨some 12, (some (8, true)), .prim (.load 1 false (.tmp 11))⟩, [0, 1, 2, 3, 4, 5, 6], false, 1, 1⟩,
      ⟨⟨some 13, (some (8, true)), .prim (.mov (.tmp 0))⟩, [0, 1, 2, 3], false, 1, 1⟩,
      ⟨⟨some 14, (some (8, true)), .prim (.nilc (.tmp 13))⟩, [0, 1, 2, 3, 8], false, 1, 1⟩,
      ⟨⟨some 15, (some (8, true)), .prim (.fadr 1 (.tmp 14))⟩, [0, 1, 2, 3, 8, 9], false, 1, 1⟩,
      ⟨⟨some 16, (some (8, true)), .prim (.load 1 false (.tmp 15))⟩, [0, 1, 2, 3, 8, 9, 10], false, 1, 1⟩,
      ⟨⟨some 17, (some (8, true)), .prim (.idxs (.tmp 12) (.tmp 16))⟩, [0, 1, 2, 3, 4, 5, 6, 7, 8, 9, 10, 11], false, 1, 1⟩,
      ⟨⟨some 18, (some (8, true)), .prim (.mov (.tmp 1))⟩, [0, 1, 2, 3], false, 1, 1⟩,
      ⟨⟨some 19, (some (8, true)), .prim (.bin false .eql (.tmp 17) (.tmp 18))⟩, [0, 1, 2, 3, 4, 5, 6, 7, 8, 9, 10, 11, 12, 13], false, 1, 1⟩,
      ⟨⟨some 20, none, .prim (.pick (.tmp 8) (.tmp 19) (.const (Go.Value.bool Bool.false)))⟩, [0, 1, 2, 3, 4, 5, 6, 7, 8, 9, 10, 11, 12, 13, 14], false, 1, 1⟩,
      ⟨⟨some 4, none, .prim (.mov (.tmp 20))⟩, [0, 1, 2, 3, 4, 5, 6, 7, 8, 9, 10, 11, 12, 13, 14, 15], false, 1, 1⟩])
    .ret))
def o94 : List Tmp := []
def r94 : List RV := [.tmp 4]
theorem t94 : Text Tryz.prog 94 o94 c94 r94 21 := ⟨⟨Tryz.f94, _, by kernel_rfl, by kernel_rfl, rfl, by kernel_rfl, by kernel_rfl, rfl⟩, by kernel_rfl⟩

/-- (*sordine/rex.parser).factor -/
def c95 : ACode :=
  (.seq (.ops [⟨some 4, none, .prim (.allocm [.pl (.int .i64 0), .pl (.int .u64 0), .pl (.int .u64 0), .pl (.int .u64 0), .pl (.int .u64 0), .nils])⟩])
    (.seq (.ops [⟨some 6, none, .prim (.mov (.tmp 0))⟩,
      ⟨some 7, none, .prim (.mov (.tmp 1))⟩,
      ⟨some 8, none, .call (.func 96) [(.tmp 6), (.tmp 7)]⟩,
      ⟨some 5, none, .fresh 6 5 (.tmp 8)⟩])
    (.seq (.block 0 (.seq (.ops [⟨some 10, none, .prim (.mov (.tmp 0))⟩,
      ⟨some 11, none, .call (.func 91) [(.tmp 10), (.const (Go.Value.int Go.IntKind.u8 42))]⟩,
      ⟨some 9, none, .prim (.mov (.tmp 11))⟩])
    (.cond (.tmp 9)
    (.seq (.ops [⟨some 12, none, .prim (.load 6 true (.tmp 5))⟩,
      ⟨some 13, none, .prim (.bsl false 6 true 1 [.pl (.int .i64 0), .pl (.int .u64 0), .pl (.int .u64 0), .pl (.int .u64 0), .pl (.int .u64 0), .nils] [(0, 6, (.tmp 12))])⟩,
      ⟨some 14, none, .prim (.build [.pl (.int .i64 0), .pl (.int .u64 0), .pl (.int .u64 0), .pl (.int .u64 0), .pl (.int .u64 0), .nils] [(0, 1, (.const (Go.Value.int Go.IntKind.i64 4))), (5, 1, (.tmp 13))])⟩,
      ⟨none, none, .prim (.store 6 (.tmp 4) (.tmp 14))⟩])
    .ret)
    (.seq (.ops [⟨some 16, none, .prim (.mov (.tmp 0))⟩,
      ⟨some 17, none, .call (.func 91) [(.tmp 16), (.const (Go.Value.int Go.IntKind.u8 43))]⟩,
      ⟨some 15, none, .prim (.mov (.tmp 17))⟩])
    (.cond (.tmp 15)
    (.seq (.ops [⟨some 18, none, .prim (.load 6 true (.tmp 5))⟩,
      ⟨some 19, none, .prim (.bsl false 6 true 1 [.pl (.int .i64 0), .pl (.int .u64 0), .pl (.int .u64 0), .pl (.int .u64 0), .pl (.int .u64 0), .nils] [(0, 6, (.tmp 18))])⟩,
      ⟨some 20, none, .prim (.build [.pl (.int .i64 0), .pl (.int .u64 0), .pl (.int .u64 0), .pl (.int .u64 0), .pl (.int .u64 0), .nils] [(0, 1, (.const (Go.Value.int Go.IntKind.i64 5))), (5, 1, (.tmp 19))])⟩,
      ⟨none, none, .prim (.store 6 (.tmp 4) (.tmp 20))⟩])
    .ret)
    (.seq (.ops [⟨some 22, none, .prim (.mov (.tmp 0))⟩,
      ⟨some 23, none, .call (.func 91) [(.tmp 22), (.const (Go.Value.int Go.IntKind.u8 63))]⟩,
      ⟨some 21, none, .prim (.mov (.tmp 23))⟩])
    (.cond (.tmp 21)
    (.seq (.ops [⟨some 24, none, .prim (.load 6 true (.tmp 5))⟩,
      ⟨some 25, none, .prim (.bsl false 6 true 1 [.pl (.int .i64 0), .pl (.int .u64 0), .pl (.int .u64 0), .pl (.int .u64 0), .pl (.int .u64 0), .nils] [(0, 6, (.tmp 24))])⟩,
      ⟨some 26, none, .prim (.build [.pl (.int .i64 0), .pl (.int .u64 0), .pl (.int .u64 0), .pl (.int .u64 0), .pl (.int .u64 0), .nils] [(0, 1, (.const (Go.Value.int Go.IntKind.i64 6))), (5, 1, (.tmp 25))])⟩,
      ⟨none, none, .prim (.store 6 (.tmp 4) (.tmp 26))⟩])
    .ret)
    .skip)))))))
    (.seq (.ops [⟨some 27, none, .prim (.load 6 true (.tmp 5))⟩,
      ⟨none, none, .prim (.store 6 (.tmp 4) (.tmp 27))⟩])
    .ret))))
def o95 : List Tmp := [4]
def r95 : List RV := [.cell 4 6 true]
theorem t95 : Text Tryz.prog 95 o95 c95 r95 28 := ⟨⟨Tryz.f95, _, by kernel_rfl, by kernel_rfl, rfl, by kernel_rfl, by kernel_rfl, rfl⟩, by kernel_rfl⟩

end Go.Proofs.YthlkjemalepnlaaGreatDoor
