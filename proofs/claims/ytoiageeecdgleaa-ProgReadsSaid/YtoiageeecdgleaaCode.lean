/- The code of the functions and what was checked of it, for the proofs that import this text. No condition. -/
import Derived.Test.YtoiageeecdgleaaProg
import Derived.Test.YtoiageeecdgleaaAbSpec
namespace Go.Proofs.Ytoiageeecdgleaa
open Go Go.Ab
set_option maxRecDepth 100000

/-- sordine/sordinelaw6.ProgRuns -/
def c3 : ACode :=
  (.seq (.ops [⟨some 0, none, .prim (.mov (.const (Go.Value.bool Bool.false)))⟩])
    (.seq (.ops [⟨some 6, none, .call (.func 9) [(.const (Go.Value.string (ByteArray.mk #[97, 42])))]⟩,
      ⟨some 5, none, .prim (.mov (.tmp 6))⟩,
      ⟨some 7, none, .prim (.extr 0 (.tmp 5))⟩,
      ⟨some 8, none, .prim (.extr 1 (.tmp 5))⟩,
      ⟨some 1, none, .fresh 6 1 (.tmp 7)⟩,
      ⟨some 2, none, .prim (.mov (.tmp 8))⟩])
    (.seq (.ops [⟨some 10, none, .prim (.load 6 true (.tmp 1))⟩,
      ⟨some 11, none, .call (.func 10) [(.tmp 10)]⟩,
      ⟨some 9, none, .prim (.mov (.tmp 11))⟩,
      ⟨some 12, none, .prim (.extr 0 (.tmp 9))⟩,
      ⟨some 13, none, .prim (.extr 1 (.tmp 9))⟩,
      ⟨some 3, none, .prim (.mov (.tmp 12))⟩,
      ⟨some 4, none, .prim (.mov (.tmp 13))⟩])
    (.seq (.ops [⟨some 14, none, .prim (.mov (.tmp 2))⟩,
      ⟨some 15, none, .prim (.mov (.tmp 14))⟩,
      ⟨some 16, (some (15, true)), .prim (.mov (.tmp 4))⟩,
      ⟨some 17, none, .prim (.pick (.tmp 15) (.tmp 16) (.const (Go.Value.bool Bool.false)))⟩,
      ⟨some 18, none, .prim (.mov (.tmp 17))⟩,
      ⟨some 19, (some (18, true)), .prim (.mov (.tmp 3))⟩,
      ⟨some 20, (some (18, true)), .prim (.lenv (.tmp 19))⟩,
      ⟨some 21, (some (18, true)), .prim (.bin false .eql (.tmp 20) (.const (Go.Value.int Go.IntKind.i64 4)))⟩,
      ⟨some 22, none, .prim (.pick (.tmp 18) (.tmp 21) (.const (Go.Value.bool Bool.false)))⟩,
      ⟨some 23, none, .prim (.mov (.tmp 22))⟩,
      ⟨some 24, (some (23, true)), .prim (.mov (.tmp 3))⟩,
      ⟨some 25, (some (23, true)), .prim (.iadrs 7 (.tmp 24) (.const (Go.Value.int Go.IntKind.i64 0)))⟩,
      ⟨some 26, (some (23, true)), .prim (.load 7 true (.tmp 25))⟩,
      ⟨some 27, (some (23, true)), .prim (.build [.pl (.int .i64 0), .pl (.int .u64 0), .pl (.int .u64 0), .pl (.int .u64 0), .pl (.int .u64 0), .pl (.int .i64 0), .pl (.int .i64 0)] [(0, 1, (.const (Go.Value.int Go.IntKind.i64 2))), (5, 1, (.const (Go.Value.int Go.IntKind.i64 1))), (6, 1, (.const (Go.Value.int Go.IntKind.i64 3)))])⟩,
      ⟨some 28, (some (23, true)), .prim (.eqa false [.int, .int, .int, .int, .int, .int, .int] (.tmp 26) (.tmp 27))⟩,
      ⟨some 29, none, .prim (.pick (.tmp 23) (.tmp 28) (.const (Go.Value.bool Bool.false)))⟩,
      ⟨some 30, none, .prim (.mov (.tmp 29))⟩,
      ⟨some 31, (some (30, true)), .prim (.mov (.tmp 3))⟩,
      ⟨some 32, (some (30, true)), .prim (.iadrs 7 (.tmp 31) (.const (Go.Value.int Go.IntKind.i64 1)))⟩,
      ⟨some 33, (some (30, true)), .prim (.fadr 0 (.tmp 32))⟩,
      ⟨some 34, (some (30, true)), .prim (.load 1 false (.tmp 33))⟩,
      ⟨some 35, (some (30, true)), .prim (.bin false .eql (.tmp 34) (.const (Go.Value.int Go.IntKind.i64 1)))⟩,
      ⟨some 36, none, .prim (.pick (.tmp 30) (.tmp 35) (.const (Go.Value.bool Bool.false)))⟩,
      ⟨some 37, none, .prim (.mov (.tmp 36))⟩,
      ⟨some 38, (some (37, true)), .prim (.mov (.tmp 3))⟩,
      ⟨some 39, (some (37, true)), .prim (.iadrs 7 (.tmp 38) (.const (Go.Value.int Go.IntKind.i64 2)))⟩,
      ⟨some 40, (some (37, true)), .prim (.load 7 true (.tmp 39))⟩,
      ⟨some 41, (some (37, true)), .prim (.build [.pl (.int .i64 0), .pl (.int .u64 0), .pl (.int .u64 0), .pl (.int .u64 0), .pl (.int .u64 0), .pl (.int .i64 0), .pl (.int .i64 0)] [(0, 1, (.const (Go.Value.int Go.IntKind.i64 3)))])⟩,
      ⟨some 42, (some (37, true)), .prim (.eqa false [.int, .int, .int, .int, .int, .int, .int] (.tmp 40) (.tmp 41))⟩,
      ⟨some 43, none, .prim (.pick (.tmp 37) (.tmp 42) (.const (Go.Value.bool Bool.false)))⟩,
      ⟨some 44, none, .prim (.mov (.tmp 43))⟩,
      ⟨some 45, (some (44, true)), .prim (.mov (.tmp 3))⟩,
      ⟨some 46, (some (44, true)), .prim (.iadrs 7 (.tmp 45) (.const (Go.Value.int Go.IntKind.i64 3)))⟩,
      ⟨some 47, (some (44, true)), .prim (.load 7 true (.tmp 46))⟩,
      ⟨some 48, (some (44, true)), .prim (.build [.pl (.int .i64 0), .pl (.int .u64 0), .pl (.int .u64 0), .pl (.int .u64 0), .pl (.int .u64 0), .pl (.int .i64 0), .pl (.int .i64 0)] [(0, 1, (.const (Go.Value.int Go.IntKind.i64 4)))])⟩,
      ⟨some 49, (some (44, true)), .prim (.eqa false [.int, .int, .int, .int, .int, .int, .int] (.tmp 47) (.tmp 48))⟩,
      ⟨some 50, none, .prim (.pick (.tmp 44) (.tmp 49) (.const (Go.Value.bool Bool.false)))⟩,
      ⟨some 51, none, .prim (.mov (.tmp 50))⟩,
      ⟨some 52, (some (51, true)), .prim (.mov (.tmp 3))⟩,
      ⟨some 53, (some (51, true)), .call (.func 11) [(.tmp 52)]⟩,
      ⟨some 54, none, .prim (.pick (.tmp 51) (.tmp 53) (.const (Go.Value.bool Bool.false)))⟩,
      ⟨some 0, none, .prim (.mov (.tmp 54))⟩])
    .ret))))
def o3 : List Tmp := []
def r3 : List RV := [.tmp 0]
theorem t3 : Text Try.prog 3 o3 c3 r3 55 := ⟨⟨Try.f3, _, by kernel_rfl, by kernel_rfl, rfl, by kernel_rfl, by kernel_rfl, rfl⟩, by kernel_rfl⟩

/-- sordine/sordinelaw6.ProgMakes -/
def c4 : ACode :=
  (.seq (.ops [⟨some 1, none, .prim (.boxr (.tmp 0))⟩,
      ⟨some 2, none, .prim (.mov (.const (Go.Value.bool Bool.false)))⟩])
    (.seq (.seq (.ops [⟨some 7, none, .prim (.load 6 true (.tmp 1))⟩,
      ⟨some 8, none, .call (.func 12) [(.tmp 7), (.const (Go.Value.int Go.IntKind.i64 60))]⟩,
      ⟨some 9, none, .prim (.bin false .gtr (.tmp 8) (.const (Go.Value.int Go.IntKind.i64 60)))⟩])
    (.cond (.tmp 9)
    (.seq (.ops [⟨some 10, none, .call (.func 3) []⟩,
      ⟨some 2, none, .prim (.mov (.tmp 10))⟩])
    .ret)
    .skip))
    (.seq (.ops [⟨some 12, none, .prim (.load 6 true (.tmp 1))⟩,
      ⟨some 13, none, .call (.func 10) [(.tmp 12)]⟩,
      ⟨some 11, none, .prim (.mov (.tmp 13))⟩,
      ⟨some 14, none, .prim (.extr 0 (.tmp 11))⟩,
      ⟨some 15, none, .prim (.extr 1 (.tmp 11))⟩,
      ⟨some 3, none, .prim (.mov (.tmp 14))⟩,
      ⟨some 4, none, .prim (.mov (.tmp 15))⟩])
    (.seq (.ops [⟨some 17, none, .prim (.load 6 true (.tmp 1))⟩,
      ⟨some 18, none, .call (.func 13) [(.tmp 17)]⟩,
      ⟨some 16, none, .prim (.mov (.tmp 18))⟩,
      ⟨some 19, none, .prim (.extr 0 (.tmp 16))⟩,
      ⟨some 20, none, .prim (.extr 1 (.tmp 16))⟩,
      ⟨some 5, none, .prim (.mov (.tmp 19))⟩,
      ⟨some 6, none, .prim (.mov (.tmp 20))⟩])
    (.seq (.draw [⟨⟨some 21, none, .prim (.load 6 true (.tmp 1))⟩, [], false, 0, 0⟩,
      ⟨⟨some 22, none, .call (.func 14) [(.tmp 21)]⟩, [0], true, 0, 0⟩,
      ⟨⟨some 23, none, .prim (.load 6 true (.tmp 1))⟩, [], false, 0, 1⟩,
      ⟨⟨some 24, none, .call (.func 15) [(.tmp 23)]⟩, [0, 1, 2], true, 0, 0⟩,
      ⟨⟨some 25, none, .prim (.bin false .eql (.tmp 22) (.tmp 24))⟩, [0, 1, 2, 3], false, 2, 2⟩,
      ⟨⟨some 26, none, .prim (.mov (.tmp 25))⟩, [0, 1, 2, 3, 4], false, 2, 2⟩,
      ⟨⟨some 27, (some (26, true)), .prim (.mov (.tmp 4))⟩, [0, 1, 2, 3, 4, 5], false, 2, 2⟩,
      ⟨⟨some 28, (some (26, true)), .prim (.mov (.tmp 6))⟩, [0, 1, 2, 3, 4, 5], false, 2, 2⟩,
      ⟨⟨some 29, (some (26, true)), .prim (.bin true .eql (.tmp 27) (.tmp 28))⟩, [0, 1, 2, 3, 4, 5, 6, 7], false, 2, 2⟩,
      ⟨⟨some 30, none, .prim (.pick (.tmp 26) (.tmp 29) (.const (Go.Value.bool Bool.false)))⟩, [0, 1, 2, 3, 4, 5, 6, 7, 8], false, 2, 2⟩,
      ⟨⟨some 31, none, .prim (.mov (.tmp 30))⟩, [0, 1, 2, 3, 4, 5, 6, 7, 8, 9], false, 2, 2⟩,
      ⟨⟨some 32, (some (31, true)), .prim (.mov (.tmp 3))⟩, [0, 1, 2, 3, 4, 5, 6, 7, 8, 9, 10], false, 2, 2⟩,
      ⟨⟨some 33, (some (31, true)), .prim (.mov (.tmp 5))⟩, [0, 1, 2, 3, 4, 5, 6, 7, 8, 9, 10], false, 2, 2⟩,
      ⟨⟨some 34, (some (31, true)), .call (.func 16) [(.tmp 32), (.tmp 33)]⟩, [0, 1, 2, 3, 4, 5, 6, 7, 8, 9, 10, 11, 12], true, 0, 0⟩,
      ⟨⟨some 35, none, .prim (.pick (.tmp 31) (.tmp 34) (.const (Go.Value.bool Bool.false)))⟩, [0, 1, 2, 3, 4, 5, 6, 7, 8, 9, 10, 11, 12, 13], false, 3, 3⟩,
      ⟨⟨some 36, none, .prim (.mov (.tmp 35))⟩, [0, 1, 2, 3, 4, 5, 6, 7, 8, 9, 10, 11, 12, 13, 14], false, 3, 3⟩,
      ⟨⟨some 37, (some (36, true)), .call (.func 3) []⟩, [0, 1, 2, 3, 4, 5, 6, 7, 8, 9, 10, 11, 12, 13, 14, 15], true, 0, 0⟩,
      ⟨⟨some 38, none, .prim (.pick (.tmp 36) (.tmp 37) (.const (Go.Value.bool Bool.false)))⟩, [0, 1, 2, 3, 4, 5, 6, 7, 8, 9, 10, 11, 12, 13, 14, 15, 16], false, 4, 4⟩,
      ⟨⟨some 2, none, .prim (.mov (.tmp 38))⟩, [0, 1, 2, 3, 4, 5, 6, 7, 8, 9, 10, 11, 12, 13, 14, 15, 16, 17], false, 4, 4⟩])
    .ret)))))
def o4 : List Tmp := []
def r4 : List RV := [.tmp 2]
theorem t4 : Text Try.prog 4 o4 c4 r4 39 := ⟨⟨Try.f4, _, by kernel_rfl, by kernel_rfl, rfl, by kernel_rfl, by kernel_rfl, rfl⟩, by kernel_rfl⟩

/-- sordine/sordinelaw6.ProgReads -/
def c5 : ACode :=
  (.seq (.ops [⟨some 2, none, .prim (.mov (.const (Go.Value.bool Bool.false)))⟩])
    (.seq (.ops [⟨some 12, none, .prim (.mov (.tmp 0))⟩,
      ⟨some 13, none, .call (.func 9) [(.tmp 12)]⟩,
      ⟨some 11, none, .prim (.mov (.tmp 13))⟩,
      ⟨some 14, none, .prim (.extr 0 (.tmp 11))⟩,
      ⟨some 15, none, .prim (.extr 1 (.tmp 11))⟩,
      ⟨some 3, none, .fresh 6 3 (.tmp 14)⟩,
      ⟨some 4, none, .prim (.mov (.tmp 15))⟩])
    (.seq (.ops [⟨some 17, none, .prim (.mov (.tmp 0))⟩,
      ⟨some 18, none, .call (.func 17) [(.tmp 17)]⟩,
      ⟨some 16, none, .prim (.mov (.tmp 18))⟩,
      ⟨some 19, none, .prim (.extr 0 (.tmp 16))⟩,
      ⟨some 20, none, .prim (.extr 1 (.tmp 16))⟩,
      ⟨some 5, none, .fresh 6 5 (.tmp 19)⟩,
      ⟨some 6, none, .prim (.mov (.tmp 20))⟩])
    (.seq (.seq (.ops [⟨some 21, none, .prim (.mov (.tmp 4))⟩,
      ⟨some 22, none, .prim (.mov (.tmp 6))⟩,
      ⟨some 23, none, .prim (.bin true .neq (.tmp 21) (.tmp 22))⟩])
    (.cond (.tmp 23)
    (.seq (.ops [⟨some 2, none, .prim (.mov (.const (Go.Value.bool Bool.false)))⟩])
    .ret)
    .skip))
    (.seq (.ops [⟨some 25, none, .prim (.load 6 true (.tmp 3))⟩,
      ⟨some 26, none, .call (.func 10) [(.tmp 25)]⟩,
      ⟨some 24, none, .prim (.mov (.tmp 26))⟩,
      ⟨some 27, none, .prim (.extr 0 (.tmp 24))⟩,
      ⟨some 28, none, .prim (.extr 1 (.tmp 24))⟩,
      ⟨some 7, none, .prim (.mov (.tmp 27))⟩,
      ⟨some 8, none, .prim (.mov (.tmp 28))⟩])
    (.seq (.ops [⟨some 30, none, .prim (.load 6 true (.tmp 5))⟩,
      ⟨some 31, none, .call (.func 13) [(.tmp 30)]⟩,
      ⟨some 29, none, .prim (.mov (.tmp 31))⟩,
      ⟨some 32, none, .prim (.extr 0 (.tmp 29))⟩,
      ⟨some 33, none, .prim (.extr 1 (.tmp 29))⟩,
      ⟨some 9, none, .prim (.mov (.tmp 32))⟩,
      ⟨some 10, none, .prim (.mov (.tmp 33))⟩])
    (.seq (.ops [⟨some 34, none, .prim (.mov (.tmp 8))⟩,
      ⟨some 35, none, .prim (.mov (.tmp 10))⟩,
      ⟨some 36, none, .prim (.bin true .eql (.tmp 34) (.tmp 35))⟩,
      ⟨some 37, none, .prim (.mov (.tmp 36))⟩,
      ⟨some 38, (some (37, true)), .prim (.mov (.tmp 7))⟩,
      ⟨some 39, (some (37, true)), .prim (.mov (.tmp 9))⟩,
      ⟨some 40, (some (37, true)), .call (.func 16) [(.tmp 38), (.tmp 39)]⟩,
      ⟨some 41, none, .prim (.pick (.tmp 37) (.tmp 40) (.const (Go.Value.bool Bool.false)))⟩,
      ⟨some 42, none, .prim (.mov (.tmp 41))⟩,
      ⟨some 43, (some (42, true)), .prim (.mov (.tmp 8))⟩,
      ⟨some 44, (some (42, true)), .prim (.un .not (.tmp 43))⟩,
      ⟨some 45, (some (42, true)), .prim (.mov (.tmp 44))⟩,
      ⟨some 46, (some (45, false)), .prim (.mov (.tmp 7))⟩,
      ⟨some 47, (some (45, false)), .call (.func 11) [(.tmp 46)]⟩,
      ⟨some 48, (some (42, true)), .prim (.pick (.tmp 45) (.const (Go.Value.bool Bool.true)) (.tmp 47))⟩,
      ⟨some 49, none, .prim (.pick (.tmp 42) (.tmp 48) (.const (Go.Value.bool Bool.false)))⟩,
      ⟨some 50, none, .prim (.mov (.tmp 49))⟩,
      ⟨some 51, (some (50, true)), .call (.func 3) []⟩,
      ⟨some 52, none, .prim (.pick (.tmp 50) (.tmp 51) (.const (Go.Value.bool Bool.false)))⟩,
      ⟨some 2, none, .prim (.mov (.tmp 52))⟩])
    .ret)))))))
def o5 : List Tmp := []
def r5 : List RV := [.tmp 2]
theorem t5 : Text Try.prog 5 o5 c5 r5 53 := ⟨⟨Try.f5, _, by kernel_rfl, by kernel_rfl, rfl, by kernel_rfl, by kernel_rfl, rfl⟩, by kernel_rfl⟩

/-- sordine/sordinelaw6.ProgChecks -/
def c6 : ACode :=
  (.seq (.ops [⟨some 2, none, .prim (.mov (.const (Go.Value.bool Bool.false)))⟩])
    (.seq (.seq (.ops [⟨some 3, none, .prim (.mov (.tmp 0))⟩,
      ⟨some 4, none, .prim (.lenv (.tmp 3))⟩,
      ⟨some 5, none, .prim (.bin false .gtr (.tmp 4) (.const (Go.Value.int Go.IntKind.i64 60)))⟩])
    (.cond (.tmp 5)
    (.seq (.ops [⟨some 6, none, .call (.func 3) []⟩,
      ⟨some 2, none, .prim (.mov (.tmp 6))⟩])
    .ret)
    .skip))
    (.seq (.ops [⟨some 7, none, .prim (.mov (.tmp 0))⟩,
      ⟨some 8, none, .call (.func 11) [(.tmp 7)]⟩,
      ⟨some 9, none, .prim (.mov (.tmp 0))⟩,
      ⟨some 10, none, .call (.func 18) [(.tmp 9)]⟩,
      ⟨some 11, none, .prim (.bin true .eql (.tmp 8) (.tmp 10))⟩,
      ⟨some 12, none, .prim (.mov (.tmp 11))⟩,
      ⟨some 13, (some (12, true)), .call (.func 3) []⟩,
      ⟨some 14, none, .prim (.pick (.tmp 12) (.tmp 13) (.const (Go.Value.bool Bool.false)))⟩,
      ⟨some 2, none, .prim (.mov (.tmp 14))⟩])
    .ret)))
def o6 : List Tmp := []
def r6 : List RV := [.tmp 2]
theorem t6 : Text Try.prog 6 o6 c6 r6 15 := ⟨⟨Try.f6, _, by kernel_rfl, by kernel_rfl, rfl, by kernel_rfl, by kernel_rfl, rfl⟩, by kernel_rfl⟩

/-- sordine/sordinelaw6.ProgSizes -/
def c7 : ACode :=
  (.seq (.ops [⟨some 1, none, .prim (.boxr (.tmp 0))⟩,
      ⟨some 2, none, .prim (.mov (.const (Go.Value.bool Bool.false)))⟩])
    (.seq (.seq (.ops [⟨some 7, none, .prim (.load 6 true (.tmp 1))⟩,
      ⟨some 8, none, .call (.func 12) [(.tmp 7), (.const (Go.Value.int Go.IntKind.i64 60))]⟩,
      ⟨some 9, none, .prim (.bin false .gtr (.tmp 8) (.const (Go.Value.int Go.IntKind.i64 60)))⟩])
    (.cond (.tmp 9)
    (.seq (.ops [⟨some 10, none, .call (.func 3) []⟩,
      ⟨some 2, none, .prim (.mov (.tmp 10))⟩])
    .ret)
    .skip))
    (.seq (.ops [⟨some 11, none, .prim (.load 6 true (.tmp 1))⟩,
      ⟨some 12, none, .call (.func 14) [(.tmp 11)]⟩,
      ⟨some 3, none, .prim (.mov (.tmp 12))⟩])
    (.seq (.ops [⟨some 14, none, .prim (.load 6 true (.tmp 1))⟩,
      ⟨some 15, none, .call (.func 10) [(.tmp 14)]⟩,
      ⟨some 13, none, .prim (.mov (.tmp 15))⟩,
      ⟨some 16, none, .prim (.extr 0 (.tmp 13))⟩,
      ⟨some 17, none, .prim (.extr 1 (.tmp 13))⟩,
      ⟨some 4, none, .prim (.mov (.tmp 16))⟩,
      ⟨some 5, none, .prim (.mov (.tmp 17))⟩])
    (.seq (.seq (.ops [⟨some 18, none, .prim (.mov (.tmp 3))⟩,
      ⟨some 19, none, .prim (.bin false .gtr (.tmp 18) (.const (Go.Value.int Go.IntKind.i64 0)))⟩,
      ⟨some 20, none, .prim (.load 6 true (.tmp 1))⟩,
      ⟨some 21, none, .call (.func 19) [(.tmp 20)]⟩,
      ⟨some 22, none, .prim (.bin true .neq (.tmp 19) (.tmp 21))⟩,
      ⟨some 23, none, .prim (.mov (.tmp 22))⟩,
      ⟨some 24, (some (23, false)), .prim (.mov (.tmp 5))⟩,
      ⟨some 25, (some (23, false)), .prim (.mov (.tmp 3))⟩,
      ⟨some 26, (some (23, false)), .prim (.bin false .gtr (.tmp 25) (.const (Go.Value.int Go.IntKind.i64 0)))⟩,
      ⟨some 27, (some (23, false)), .prim (.mov (.tmp 26))⟩,
      ⟨some 28, (some (27, true)), .prim (.mov (.tmp 3))⟩,
      ⟨some 29, (some (27, true)), .prim (.bin false .leq (.tmp 28) (.const (Go.Value.int Go.IntKind.i64 40)))⟩,
      ⟨some 30, (some (23, false)), .prim (.pick (.tmp 27) (.tmp 29) (.const (Go.Value.bool Bool.false)))⟩,
      ⟨some 31, (some (23, false)), .prim (.bin true .neq (.tmp 24) (.tmp 30))⟩,
      ⟨some 32, none, .prim (.pick (.tmp 23) (.const (Go.Value.bool Bool.true)) (.tmp 31))⟩])
    (.cond (.tmp 32)
    (.seq (.ops [⟨some 2, none, .prim (.mov (.const (Go.Value.bool Bool.false)))⟩])
    .ret)
    .skip))
    (.seq (.seq (.ops [⟨some 33, none, .prim (.mov (.tmp 5))⟩,
      ⟨some 34, none, .prim (.un .not (.tmp 33))⟩])
    (.cond (.tmp 34)
    (.seq (.ops [⟨some 35, none, .prim (.mov (.tmp 4))⟩,
      ⟨some 36, none, .prim (.lenv (.tmp 35))⟩,
      ⟨some 37, none, .prim (.bin false .eql (.tmp 36) (.const (Go.Value.int Go.IntKind.i64 0)))⟩,
      ⟨some 38, none, .prim (.mov (.tmp 37))⟩,
      ⟨some 39, (some (38, true)), .call (.func 3) []⟩,
      ⟨some 40, none, .prim (.pick (.tmp 38) (.tmp 39) (.const (Go.Value.bool Bool.false)))⟩,
      ⟨some 2, none, .prim (.mov (.tmp 40))⟩])
    .ret)
    .skip))
    (.seq (.seq (.ops [⟨some 41, none, .prim (.mov (.tmp 4))⟩,
      ⟨some 42, none, .prim (.lenv (.tmp 41))⟩,
      ⟨some 43, none, .prim (.mov (.tmp 3))⟩,
      ⟨some 44, none, .prim (.bin false .neq (.tmp 42) (.tmp 43))⟩,
      ⟨some 45, none, .prim (.mov (.tmp 44))⟩,
      ⟨some 46, (some (45, false)), .prim (.mov (.tmp 4))⟩,
      ⟨some 47, (some (45, false)), .call (.func 11) [(.tmp 46)]⟩,
      ⟨some 48, (some (45, false)), .prim (.un .not (.tmp 47))⟩,
      ⟨some 49, none, .prim (.pick (.tmp 45) (.const (Go.Value.bool Bool.true)) (.tmp 48))⟩,
      ⟨some 50, none, .prim (.mov (.tmp 49))⟩,
      ⟨some 51, (some (50, false)), .prim (.mov (.tmp 4))⟩,
      ⟨some 52, (some (50, false)), .prim (.mov (.tmp 3))⟩,
      ⟨some 53, (some (50, false)), .prim (.bin false .sub (.tmp 52) (.const (Go.Value.int Go.IntKind.i64 1)))⟩,
      ⟨some 54, (some (50, false)), .prim (.iadrs 7 (.tmp 51) (.tmp 53))⟩,
      ⟨some 55, (some (50, false)), .prim (.fadr 0 (.tmp 54))⟩,
      ⟨some 56, (some (50, false)), .prim (.load 1 false (.tmp 55))⟩,
      ⟨some 57, (some (50, false)), .prim (.bin false .neq (.tmp 56) (.const (Go.Value.int Go.IntKind.i64 4)))⟩,
      ⟨some 58, none, .prim (.pick (.tmp 50) (.const (Go.Value.bool Bool.true)) (.tmp 57))⟩])
    (.cond (.tmp 58)
    (.seq (.ops [⟨some 2, none, .prim (.mov (.const (Go.Value.bool Bool.false)))⟩])
    .ret)
    .skip))
    (.seq (.seq (.ops [⟨some 6, none, .prim (.mov (.const (Go.Value.int Go.IntKind.i64 0)))⟩])
    (.block 0 (.loop [0, 1, 2, 5, 7, 8, 9, 10, 11, 12, 13, 14, 15, 16, 17, 18, 19, 20, 21, 22, 23, 24, 25, 26, 27, 28, 29, 30, 31, 32, 33, 34, 35, 36, 37, 38, 39, 40, 41, 42, 43, 44, 45, 46, 47, 48, 49, 50, 51, 52, 53, 54, 55, 56, 57, 58, 59, 60, 61, 62, 63, 64, 65, 66, 67, 68, 69, 70, 71] (.seq (.seq (.ops [⟨some 59, none, .prim (.mov (.tmp 6))⟩,
      ⟨some 60, none, .prim (.mov (.tmp 3))⟩,
      ⟨some 61, none, .prim (.bin false .sub (.tmp 60) (.const (Go.Value.int Go.IntKind.i64 1)))⟩,
      ⟨some 62, none, .prim (.bin false .lss (.tmp 59) (.tmp 61))⟩])
    (.cond (.tmp 62)
    .skip
    (.exit 0)))
    (.seq (.block 1 (.seq (.ops [⟨some 65, none, .prim (.mov (.tmp 4))⟩,
      ⟨some 66, none, .prim (.mov (.tmp 6))⟩,
      ⟨some 67, none, .prim (.iadrs 7 (.tmp 65) (.tmp 66))⟩,
      ⟨some 68, none, .prim (.fadr 0 (.tmp 67))⟩,
      ⟨some 69, none, .prim (.load 1 false (.tmp 68))⟩,
      ⟨some 70, none, .prim (.bin false .eql (.tmp 69) (.const (Go.Value.int Go.IntKind.i64 4)))⟩])
    (.cond (.tmp 70)
    (.seq (.ops [⟨some 2, none, .prim (.mov (.const (Go.Value.bool Bool.false)))⟩])
    .ret)
    .skip)))
    (.ops [⟨some 63, none, .prim (.mov (.tmp 6))⟩,
      ⟨some 64, none, .prim (.bin false .add (.tmp 63) (.const (Go.Value.int Go.IntKind.i64 1)))⟩,
      ⟨some 6, none, .prim (.mov (.tmp 64))⟩]))))))
    (.seq (.ops [⟨some 71, none, .call (.func 3) []⟩,
      ⟨some 2, none, .prim (.mov (.tmp 71))⟩])
    .ret)))))))))
def o7 : List Tmp := []
def r7 : List RV := [.tmp 2]
theorem t7 : Text Try.prog 7 o7 c7 r7 72 := ⟨⟨Try.f7, _, by kernel_rfl, by kernel_rfl, rfl, by kernel_rfl, by kernel_rfl, rfl⟩, by kernel_rfl⟩

/-- sordine/sordinelaw6.ProgAdds -/
def c8 : ACode :=
  (.seq (.ops [⟨some 2, none, .prim (.boxr (.tmp 0))⟩,
      ⟨some 3, none, .prim (.boxr (.tmp 1))⟩,
      ⟨some 4, none, .prim (.mov (.const (Go.Value.bool Bool.false)))⟩])
    (.seq (.seq (.ops [⟨some 9, none, .prim (.load 6 true (.tmp 2))⟩,
      ⟨some 10, none, .call (.func 12) [(.tmp 9), (.const (Go.Value.int Go.IntKind.i64 40))]⟩,
      ⟨some 11, none, .prim (.bin false .gtr (.tmp 10) (.const (Go.Value.int Go.IntKind.i64 40)))⟩,
      ⟨some 12, none, .prim (.mov (.tmp 11))⟩,
      ⟨some 13, (some (12, false)), .prim (.load 6 true (.tmp 3))⟩,
      ⟨some 14, (some (12, false)), .call (.func 12) [(.tmp 13), (.const (Go.Value.int Go.IntKind.i64 40))]⟩,
      ⟨some 15, (some (12, false)), .prim (.bin false .gtr (.tmp 14) (.const (Go.Value.int Go.IntKind.i64 40)))⟩,
      ⟨some 16, none, .prim (.pick (.tmp 12) (.const (Go.Value.bool Bool.true)) (.tmp 15))⟩,
      ⟨some 17, none, .prim (.mov (.tmp 16))⟩,
      ⟨some 18, (some (17, false)), .prim (.load 6 true (.tmp 2))⟩,
      ⟨some 19, (some (17, false)), .call (.func 19) [(.tmp 18)]⟩,
      ⟨some 20, (some (17, false)), .prim (.un .not (.tmp 19))⟩,
      ⟨some 21, none, .prim (.pick (.tmp 17) (.const (Go.Value.bool Bool.true)) (.tmp 20))⟩,
      ⟨some 22, none, .prim (.mov (.tmp 21))⟩,
      ⟨some 23, (some (22, false)), .prim (.load 6 true (.tmp 3))⟩,
      ⟨some 24, (some (22, false)), .call (.func 19) [(.tmp 23)]⟩,
      ⟨some 25, (some (22, false)), .prim (.un .not (.tmp 24))⟩,
      ⟨some 26, none, .prim (.pick (.tmp 22) (.const (Go.Value.bool Bool.true)) (.tmp 25))⟩])
    (.cond (.tmp 26)
    (.seq (.ops [⟨some 27, none, .call (.func 3) []⟩,
      ⟨some 4, none, .prim (.mov (.tmp 27))⟩])
    .ret)
    .skip))
    (.seq (.draw [⟨⟨some 28, none, .prim (.load 6 true (.tmp 2))⟩, [], false, 0, 0⟩,
      ⟨⟨some 29, none, .call (.func 14) [(.tmp 28)]⟩, [0], true, 0, 0⟩,
      ⟨⟨some 30, none, .prim (.bin false .sub (.tmp 29) (.const (Go.Value.int Go.IntKind.i64 1)))⟩, [0, 1], false, 1, 2⟩,
      ⟨⟨some 31, none, .prim (.load 6 true (.tmp 3))⟩, [], false, 0, 1⟩,
      ⟨⟨some 32, none, .call (.func 14) [(.tmp 31)]⟩, [0, 1, 3], true, 0, 0⟩,
      ⟨⟨some 33, none, .prim (.bin false .sub (.tmp 32) (.const (Go.Value.int Go.IntKind.i64 1)))⟩, [0, 1, 3, 4], false, 2, 2⟩,
      ⟨⟨some 5, none, .prim (.mov (.tmp 30))⟩, [0, 1, 2, 3, 4], false, 2, 2⟩,
      ⟨⟨some 6, none, .prim (.mov (.tmp 33))⟩, [0, 1, 2, 3, 4, 5, 6], false, 2, 2⟩])
    (.seq (.ops [⟨some 34, none, .prim (.load 6 true (.tmp 2))⟩,
      ⟨some 35, none, .prim (.load 6 true (.tmp 3))⟩,
      ⟨some 36, none, .prim (.bsl false 6 true 2 [.pl (.int .i64 0), .pl (.int .u64 0), .pl (.int .u64 0), .pl (.int .u64 0), .pl (.int .u64 0), .nils] [(0, 6, (.tmp 34)), (6, 6, (.tmp 35))])⟩,
      ⟨some 7, none, .prim (.mov (.tmp 36))⟩])
    (.seq (.ops [⟨some 37, none, .prim (.load 6 true (.tmp 2))⟩,
      ⟨some 38, none, .prim (.bsl false 6 true 1 [.pl (.int .i64 0), .pl (.int .u64 0), .pl (.int .u64 0), .pl (.int .u64 0), .pl (.int .u64 0), .nils] [(0, 6, (.tmp 37))])⟩,
      ⟨some 8, none, .prim (.mov (.tmp 38))⟩])
    (.seq (.ops [⟨some 39, none, .prim (.mov (.tmp 7))⟩,
      ⟨some 40, none, .prim (.build [.pl (.int .i64 0), .pl (.int .u64 0), .pl (.int .u64 0), .pl (.int .u64 0), .pl (.int .u64 0), .nils] [(0, 1, (.const (Go.Value.int Go.IntKind.i64 2))), (5, 1, (.tmp 39))])⟩,
      ⟨some 41, none, .call (.func 14) [(.tmp 40)]⟩,
      ⟨some 42, none, .prim (.mov (.tmp 5))⟩,
      ⟨some 43, none, .prim (.mov (.tmp 6))⟩,
      ⟨some 44, none, .prim (.bin false .add (.tmp 42) (.tmp 43))⟩,
      ⟨some 45, none, .prim (.bin false .add (.tmp 44) (.const (Go.Value.int Go.IntKind.i64 1)))⟩,
      ⟨some 46, none, .prim (.bin false .eql (.tmp 41) (.tmp 45))⟩,
      ⟨some 47, none, .prim (.mov (.tmp 46))⟩,
      ⟨some 48, (some (47, true)), .prim (.mov (.tmp 7))⟩,
      ⟨some 49, (some (47, true)), .prim (.build [.pl (.int .i64 0), .pl (.int .u64 0), .pl (.int .u64 0), .pl (.int .u64 0), .pl (.int .u64 0), .nils] [(0, 1, (.const (Go.Value.int Go.IntKind.i64 3))), (5, 1, (.tmp 48))])⟩,
      ⟨some 50, (some (47, true)), .call (.func 14) [(.tmp 49)]⟩,
      ⟨some 51, (some (47, true)), .prim (.mov (.tmp 5))⟩,
      ⟨some 52, (some (47, true)), .prim (.mov (.tmp 6))⟩,
      ⟨some 53, (some (47, true)), .prim (.bin false .add (.tmp 51) (.tmp 52))⟩,
      ⟨some 54, (some (47, true)), .prim (.bin false .add (.tmp 53) (.const (Go.Value.int Go.IntKind.i64 3)))⟩,
      ⟨some 55, (some (47, true)), .prim (.bin false .eql (.tmp 50) (.tmp 54))⟩,
      ⟨some 56, none, .prim (.pick (.tmp 47) (.tmp 55) (.const (Go.Value.bool Bool.false)))⟩,
      ⟨some 57, none, .prim (.mov (.tmp 56))⟩,
      ⟨some 58, (some (57, true)), .prim (.mov (.tmp 8))⟩,
      ⟨some 59, (some (57, true)), .prim (.build [.pl (.int .i64 0), .pl (.int .u64 0), .pl (.int .u64 0), .pl (.int .u64 0), .pl (.int .u64 0), .nils] [(0, 1, (.const (Go.Value.int Go.IntKind.i64 4))), (5, 1, (.tmp 58))])⟩,
      ⟨some 60, (some (57, true)), .call (.func 14) [(.tmp 59)]⟩,
      ⟨some 61, (some (57, true)), .prim (.mov (.tmp 5))⟩,
      ⟨some 62, (some (57, true)), .prim (.bin false .add (.tmp 61) (.const (Go.Value.int Go.IntKind.i64 3)))⟩,
      ⟨some 63, (some (57, true)), .prim (.bin false .eql (.tmp 60) (.tmp 62))⟩,
      ⟨some 64, none, .prim (.pick (.tmp 57) (.tmp 63) (.const (Go.Value.bool Bool.false)))⟩,
      ⟨some 65, none, .prim (.mov (.tmp 64))⟩,
      ⟨some 66, (some (65, true)), .prim (.mov (.tmp 8))⟩,
      ⟨some 67, (some (65, true)), .prim (.build [.pl (.int .i64 0), .pl (.int .u64 0), .pl (.int .u64 0), .pl (.int .u64 0), .pl (.int .u64 0), .nils] [(0, 1, (.const (Go.Value.int Go.IntKind.i64 5))), (5, 1, (.tmp 66))])⟩,
      ⟨some 68, (some (65, true)), .call (.func 14) [(.tmp 67)]⟩,
      ⟨some 69, (some (65, true)), .prim (.mov (.tmp 5))⟩,
      ⟨some 70, (some (65, true)), .prim (.bin false .add (.tmp 69) (.const (Go.Value.int Go.IntKind.i64 2)))⟩,
      ⟨some 71, (some (65, true)), .prim (.bin false .eql (.tmp 68) (.tmp 70))⟩,
      ⟨some 72, none, .prim (.pick (.tmp 65) (.tmp 71) (.const (Go.Value.bool Bool.false)))⟩,
      ⟨some 73, none, .prim (.mov (.tmp 72))⟩,
      ⟨some 74, (some (73, true)), .prim (.mov (.tmp 8))⟩,
      ⟨some 75, (some (73, true)), .prim (.build [.pl (.int .i64 0), .pl (.int .u64 0), .pl (.int .u64 0), .pl (.int .u64 0), .pl (.int .u64 0), .nils] [(0, 1, (.const (Go.Value.int Go.IntKind.i64 6))), (5, 1, (.tmp 74))])⟩,
      ⟨some 76, (some (73, true)), .call (.func 14) [(.tmp 75)]⟩,
      ⟨some 77, (some (73, true)), .prim (.mov (.tmp 5))⟩,
      ⟨some 78, (some (73, true)), .prim (.bin false .add (.tmp 77) (.const (Go.Value.int Go.IntKind.i64 2)))⟩,
      ⟨some 79, (some (73, true)), .prim (.bin false .eql (.tmp 76) (.tmp 78))⟩,
      ⟨some 80, none, .prim (.pick (.tmp 73) (.tmp 79) (.const (Go.Value.bool Bool.false)))⟩,
      ⟨some 81, none, .prim (.mov (.tmp 80))⟩,
      ⟨some 82, (some (81, true)), .call (.func 3) []⟩,
      ⟨some 83, none, .prim (.pick (.tmp 81) (.tmp 82) (.const (Go.Value.bool Bool.false)))⟩,
      ⟨some 4, none, .prim (.mov (.tmp 83))⟩])
    .ret))))))
def o8 : List Tmp := []
def r8 : List RV := [.tmp 4]
theorem t8 : Text Try.prog 8 o8 c8 r8 84 := ⟨⟨Try.f8, _, by kernel_rfl, by kernel_rfl, rfl, by kernel_rfl, by kernel_rfl, rfl⟩, by kernel_rfl⟩

/-- sordine/rex.Parse -/
def c9 : ACode :=
  (.seq (.ops [⟨some 2, none, .prim (.allocm [.pl (.int .i64 0), .pl (.int .u64 0), .pl (.int .u64 0), .pl (.int .u64 0), .pl (.int .u64 0), .nils])⟩,
      ⟨some 3, none, .prim (.mov (.const (Go.Value.bool Bool.false)))⟩])
    (.seq (.ops [⟨some 6, none, .prim (.mov (.tmp 0))⟩,
      ⟨some 7, none, .prim (.mov (.tmp 0))⟩,
      ⟨some 8, none, .prim (.lens (.tmp 7))⟩,
      ⟨some 9, none, .prim (.bin false .gtr (.tmp 8) (.const (Go.Value.int Go.IntKind.i64 40)))⟩,
      ⟨some 10, none, .prim (.build [.pl (.string .empty), .pl (.int .i64 0), .pl (.bool false)] [(0, 1, (.tmp 6)), (2, 1, (.tmp 9))])⟩,
      ⟨some 11, none, .prim (.boxm (.tmp 10))⟩,
      ⟨some 4, none, .prim (.mov (.tmp 11))⟩])
    (.seq (.ops [⟨some 12, none, .prim (.mov (.tmp 4))⟩,
      ⟨some 13, none, .call (.func 20) [(.tmp 12), (.const (Go.Value.int Go.IntKind.i64 0))]⟩,
      ⟨some 5, none, .fresh 6 5 (.tmp 13)⟩])
    (.seq (.seq (.ops [⟨some 14, none, .prim (.mov (.tmp 4))⟩,
      ⟨some 15, none, .prim (.nilc (.tmp 14))⟩,
      ⟨some 16, none, .prim (.fadr 2 (.tmp 15))⟩,
      ⟨some 17, none, .prim (.load 1 false (.tmp 16))⟩,
      ⟨some 18, none, .prim (.mov (.tmp 17))⟩,
      ⟨some 19, (some (18, false)), .prim (.mov (.tmp 4))⟩,
      ⟨some 20, (some (18, false)), .prim (.nilc (.tmp 19))⟩,
      ⟨some 21, (some (18, false)), .prim (.fadr 1 (.tmp 20))⟩,
      ⟨some 22, (some (18, false)), .prim (.load 1 false (.tmp 21))⟩,
      ⟨some 23, (some (18, false)), .prim (.mov (.tmp 0))⟩,
      ⟨some 24, (some (18, false)), .prim (.lens (.tmp 23))⟩,
      ⟨some 25, (some (18, false)), .prim (.bin false .lss (.tmp 22) (.tmp 24))⟩,
      ⟨some 26, none, .prim (.pick (.tmp 18) (.const (Go.Value.bool Bool.true)) (.tmp 25))⟩])
    (.cond (.tmp 26)
    (.seq (.ops [⟨some 27, none, .prim (.build [.pl (.int .i64 0), .pl (.int .u64 0), .pl (.int .u64 0), .pl (.int .u64 0), .pl (.int .u64 0), .nils] [])⟩,
      ⟨none, none, .prim (.store 6 (.tmp 2) (.tmp 27))⟩,
      ⟨some 3, none, .prim (.mov (.const (Go.Value.bool Bool.false)))⟩])
    .ret)
    .skip))
    (.seq (.ops [⟨some 28, none, .prim (.load 6 true (.tmp 5))⟩,
      ⟨none, none, .prim (.store 6 (.tmp 2) (.tmp 28))⟩,
      ⟨some 3, none, .prim (.mov (.const (Go.Value.bool Bool.true)))⟩])
    .ret)))))
def o9 : List Tmp := [2, 11]
def r9 : List RV := [.cell 2 6 true, .tmp 3]
theorem t9 : Text Try.prog 9 o9 c9 r9 29 := ⟨⟨Try.f9, _, by kernel_rfl, by kernel_rfl, rfl, by kernel_rfl, by kernel_rfl, rfl⟩, by kernel_rfl⟩

/-- sordine/prog.Make -/
def c10 : ACode :=
  (.seq (.ops [⟨some 1, none, .prim (.boxr (.tmp 0))⟩,
      ⟨some 2, none, .prim (.mov (.const (Go.Value.slice Option.none 0 0)))⟩,
      ⟨some 3, none, .prim (.mov (.const (Go.Value.bool Bool.false)))⟩])
    (.seq (.ops [⟨some 5, none, .prim (.load 6 true (.tmp 1))⟩,
      ⟨some 6, none, .call (.func 14) [(.tmp 5)]⟩,
      ⟨some 4, none, .prim (.mov (.tmp 6))⟩])
    (.seq (.seq (.ops [⟨some 7, none, .prim (.mov (.tmp 4))⟩,
      ⟨some 8, none, .prim (.bin false .eql (.tmp 7) (.const (Go.Value.int Go.IntKind.i64 0)))⟩,
      ⟨some 9, none, .prim (.mov (.tmp 8))⟩,
      ⟨some 10, (some (9, false)), .prim (.mov (.tmp 4))⟩,
      ⟨some 11, (some (9, false)), .prim (.bin false .gtr (.tmp 10) (.const (Go.Value.int Go.IntKind.i64 40)))⟩,
      ⟨some 12, none, .prim (.pick (.tmp 9) (.const (Go.Value.bool Bool.true)) (.tmp 11))⟩])
    (.cond (.tmp 12)
    (.seq (.ops [⟨some 2, none, .prim (.mov (.const (Go.Value.slice Option.none 0 0)))⟩,
      ⟨some 3, none, .prim (.mov (.const (Go.Value.bool Bool.false)))⟩])
    (.ghost (.shut 2) .ret))
    .skip))
    (.seq (.ops [⟨some 13, none, .prim (.load 6 true (.tmp 1))⟩,
      ⟨some 14, none, .call (.func 21) [(.const (Go.Value.slice Option.none 0 0)), (.tmp 13)]⟩,
      ⟨some 15, none, .prim (.build [.pl (.int .i64 0), .pl (.int .u64 0), .pl (.int .u64 0), .pl (.int .u64 0), .pl (.int .u64 0), .pl (.int .i64 0), .pl (.int .i64 0)] [(0, 1, (.const (Go.Value.int Go.IntKind.i64 4)))])⟩,
      ⟨some 16, none, .prim (.bsl false 7 true 1 [.pl (.int .i64 0), .pl (.int .u64 0), .pl (.int .u64 0), .pl (.int .u64 0), .pl (.int .u64 0), .pl (.int .i64 0), .pl (.int .i64 0)] [(0, 7, (.tmp 15))])⟩,
      ⟨some 17, none, .prim (.app 7 (.tmp 14) (.tmp 16))⟩,
      ⟨some 2, none, .prim (.mov (.tmp 17))⟩,
      ⟨some 3, none, .prim (.mov (.const (Go.Value.bool Bool.true)))⟩])
    (.ghost (.shut 2) .ret)))))
def o10 : List Tmp := []
def r10 : List RV := [.tmp 2, .tmp 3]
theorem t10 : Text Try.prog 10 o10 c10 r10 18 := ⟨⟨Try.f10, _, by kernel_rfl, by kernel_rfl, rfl, by kernel_rfl, by kernel_rfl, rfl⟩, by kernel_rfl⟩

/-- sordine/prog.Check -/
def c11 : ACode :=
  (.seq (.ops [⟨some 1, none, .prim (.boxr (.tmp 0))⟩,
      ⟨some 2, none, .prim (.mov (.const (Go.Value.bool Bool.false)))⟩])
    (.seq (.seq (.ops [⟨some 4, none, .prim (.load 1 false (.tmp 1))⟩,
      ⟨some 5, none, .prim (.lenv (.tmp 4))⟩,
      ⟨some 6, none, .prim (.bin false .lss (.tmp 5) (.const (Go.Value.int Go.IntKind.i64 1)))⟩,
      ⟨some 7, none, .prim (.mov (.tmp 6))⟩,
      ⟨some 8, (some (7, false)), .prim (.load 1 false (.tmp 1))⟩,
      ⟨some 9, (some (7, false)), .prim (.lenv (.tmp 8))⟩,
      ⟨some 10, (some (7, false)), .prim (.bin false .gtr (.tmp 9) (.const (Go.Value.int Go.IntKind.i64 40)))⟩,
      ⟨some 11, none, .prim (.pick (.tmp 7) (.const (Go.Value.bool Bool.true)) (.tmp 10))⟩])
    (.cond (.tmp 11)
    (.seq (.ops [⟨some 2, none, .prim (.mov (.const (Go.Value.bool Bool.false)))⟩])
    .ret)
    .skip))
    (.seq (.ops [⟨some 12, none, .prim (.load 1 false (.tmp 1))⟩,
      ⟨some 13, none, .prim (.lenv (.tmp 12))⟩,
      ⟨some 14, none, .prim (.bin false .sub (.tmp 13) (.const (Go.Value.int Go.IntKind.i64 1)))⟩,
      ⟨some 3, none, .prim (.mov (.tmp 14))⟩])
    (.seq (.draw [⟨⟨some 15, none, .prim (.load 1 false (.tmp 1))⟩, [], false, 0, 0⟩,
      ⟨⟨some 16, none, .prim (.mov (.tmp 3))⟩, [], false, 0, 0⟩,
      ⟨⟨some 17, none, .prim (.slcv 7 (.tmp 15) none (some (.tmp 16)))⟩, [0, 1], false, 0, 0⟩,
      ⟨⟨some 18, none, .prim (.mkfn 23 [] [(.tmp 1)])⟩, [], false, 0, 0⟩,
      ⟨⟨some 19, none, .call (.func 22) [(.tmp 17), (.tmp 18)]⟩, [0, 1, 2, 3], true, 0, 0⟩,
      ⟨⟨some 20, none, .prim (.un .not (.tmp 19))⟩, [0, 1, 2, 3, 4], false, 1, 1⟩,
      ⟨⟨some 21, none, .prim (.mov (.tmp 20))⟩, [0, 1, 2, 3, 4, 5], false, 1, 1⟩,
      ⟨⟨some 22, (some (21, true)), .prim (.load 1 false (.tmp 1))⟩, [0, 1, 2, 3, 4, 5, 6], false, 1, 1⟩,
      ⟨⟨some 23, (some (21, true)), .prim (.mov (.tmp 3))⟩, [0, 1, 2, 3, 4, 5, 6], false, 1, 1⟩,
      ⟨⟨some 24, (some (21, true)), .prim (.iadrs 7 (.tmp 22) (.tmp 23))⟩, [0, 1, 2, 3, 4, 5, 6, 7, 8], false, 1, 1⟩,
      ⟨⟨some 25, (some (21, true)), .prim (.load 7 true (.tmp 24))⟩, [0, 1, 2, 3, 4, 5, 6, 7, 8, 9], false, 1, 1⟩,
      ⟨⟨some 26, (some (21, true)), .prim (.load 1 false (.tmp 1))⟩, [0, 1, 2, 3, 4, 5, 6], false, 1, 1⟩,
      ⟨⟨some 27, (some (21, true)), .prim (.lenv (.tmp 26))⟩, [0, 1, 2, 3, 4, 5, 6, 11], false, 1, 1⟩,
      ⟨⟨some 28, (some (21, true)), .call (.func 24) [(.tmp 25), (.tmp 27), (.const (Go.Value.bool Bool.true))]⟩, [0, 1, 2, 3, 4, 5, 6, 7, 8, 9, 10, 11, 12], true, 0, 0⟩,
      ⟨⟨some 29, none, .prim (.pick (.tmp 21) (.tmp 28) (.const (Go.Value.bool Bool.false)))⟩, [0, 1, 2, 3, 4, 5, 6, 7, 8, 9, 10, 11, 12, 13], false, 2, 2⟩,
      ⟨⟨some 2, none, .prim (.mov (.tmp 29))⟩, [0, 1, 2, 3, 4, 5, 6, 7, 8, 9, 10, 11, 12, 13, 14], false, 2, 2⟩])
    .ret))))
def o11 : List Tmp := []
def r11 : List RV := [.tmp 2]
theorem t11 : Text Try.prog 11 o11 c11 r11 30 := ⟨⟨Try.f11, _, by kernel_rfl, by kernel_rfl, rfl, by kernel_rfl, by kernel_rfl, rfl⟩, by kernel_rfl⟩

/-- sordine/sordinekeep.Nodes -/
def c12 : ACode :=
  (.seq (.ops [⟨some 2, none, .prim (.boxr (.tmp 0))⟩,
      ⟨some 4, none, .prim (.mov (.const (Go.Value.int Go.IntKind.i64 0)))⟩])
    (.seq (.ops [⟨some 5, none, .prim (.mov (.const (Go.Value.int Go.IntKind.i64 1)))⟩])
    (.seq (.seq (.ops [⟨some 6, none, .prim (.mov (.const (Go.Value.int Go.IntKind.i64 0)))⟩])
    (.block 0 (.loop [0, 3, 4, 7, 8, 9, 10, 11, 12, 13, 14, 15, 16, 17, 18, 19, 20, 21, 22, 23, 24, 25, 26, 27, 28, 29, 30] (.seq (.seq (.ops [⟨some 7, none, .prim (.mov (.tmp 6))⟩,
      ⟨some 8, none, .prim (.fadr 5 (.tmp 2))⟩,
      ⟨some 9, none, .prim (.load 1 false (.tmp 8))⟩,
      ⟨some 10, none, .prim (.lenv (.tmp 9))⟩,
      ⟨some 11, none, .prim (.bin false .lss (.tmp 7) (.tmp 10))⟩,
      ⟨some 12, none, .prim (.mov (.tmp 11))⟩,
      ⟨some 13, (some (12, true)), .prim (.mov (.tmp 5))⟩,
      ⟨some 14, (some (12, true)), .prim (.mov (.tmp 1))⟩,
      ⟨some 15, (some (12, true)), .prim (.bin false .leq (.tmp 13) (.tmp 14))⟩,
      ⟨some 16, none, .prim (.pick (.tmp 12) (.tmp 15) (.const (Go.Value.bool Bool.false)))⟩])
    (.cond (.tmp 16)
    .skip
    (.exit 0)))
    (.seq (.block 1 (.ops [⟨some 19, none, .prim (.mov (.tmp 5))⟩,
      ⟨some 20, none, .prim (.fadr 5 (.tmp 2))⟩,
      ⟨some 21, none, .prim (.load 1 false (.tmp 20))⟩,
      ⟨some 22, none, .prim (.mov (.tmp 6))⟩,
      ⟨some 23, none, .prim (.iadrs 6 (.tmp 21) (.tmp 22))⟩,
      ⟨some 24, none, .prim (.load 6 true (.tmp 23))⟩,
      ⟨some 25, none, .prim (.mov (.tmp 1))⟩,
      ⟨some 26, none, .prim (.mov (.tmp 5))⟩,
      ⟨some 27, none, .prim (.bin false .sub (.tmp 25) (.tmp 26))⟩,
      ⟨some 28, none, .call (.func 12) [(.tmp 24), (.tmp 27)]⟩,
      ⟨some 29, none, .prim (.bin false .add (.tmp 19) (.tmp 28))⟩,
      ⟨some 5, none, .prim (.mov (.tmp 29))⟩]))
    (.ops [⟨some 17, none, .prim (.mov (.tmp 6))⟩,
      ⟨some 18, none, .prim (.bin false .add (.tmp 17) (.const (Go.Value.int Go.IntKind.i64 1)))⟩,
      ⟨some 6, none, .prim (.mov (.tmp 18))⟩]))))))
    (.seq (.ops [⟨some 30, none, .prim (.mov (.tmp 5))⟩,
      ⟨some 4, none, .prim (.mov (.tmp 30))⟩])
    .ret))))
def o12 : List Tmp := []
def r12 : List RV := [.tmp 4]
theorem t12 : Text Try.prog 12 o12 c12 r12 31 := ⟨⟨Try.f12, _, by kernel_rfl, by kernel_rfl, rfl, by kernel_rfl, by kernel_rfl, rfl⟩, by kernel_rfl⟩

/-- sordine/sordineref5.Make -/
def c13 : ACode :=
  (.seq (.ops [⟨some 1, none, .prim (.boxr (.tmp 0))⟩,
      ⟨some 2, none, .prim (.mov (.const (Go.Value.slice Option.none 0 0)))⟩,
      ⟨some 3, none, .prim (.mov (.const (Go.Value.bool Bool.false)))⟩])
    (.seq (.ops [⟨some 5, none, .prim (.load 6 true (.tmp 1))⟩,
      ⟨some 6, none, .call (.func 15) [(.tmp 5)]⟩,
      ⟨some 4, none, .prim (.mov (.tmp 6))⟩])
    (.seq (.seq (.ops [⟨some 7, none, .prim (.mov (.tmp 4))⟩,
      ⟨some 8, none, .prim (.bin false .eql (.tmp 7) (.const (Go.Value.int Go.IntKind.i64 0)))⟩,
      ⟨some 9, none, .prim (.mov (.tmp 8))⟩,
      ⟨some 10, (some (9, false)), .prim (.mov (.tmp 4))⟩,
      ⟨some 11, (some (9, false)), .prim (.bin false .gtr (.tmp 10) (.const (Go.Value.int Go.IntKind.i64 40)))⟩,
      ⟨some 12, none, .prim (.pick (.tmp 9) (.const (Go.Value.bool Bool.true)) (.tmp 11))⟩])
    (.cond (.tmp 12)
    (.seq (.ops [⟨some 2, none, .prim (.mov (.const (Go.Value.slice Option.none 0 0)))⟩,
      ⟨some 3, none, .prim (.mov (.const (Go.Value.bool Bool.false)))⟩])
    (.ghost (.shut 2) .ret))
    .skip))
    (.seq (.ops [⟨some 13, none, .prim (.load 6 true (.tmp 1))⟩,
      ⟨some 14, none, .call (.func 25) [(.const (Go.Value.slice Option.none 0 0)), (.tmp 13)]⟩,
      ⟨some 15, none, .prim (.build [.pl (.int .i64 0), .pl (.int .u64 0), .pl (.int .u64 0), .pl (.int .u64 0), .pl (.int .u64 0), .pl (.int .i64 0), .pl (.int .i64 0)] [(0, 1, (.const (Go.Value.int Go.IntKind.i64 4)))])⟩,
      ⟨some 16, none, .prim (.bsl false 7 true 1 [.pl (.int .i64 0), .pl (.int .u64 0), .pl (.int .u64 0), .pl (.int .u64 0), .pl (.int .u64 0), .pl (.int .i64 0), .pl (.int .i64 0)] [(0, 7, (.tmp 15))])⟩,
      ⟨some 17, none, .prim (.app 7 (.tmp 14) (.tmp 16))⟩,
      ⟨some 2, none, .prim (.mov (.tmp 17))⟩,
      ⟨some 3, none, .prim (.mov (.const (Go.Value.bool Bool.true)))⟩])
    (.ghost (.shut 2) .ret)))))
def o13 : List Tmp := []
def r13 : List RV := [.tmp 2, .tmp 3]
theorem t13 : Text Try.prog 13 o13 c13 r13 18 := ⟨⟨Try.f13, _, by kernel_rfl, by kernel_rfl, rfl, by kernel_rfl, by kernel_rfl, rfl⟩, by kernel_rfl⟩

/-- sordine/prog.Size -/
def c14 : ACode :=
  (.seq (.ops [⟨some 1, none, .prim (.boxr (.tmp 0))⟩,
      ⟨some 2, none, .prim (.mov (.const (Go.Value.int Go.IntKind.i64 0)))⟩])
    (.seq (.seq (.ops [⟨some 3, none, .prim (.load 6 true (.tmp 1))⟩,
      ⟨some 4, none, .call (.func 19) [(.tmp 3)]⟩,
      ⟨some 5, none, .prim (.un .not (.tmp 4))⟩])
    (.cond (.tmp 5)
    (.seq (.ops [⟨some 2, none, .prim (.mov (.const (Go.Value.int Go.IntKind.i64 0)))⟩])
    .ret)
    .skip))
    (.seq (.ops [⟨some 6, none, .prim (.load 6 true (.tmp 1))⟩,
      ⟨some 7, none, .call (.func 26) [(.tmp 6)]⟩,
      ⟨some 8, none, .prim (.bin false .add (.tmp 7) (.const (Go.Value.int Go.IntKind.i64 1)))⟩,
      ⟨some 2, none, .prim (.mov (.tmp 8))⟩])
    .ret)))
def o14 : List Tmp := []
def r14 : List RV := [.tmp 2]
theorem t14 : Text Try.prog 14 o14 c14 r14 9 := ⟨⟨Try.f14, _, by kernel_rfl, by kernel_rfl, rfl, by kernel_rfl, by kernel_rfl, rfl⟩, by kernel_rfl⟩

/-- sordine/sordineref5.Size -/
def c15 : ACode :=
  (.seq (.ops [⟨some 1, none, .prim (.boxr (.tmp 0))⟩,
      ⟨some 2, none, .prim (.mov (.const (Go.Value.int Go.IntKind.i64 0)))⟩])
    (.seq (.seq (.ops [⟨some 3, none, .prim (.load 6 true (.tmp 1))⟩,
      ⟨some 4, none, .call (.func 27) [(.tmp 3)]⟩,
      ⟨some 5, none, .prim (.un .not (.tmp 4))⟩])
    (.cond (.tmp 5)
    (.seq (.ops [⟨some 2, none, .prim (.mov (.const (Go.Value.int Go.IntKind.i64 0)))⟩])
    .ret)
    .skip))
    (.seq (.ops [⟨some 6, none, .prim (.load 6 true (.tmp 1))⟩,
      ⟨some 7, none, .call (.func 28) [(.tmp 6)]⟩,
      ⟨some 8, none, .prim (.bin false .add (.tmp 7) (.const (Go.Value.int Go.IntKind.i64 1)))⟩,
      ⟨some 2, none, .prim (.mov (.tmp 8))⟩])
    .ret)))
def o15 : List Tmp := []
def r15 : List RV := [.tmp 2]
theorem t15 : Text Try.prog 15 o15 c15 r15 9 := ⟨⟨Try.f15, _, by kernel_rfl, by kernel_rfl, rfl, by kernel_rfl, by kernel_rfl, rfl⟩, by kernel_rfl⟩

/-- sordine/sordinelaw6.same -/
def c16 : ACode :=
  (.seq (.ops [⟨some 4, none, .prim (.mov (.const (Go.Value.bool Bool.false)))⟩])
    (.seq (.seq (.ops [⟨some 6, none, .prim (.mov (.tmp 0))⟩,
      ⟨some 7, none, .prim (.lenv (.tmp 6))⟩,
      ⟨some 8, none, .prim (.mov (.tmp 1))⟩,
      ⟨some 9, none, .prim (.lenv (.tmp 8))⟩,
      ⟨some 10, none, .prim (.bin false .neq (.tmp 7) (.tmp 9))⟩])
    (.cond (.tmp 10)
    (.seq (.ops [⟨some 4, none, .prim (.mov (.const (Go.Value.bool Bool.false)))⟩])
    .ret)
    .skip))
    (.seq (.seq (.ops [⟨some 5, none, .prim (.mov (.const (Go.Value.int Go.IntKind.i64 0)))⟩])
    (.block 0 (.loop [2, 3, 4, 6, 7, 8, 9, 10, 11, 12, 13, 14, 15, 16, 17, 18, 19, 20, 21, 22, 23, 24, 25] (.seq (.seq (.ops [⟨some 11, none, .prim (.mov (.tmp 5))⟩,
      ⟨some 12, none, .prim (.mov (.tmp 0))⟩,
      ⟨some 13, none, .prim (.lenv (.tmp 12))⟩,
      ⟨some 14, none, .prim (.bin false .lss (.tmp 11) (.tmp 13))⟩])
    (.cond (.tmp 14)
    .skip
    (.exit 0)))
    (.seq (.block 1 (.seq (.draw [⟨⟨some 17, none, .prim (.mov (.tmp 0))⟩, [], false, 0, 0⟩,
      ⟨⟨some 18, none, .prim (.mov (.tmp 5))⟩, [], false, 0, 0⟩,
      ⟨⟨some 19, none, .prim (.iadrs 7 (.tmp 17) (.tmp 18))⟩, [0, 1], false, 0, 0⟩,
      ⟨⟨some 20, none, .prim (.load 7 true (.tmp 19))⟩, [0, 1, 2], false, 0, 0⟩,
      ⟨⟨some 21, none, .prim (.mov (.tmp 1))⟩, [], false, 0, 0⟩,
      ⟨⟨some 22, none, .prim (.mov (.tmp 5))⟩, [], false, 0, 0⟩,
      ⟨⟨some 23, none, .prim (.iadrs 7 (.tmp 21) (.tmp 22))⟩, [4, 5], false, 0, 0⟩,
      ⟨⟨some 24, none, .prim (.load 7 true (.tmp 23))⟩, [4, 5, 6], false, 0, 0⟩,
      ⟨⟨some 25, none, .prim (.eqa true [.int, .int, .int, .int, .int, .int, .int] (.tmp 20) (.tmp 24))⟩, [0, 1, 2, 3, 4, 5, 6, 7], false, 0, 0⟩])
    (.cond (.tmp 25)
    (.seq (.ops [⟨some 4, none, .prim (.mov (.const (Go.Value.bool Bool.false)))⟩])
    .ret)
    .skip)))
    (.ops [⟨some 15, none, .prim (.mov (.tmp 5))⟩,
      ⟨some 16, none, .prim (.bin false .add (.tmp 15) (.const (Go.Value.int Go.IntKind.i64 1)))⟩,
      ⟨some 5, none, .prim (.mov (.tmp 16))⟩]))))))
    (.seq (.ops [⟨some 4, none, .prim (.mov (.const (Go.Value.bool Bool.true)))⟩])
    .ret))))
def o16 : List Tmp := []
def r16 : List RV := [.tmp 4]
theorem t16 : Text Try.prog 16 o16 c16 r16 26 := ⟨⟨Try.f16, _, by kernel_rfl, by kernel_rfl, rfl, by kernel_rfl, by kernel_rfl, rfl⟩, by kernel_rfl⟩

/-- sordine/sordineref5.Parse -/
def c17 : ACode :=
  (.seq (.ops [⟨some 2, none, .prim (.allocm [.pl (.int .i64 0), .pl (.int .u64 0), .pl (.int .u64 0), .pl (.int .u64 0), .pl (.int .u64 0), .nils])⟩,
      ⟨some 3, none, .prim (.mov (.const (Go.Value.bool Bool.false)))⟩])
    (.seq (.seq (.ops [⟨some 6, none, .prim (.mov (.tmp 0))⟩,
      ⟨some 7, none, .prim (.lens (.tmp 6))⟩,
      ⟨some 8, none, .prim (.bin false .gtr (.tmp 7) (.const (Go.Value.int Go.IntKind.i64 40)))⟩])
    (.cond (.tmp 8)
    (.seq (.ops [⟨some 9, none, .prim (.build [.pl (.int .i64 0), .pl (.int .u64 0), .pl (.int .u64 0), .pl (.int .u64 0), .pl (.int .u64 0), .nils] [])⟩,
      ⟨none, none, .prim (.store 6 (.tmp 2) (.tmp 9))⟩,
      ⟨some 3, none, .prim (.mov (.const (Go.Value.bool Bool.false)))⟩])
    .ret)
    .skip))
    (.seq (.ops [⟨some 10, none, .prim (.mov (.tmp 0))⟩,
      ⟨some 11, none, .prim (.build [.pl (.string .empty), .pl (.int .i64 0), .pl (.int .i64 0), .pl (.bool false)] [(0, 1, (.tmp 10))])⟩,
      ⟨some 12, none, .prim (.boxm (.tmp 11))⟩,
      ⟨some 4, none, .prim (.mov (.tmp 12))⟩])
    (.seq (.ops [⟨some 13, none, .prim (.mov (.tmp 4))⟩,
      ⟨some 14, none, .call (.func 29) [(.tmp 13)]⟩,
      ⟨some 5, none, .fresh 6 5 (.tmp 14)⟩])
    (.seq (.seq (.ops [⟨some 15, none, .prim (.mov (.tmp 4))⟩,
      ⟨some 16, none, .prim (.nilc (.tmp 15))⟩,
      ⟨some 17, none, .prim (.fadr 3 (.tmp 16))⟩,
      ⟨some 18, none, .prim (.load 1 false (.tmp 17))⟩,
      ⟨some 19, none, .prim (.mov (.tmp 18))⟩,
      ⟨some 20, (some (19, false)), .prim (.mov (.tmp 4))⟩,
      ⟨some 21, (some (19, false)), .prim (.nilc (.tmp 20))⟩,
      ⟨some 22, (some (19, false)), .prim (.fadr 1 (.tmp 21))⟩,
      ⟨some 23, (some (19, false)), .prim (.load 1 false (.tmp 22))⟩,
      ⟨some 24, (some (19, false)), .prim (.mov (.tmp 0))⟩,
      ⟨some 25, (some (19, false)), .prim (.lens (.tmp 24))⟩,
      ⟨some 26, (some (19, false)), .prim (.bin false .lss (.tmp 23) (.tmp 25))⟩,
      ⟨some 27, none, .prim (.pick (.tmp 19) (.const (Go.Value.bool Bool.true)) (.tmp 26))⟩])
    (.cond (.tmp 27)
    (.seq (.ops [⟨some 28, none, .prim (.build [.pl (.int .i64 0), .pl (.int .u64 0), .pl (.int .u64 0), .pl (.int .u64 0), .pl (.int .u64 0), .nils] [])⟩,
      ⟨none, none, .prim (.store 6 (.tmp 2) (.tmp 28))⟩,
      ⟨some 3, none, .prim (.mov (.const (Go.Value.bool Bool.false)))⟩])
    .ret)
    .skip))
    (.seq (.ops [⟨some 29, none, .prim (.load 6 true (.tmp 5))⟩,
      ⟨none, none, .prim (.store 6 (.tmp 2) (.tmp 29))⟩,
      ⟨some 3, none, .prim (.mov (.const (Go.Value.bool Bool.true)))⟩])
    .ret))))))
def o17 : List Tmp := [2, 12]
def r17 : List RV := [.cell 2 6 true, .tmp 3]
theorem t17 : Text Try.prog 17 o17 c17 r17 30 := ⟨⟨Try.f17, _, by kernel_rfl, by kernel_rfl, rfl, by kernel_rfl, by kernel_rfl, rfl⟩, by kernel_rfl⟩

/-- sordine/sordineref5.Check -/
def c18 : ACode :=
  (.seq (.ops [⟨some 2, none, .prim (.mov (.const (Go.Value.bool Bool.false)))⟩])
    (.seq (.seq (.ops [⟨some 8, none, .prim (.mov (.tmp 0))⟩,
      ⟨some 9, none, .prim (.lenv (.tmp 8))⟩,
      ⟨some 10, none, .prim (.bin false .lss (.tmp 9) (.const (Go.Value.int Go.IntKind.i64 1)))⟩,
      ⟨some 11, none, .prim (.mov (.tmp 10))⟩,
      ⟨some 12, (some (11, false)), .prim (.mov (.tmp 0))⟩,
      ⟨some 13, (some (11, false)), .prim (.lenv (.tmp 12))⟩,
      ⟨some 14, (some (11, false)), .prim (.bin false .gtr (.tmp 13) (.const (Go.Value.int Go.IntKind.i64 40)))⟩,
      ⟨some 15, none, .prim (.pick (.tmp 11) (.const (Go.Value.bool Bool.true)) (.tmp 14))⟩])
    (.cond (.tmp 15)
    (.seq (.ops [⟨some 2, none, .prim (.mov (.const (Go.Value.bool Bool.false)))⟩])
    .ret)
    .skip))
    (.seq (.seq (.ops [⟨some 3, none, .prim (.mov (.const (Go.Value.int Go.IntKind.i64 0)))⟩])
    (.block 0 (.loop [1, 2, 4, 5, 6, 7, 8, 9, 10, 11, 12, 13, 14, 15, 16, 17, 18, 19, 20, 21, 22, 23, 24, 25, 26, 27, 28, 29, 30, 31, 32, 33, 34, 35, 36, 37, 38, 39, 40, 41, 42, 43, 44, 45, 46, 47, 48, 49, 50, 51, 52, 53, 54, 55, 56, 57, 58, 59, 60, 61, 62, 63, 64, 65, 66, 67, 68, 69, 70, 71, 72, 73, 74, 75, 76, 77, 78, 79, 80, 81, 82, 83, 84, 85, 86, 87, 88, 89, 90, 91, 92, 93, 94, 95, 96, 97, 98, 99, 100, 101, 102, 103, 104, 105, 106, 107] (.seq (.seq (.ops [⟨some 16, none, .prim (.mov (.tmp 3))⟩,
      ⟨some 17, none, .prim (.mov (.tmp 0))⟩,
      ⟨some 18, none, .prim (.lenv (.tmp 17))⟩,
      ⟨some 19, none, .prim (.bin false .lss (.tmp 16) (.tmp 18))⟩])
    (.cond (.tmp 19)
    .skip
    (.exit 0)))
    (.seq (.block 1 (.seq (.ops [⟨some 22, none, .prim (.mov (.tmp 0))⟩,
      ⟨some 23, none, .prim (.mov (.tmp 3))⟩,
      ⟨some 24, none, .prim (.iadrs 7 (.tmp 22) (.tmp 23))⟩,
      ⟨some 25, none, .prim (.load 7 true (.tmp 24))⟩,
      ⟨some 4, none, .fresh 7 4 (.tmp 25)⟩])
    (.seq (.draw [⟨⟨some 26, none, .prim (.fadr 5 (.tmp 4))⟩, [], false, 0, 0⟩,
      ⟨⟨some 27, none, .prim (.load 1 false (.tmp 26))⟩, [0], false, 0, 0⟩,
      ⟨⟨some 28, none, .prim (.bin false .geq (.tmp 27) (.const (Go.Value.int Go.IntKind.i64 0)))⟩, [0, 1], false, 0, 0⟩,
      ⟨⟨some 29, none, .prim (.mov (.tmp 28))⟩, [0, 1, 2], false, 0, 0⟩,
      ⟨⟨some 30, (some (29, true)), .prim (.fadr 5 (.tmp 4))⟩, [0, 1, 2, 3], false, 0, 0⟩,
      ⟨⟨some 31, (some (29, true)), .prim (.load 1 false (.tmp 30))⟩, [0, 1, 2, 3, 4], false, 0, 0⟩,
      ⟨⟨some 32, (some (29, true)), .prim (.mov (.tmp 0))⟩, [0, 1, 2, 3], false, 0, 0⟩,
      ⟨⟨some 33, (some (29, true)), .prim (.lenv (.tmp 32))⟩, [0, 1, 2, 3, 6], false, 0, 0⟩,
      ⟨⟨some 34, (some (29, true)), .prim (.bin false .lss (.tmp 31) (.tmp 33))⟩, [0, 1, 2, 3, 4, 5, 6, 7], false, 0, 0⟩,
      ⟨⟨some 35, none, .prim (.pick (.tmp 29) (.tmp 34) (.const (Go.Value.bool Bool.false)))⟩, [0, 1, 2, 3, 4, 5, 6, 7, 8], false, 0, 0⟩,
      ⟨⟨some 36, none, .prim (.fadr 6 (.tmp 4))⟩, [], false, 0, 0⟩,
      ⟨⟨some 37, none, .prim (.load 1 false (.tmp 36))⟩, [10], false, 0, 0⟩,
      ⟨⟨some 38, none, .prim (.bin false .geq (.tmp 37) (.const (Go.Value.int Go.IntKind.i64 0)))⟩, [10, 11], false, 0, 0⟩,
      ⟨⟨some 39, none, .prim (.mov (.tmp 38))⟩, [0, 1, 2, 3, 10, 11, 12], false, 0, 0⟩,
      ⟨⟨some 40, (some (39, true)), .prim (.fadr 6 (.tmp 4))⟩, [0, 1, 2, 3, 10, 11, 12, 13], false, 0, 0⟩,
      ⟨⟨some 41, (some (39, true)), .prim (.load 1 false (.tmp 40))⟩, [0, 1, 2, 3, 10, 11, 12, 13, 14], false, 0, 0⟩,
      ⟨⟨some 42, (some (39, true)), .prim (.mov (.tmp 0))⟩, [0, 1, 2, 3, 10, 11, 12, 13], false, 0, 0⟩,
      ⟨⟨some 43, (some (39, true)), .prim (.lenv (.tmp 42))⟩, [0, 1, 2, 3, 10, 11, 12, 13, 16], false, 0, 0⟩,
      ⟨⟨some 44, (some (39, true)), .prim (.bin false .lss (.tmp 41) (.tmp 43))⟩, [0, 1, 2, 3, 10, 11, 12, 13, 14, 15, 16, 17], false, 0, 0⟩,
      ⟨⟨some 45, none, .prim (.pick (.tmp 39) (.tmp 44) (.const (Go.Value.bool Bool.false)))⟩, [0, 1, 2, 3, 10, 11, 12, 13, 14, 15, 16, 17, 18], false, 0, 0⟩,
      ⟨⟨some 5, none, .prim (.mov (.tmp 35))⟩, [0, 1, 2, 3, 4, 5, 6, 7, 8, 9, 10, 11, 12, 13], false, 0, 0⟩,
      ⟨⟨some 6, none, .prim (.mov (.tmp 45))⟩, [0, 1, 2, 3, 4, 5, 6, 7, 8, 9, 10, 11, 12, 13, 14, 15, 16, 17, 18, 19, 20], false, 0, 0⟩])
    (.seq (.ops [⟨some 46, none, .prim (.fadr 1 (.tmp 4))⟩,
      ⟨some 47, none, .prim (.load 4 true (.tmp 46))⟩,
      ⟨some 48, none, .prim (.build [.pl (.int .u64 0), .pl (.int .u64 0), .pl (.int .u64 0), .pl (.int .u64 0)] [])⟩,
      ⟨some 49, none, .prim (.eqa false [.int, .int, .int, .int] (.tmp 47) (.tmp 48))⟩,
      ⟨some 7, none, .prim (.mov (.tmp 49))⟩])
    (.seq (.ops [⟨some 50, none, .prim (.fadr 0 (.tmp 4))⟩,
      ⟨some 51, none, .prim (.load 1 false (.tmp 50))⟩])
    (.block 2 (.seq (.ops [⟨some 53, none, .prim (.bin false .eql (.tmp 51) (.const (Go.Value.int Go.IntKind.i64 1)))⟩,
      ⟨some 52, none, .prim (.mov (.tmp 53))⟩])
    (.cond (.tmp 52)
    (.seq (.ops [⟨some 54, none, .prim (.fadr 5 (.tmp 4))⟩,
      ⟨some 55, none, .prim (.load 1 false (.tmp 54))⟩,
      ⟨some 56, none, .prim (.bin false .neq (.tmp 55) (.const (Go.Value.int Go.IntKind.i64 0)))⟩,
      ⟨some 57, none, .prim (.mov (.tmp 56))⟩,
      ⟨some 58, (some (57, false)), .prim (.fadr 6 (.tmp 4))⟩,
      ⟨some 59, (some (57, false)), .prim (.load 1 false (.tmp 58))⟩,
      ⟨some 60, (some (57, false)), .prim (.bin false .neq (.tmp 59) (.const (Go.Value.int Go.IntKind.i64 0)))⟩,
      ⟨some 61, none, .prim (.pick (.tmp 57) (.const (Go.Value.bool Bool.true)) (.tmp 60))⟩,
      ⟨some 62, none, .prim (.mov (.tmp 61))⟩,
      ⟨some 63, (some (62, false)), .prim (.mov (.tmp 3))⟩,
      ⟨some 64, (some (62, false)), .prim (.mov (.tmp 0))⟩,
      ⟨some 65, (some (62, false)), .prim (.lenv (.tmp 64))⟩,
      ⟨some 66, (some (62, false)), .prim (.bin false .sub (.tmp 65) (.const (Go.Value.int Go.IntKind.i64 1)))⟩,
      ⟨some 67, (some (62, false)), .prim (.bin false .eql (.tmp 63) (.tmp 66))⟩,
      ⟨some 68, none, .prim (.pick (.tmp 62) (.const (Go.Value.bool Bool.true)) (.tmp 67))⟩])
    (.cond (.tmp 68)
    (.seq (.ops [⟨some 2, none, .prim (.mov (.const (Go.Value.bool Bool.false)))⟩])
    .ret)
    .skip))
    (.seq (.ops [⟨some 70, none, .prim (.bin false .eql (.tmp 51) (.const (Go.Value.int Go.IntKind.i64 2)))⟩,
      ⟨some 69, none, .prim (.mov (.tmp 70))⟩])
    (.cond (.tmp 69)
    (.seq (.ops [⟨some 71, none, .prim (.mov (.tmp 5))⟩,
      ⟨some 72, none, .prim (.un .not (.tmp 71))⟩,
      ⟨some 73, none, .prim (.mov (.tmp 72))⟩,
      ⟨some 74, (some (73, false)), .prim (.mov (.tmp 6))⟩,
      ⟨some 75, (some (73, false)), .prim (.un .not (.tmp 74))⟩,
      ⟨some 76, none, .prim (.pick (.tmp 73) (.const (Go.Value.bool Bool.true)) (.tmp 75))⟩,
      ⟨some 77, none, .prim (.mov (.tmp 76))⟩,
      ⟨some 78, (some (77, false)), .prim (.mov (.tmp 7))⟩,
      ⟨some 79, (some (77, false)), .prim (.un .not (.tmp 78))⟩,
      ⟨some 80, none, .prim (.pick (.tmp 77) (.const (Go.Value.bool Bool.true)) (.tmp 79))⟩])
    (.cond (.tmp 80)
    (.seq (.ops [⟨some 2, none, .prim (.mov (.const (Go.Value.bool Bool.false)))⟩])
    .ret)
    .skip))
    (.seq (.ops [⟨some 82, none, .prim (.bin false .eql (.tmp 51) (.const (Go.Value.int Go.IntKind.i64 3)))⟩,
      ⟨some 81, none, .prim (.mov (.tmp 82))⟩])
    (.cond (.tmp 81)
    (.seq (.ops [⟨some 83, none, .prim (.mov (.tmp 5))⟩,
      ⟨some 84, none, .prim (.un .not (.tmp 83))⟩,
      ⟨some 85, none, .prim (.mov (.tmp 84))⟩,
      ⟨some 86, (some (85, false)), .prim (.fadr 6 (.tmp 4))⟩,
      ⟨some 87, (some (85, false)), .prim (.load 1 false (.tmp 86))⟩,
      ⟨some 88, (some (85, false)), .prim (.bin false .neq (.tmp 87) (.const (Go.Value.int Go.IntKind.i64 0)))⟩,
      ⟨some 89, none, .prim (.pick (.tmp 85) (.const (Go.Value.bool Bool.true)) (.tmp 88))⟩,
      ⟨some 90, none, .prim (.mov (.tmp 89))⟩,
      ⟨some 91, (some (90, false)), .prim (.mov (.tmp 7))⟩,
      ⟨some 92, (some (90, false)), .prim (.un .not (.tmp 91))⟩,
      ⟨some 93, none, .prim (.pick (.tmp 90) (.const (Go.Value.bool Bool.true)) (.tmp 92))⟩])
    (.cond (.tmp 93)
    (.seq (.ops [⟨some 2, none, .prim (.mov (.const (Go.Value.bool Bool.false)))⟩])
    .ret)
    .skip))
    (.seq (.ops [⟨some 95, none, .prim (.bin false .eql (.tmp 51) (.const (Go.Value.int Go.IntKind.i64 4)))⟩,
      ⟨some 94, none, .prim (.mov (.tmp 95))⟩])
    (.cond (.tmp 94)
    (.seq (.ops [⟨some 96, none, .prim (.fadr 5 (.tmp 4))⟩,
      ⟨some 97, none, .prim (.load 1 false (.tmp 96))⟩,
      ⟨some 98, none, .prim (.bin false .neq (.tmp 97) (.const (Go.Value.int Go.IntKind.i64 0)))⟩,
      ⟨some 99, none, .prim (.mov (.tmp 98))⟩,
      ⟨some 100, (some (99, false)), .prim (.fadr 6 (.tmp 4))⟩,
      ⟨some 101, (some (99, false)), .prim (.load 1 false (.tmp 100))⟩,
      ⟨some 102, (some (99, false)), .prim (.bin false .neq (.tmp 101) (.const (Go.Value.int Go.IntKind.i64 0)))⟩,
      ⟨some 103, none, .prim (.pick (.tmp 99) (.const (Go.Value.bool Bool.true)) (.tmp 102))⟩,
      ⟨some 104, none, .prim (.mov (.tmp 103))⟩,
      ⟨some 105, (some (104, false)), .prim (.mov (.tmp 7))⟩,
      ⟨some 106, (some (104, false)), .prim (.un .not (.tmp 105))⟩,
      ⟨some 107, none, .prim (.pick (.tmp 104) (.const (Go.Value.bool Bool.true)) (.tmp 106))⟩])
    (.cond (.tmp 107)
    (.seq (.ops [⟨some 2, none, .prim (.mov (.const (Go.Value.bool Bool.false)))⟩])
    .ret)
    .skip))
    (.seq (.ops [⟨some 2, none, .prim (.mov (.const (Go.Value.bool Bool.false)))⟩])
    .ret)))))))))))))))
    (.ops [⟨some 20, none, .prim (.mov (.tmp 3))⟩,
      ⟨some 21, none, .prim (.bin false .add (.tmp 20) (.const (Go.Value.int Go.IntKind.i64 1)))⟩,
      ⟨some 3, none, .prim (.mov (.tmp 21))⟩]))))))
    (.seq (.ops [⟨some 2, none, .prim (.mov (.const (Go.Value.bool Bool.true)))⟩])
    .ret))))
def o18 : List Tmp := []
def r18 : List RV := [.tmp 2]
theorem t18 : Text Try.prog 18 o18 c18 r18 108 := ⟨⟨Try.f18, _, by kernel_rfl, by kernel_rfl, rfl, by kernel_rfl, by kernel_rfl, rfl⟩, by kernel_rfl⟩

/-- sordine/rex.Is -/
def c19 : ACode :=
  (.seq (.ops [⟨some 1, none, .prim (.boxr (.tmp 0))⟩,
      ⟨some 2, none, .prim (.mov (.const (Go.Value.bool Bool.false)))⟩])
    (.seq (.ops [⟨some 4, none, .prim (.fadr 5 (.tmp 1))⟩,
      ⟨some 5, none, .prim (.load 1 false (.tmp 4))⟩,
      ⟨some 6, none, .prim (.lenv (.tmp 5))⟩,
      ⟨some 3, none, .prim (.mov (.tmp 6))⟩])
    (.seq (.seq (.ops [⟨some 7, none, .prim (.fadr 0 (.tmp 1))⟩,
      ⟨some 8, none, .prim (.load 1 false (.tmp 7))⟩])
    (.block 0 (.seq (.ops [⟨some 10, none, .prim (.bin false .eql (.tmp 8) (.const (Go.Value.int Go.IntKind.i64 1)))⟩,
      ⟨some 9, none, .prim (.mov (.tmp 10))⟩])
    (.cond (.tmp 9)
    (.seq (.ops [⟨some 11, none, .prim (.mov (.tmp 3))⟩,
      ⟨some 12, none, .prim (.bin false .eql (.tmp 11) (.const (Go.Value.int Go.IntKind.i64 0)))⟩,
      ⟨some 2, none, .prim (.mov (.tmp 12))⟩])
    .ret)
    (.seq (.ops [⟨some 14, none, .prim (.bin false .eql (.tmp 8) (.const (Go.Value.int Go.IntKind.i64 2)))⟩,
      ⟨some 13, none, .prim (.mov (.tmp 14))⟩])
    (.cond (.tmp 13)
    .skip
    (.seq (.ops [⟨some 16, none, .prim (.bin false .eql (.tmp 8) (.const (Go.Value.int Go.IntKind.i64 3)))⟩,
      ⟨some 15, none, .prim (.mov (.tmp 16))⟩])
    (.cond (.tmp 15)
    (.seq (.ops [⟨some 17, none, .prim (.mov (.tmp 3))⟩,
      ⟨some 18, none, .prim (.bin false .eql (.tmp 17) (.const (Go.Value.int Go.IntKind.i64 0)))⟩])
    (.cond (.tmp 18)
    (.seq (.ops [⟨some 2, none, .prim (.mov (.const (Go.Value.bool Bool.false)))⟩])
    .ret)
    .skip))
    (.seq (.seq (.ops [⟨some 20, none, .prim (.bin false .eql (.tmp 8) (.const (Go.Value.int Go.IntKind.i64 4)))⟩,
      ⟨some 19, none, .prim (.mov (.tmp 20))⟩])
    (.cond (.tmp 19)
    .skip
    (.seq (.ops [⟨some 21, none, .prim (.bin false .eql (.tmp 8) (.const (Go.Value.int Go.IntKind.i64 5)))⟩,
      ⟨some 19, none, .prim (.mov (.tmp 21))⟩])
    (.cond (.tmp 19)
    .skip
    (.ops [⟨some 22, none, .prim (.bin false .eql (.tmp 8) (.const (Go.Value.int Go.IntKind.i64 6)))⟩,
      ⟨some 19, none, .prim (.mov (.tmp 22))⟩])))))
    (.cond (.tmp 19)
    (.seq (.ops [⟨some 23, none, .prim (.mov (.tmp 3))⟩,
      ⟨some 24, none, .prim (.bin false .neq (.tmp 23) (.const (Go.Value.int Go.IntKind.i64 1)))⟩])
    (.cond (.tmp 24)
    (.seq (.ops [⟨some 2, none, .prim (.mov (.const (Go.Value.bool Bool.false)))⟩])
    .ret)
    .skip))
    (.seq (.ops [⟨some 2, none, .prim (.mov (.const (Go.Value.bool Bool.false)))⟩])
    .ret)))))))))))
    (.seq (.ops [⟨some 25, none, .prim (.fadr 1 (.tmp 1))⟩,
      ⟨some 26, none, .prim (.load 4 true (.tmp 25))⟩,
      ⟨some 27, none, .prim (.build [.pl (.int .u64 0), .pl (.int .u64 0), .pl (.int .u64 0), .pl (.int .u64 0)] [])⟩,
      ⟨some 28, none, .prim (.eqa false [.int, .int, .int, .int] (.tmp 26) (.tmp 27))⟩,
      ⟨some 29, none, .prim (.mov (.tmp 28))⟩,
      ⟨some 30, (some (29, true)), .prim (.fadr 5 (.tmp 1))⟩,
      ⟨some 31, (some (29, true)), .prim (.load 1 false (.tmp 30))⟩,
      ⟨some 32, (some (29, true)), .call (.func 30) [(.tmp 31), (.func 31)]⟩,
      ⟨some 33, (some (29, true)), .prim (.un .not (.tmp 32))⟩,
      ⟨some 34, none, .prim (.pick (.tmp 29) (.tmp 33) (.const (Go.Value.bool Bool.false)))⟩,
      ⟨some 2, none, .prim (.mov (.tmp 34))⟩])
    .ret))))
def o19 : List Tmp := []
def r19 : List RV := [.tmp 2]
theorem t19 : Text Try.prog 19 o19 c19 r19 35 := ⟨⟨Try.f19, _, by kernel_rfl, by kernel_rfl, rfl, by kernel_rfl, by kernel_rfl, rfl⟩, by kernel_rfl⟩

/-- (*sordine/rex.parser).ways -/
def c20 : ACode :=
  (.seq (.ops [⟨some 4, none, .prim (.allocm [.pl (.int .i64 0), .pl (.int .u64 0), .pl (.int .u64 0), .pl (.int .u64 0), .pl (.int .u64 0), .nils])⟩])
    (.seq (.ops [⟨some 6, none, .prim (.mov (.tmp 0))⟩,
      ⟨some 7, none, .prim (.mov (.tmp 1))⟩,
      ⟨some 8, none, .call (.func 32) [(.tmp 6), (.tmp 7)]⟩,
      ⟨some 9, none, .prim (.bsl true 6 true 1 [.pl (.int .i64 0), .pl (.int .u64 0), .pl (.int .u64 0), .pl (.int .u64 0), .pl (.int .u64 0), .nils] [(0, 6, (.tmp 8))])⟩,
      ⟨some 5, none, .prim (.mov (.tmp 9))⟩])
    (.seq (.block 0 (.loop [2, 3, 6, 7, 8, 9, 10, 11, 12, 13, 14, 15, 16, 17, 18, 19, 20, 21, 22, 23, 24, 25] (.seq (.seq (.ops [⟨some 10, none, .prim (.mov (.tmp 0))⟩,
      ⟨some 11, none, .call (.func 33) [(.tmp 10), (.const (Go.Value.int Go.IntKind.u8 124))]⟩])
    (.cond (.tmp 11)
    .skip
    (.exit 0)))
    (.block 1 (.ops [⟨some 12, none, .prim (.mov (.tmp 5))⟩,
      ⟨some 13, none, .prim (.mov (.tmp 0))⟩,
      ⟨some 14, none, .prim (.mov (.tmp 1))⟩,
      ⟨some 15, none, .call (.func 32) [(.tmp 13), (.tmp 14)]⟩,
      ⟨some 16, none, .prim (.bsl false 6 true 1 [.pl (.int .i64 0), .pl (.int .u64 0), .pl (.int .u64 0), .pl (.int .u64 0), .pl (.int .u64 0), .nils] [(0, 6, (.tmp 15))])⟩,
      ⟨some 17, none, .prim (.app 6 (.tmp 12) (.tmp 16))⟩,
      ⟨some 5, none, .prim (.mov (.tmp 17))⟩])))))
    (.seq (.seq (.ops [⟨some 18, none, .prim (.mov (.tmp 5))⟩,
      ⟨some 19, none, .prim (.lenv (.tmp 18))⟩,
      ⟨some 20, none, .prim (.bin false .eql (.tmp 19) (.const (Go.Value.int Go.IntKind.i64 1)))⟩])
    (.cond (.tmp 20)
    (.seq (.ops [⟨some 21, none, .prim (.mov (.tmp 5))⟩,
      ⟨some 22, none, .prim (.iadrs 6 (.tmp 21) (.const (Go.Value.int Go.IntKind.i64 0)))⟩,
      ⟨some 23, none, .prim (.load 6 true (.tmp 22))⟩,
      ⟨none, none, .prim (.store 6 (.tmp 4) (.tmp 23))⟩])
    .ret)
    .skip))
    (.seq (.ghost (.shut 5) (.ops [⟨some 24, none, .prim (.mov (.tmp 5))⟩,
      ⟨some 25, none, .prim (.build [.pl (.int .i64 0), .pl (.int .u64 0), .pl (.int .u64 0), .pl (.int .u64 0), .pl (.int .u64 0), .nils] [(0, 1, (.const (Go.Value.int Go.IntKind.i64 3))), (5, 1, (.tmp 24))])⟩,
      ⟨none, none, .prim (.store 6 (.tmp 4) (.tmp 25))⟩]))
    .ret)))))
def o20 : List Tmp := [4, 9]
def r20 : List RV := [.cell 4 6 true]
theorem t20 : Text Try.prog 20 o20 c20 r20 26 := ⟨⟨Try.f20, _, by kernel_rfl, by kernel_rfl, rfl, by kernel_rfl, by kernel_rfl, rfl⟩, by kernel_rfl⟩

/-- sordine/prog.lay -/
def c21 : ACode :=
  (.seq (.ops [⟨some 3, none, .prim (.boxr (.tmp 1))⟩,
      ⟨some 4, none, .prim (.mov (.const (Go.Value.slice Option.none 0 0)))⟩])
    (.seq (.ops [⟨some 8, none, .prim (.mov (.tmp 0))⟩,
      ⟨some 9, none, .prim (.lenv (.tmp 8))⟩,
      ⟨some 5, none, .prim (.mov (.tmp 9))⟩])
    (.seq (.seq (.ops [⟨some 10, none, .prim (.fadr 0 (.tmp 3))⟩,
      ⟨some 11, none, .prim (.load 1 false (.tmp 10))⟩])
    (.block 0 (.seq (.ops [⟨some 13, none, .prim (.bin false .eql (.tmp 11) (.const (Go.Value.int Go.IntKind.i64 1)))⟩,
      ⟨some 12, none, .prim (.mov (.tmp 13))⟩])
    (.cond (.tmp 12)
    (.seq (.ops [⟨some 14, none, .prim (.mov (.tmp 0))⟩,
      ⟨some 15, none, .prim (.fadr 1 (.tmp 3))⟩,
      ⟨some 16, none, .prim (.load 4 true (.tmp 15))⟩,
      ⟨some 17, none, .prim (.build [.pl (.int .i64 0), .pl (.int .u64 0), .pl (.int .u64 0), .pl (.int .u64 0), .pl (.int .u64 0), .pl (.int .i64 0), .pl (.int .i64 0)] [(0, 1, (.const (Go.Value.int Go.IntKind.i64 1))), (1, 4, (.tmp 16))])⟩,
      ⟨some 18, none, .prim (.bsl false 7 true 1 [.pl (.int .i64 0), .pl (.int .u64 0), .pl (.int .u64 0), .pl (.int .u64 0), .pl (.int .u64 0), .pl (.int .i64 0), .pl (.int .i64 0)] [(0, 7, (.tmp 17))])⟩,
      ⟨some 19, none, .prim (.app 7 (.tmp 14) (.tmp 18))⟩,
      ⟨some 4, none, .prim (.mov (.tmp 19))⟩])
    .ret)
    (.seq (.ops [⟨some 21, none, .prim (.bin false .eql (.tmp 11) (.const (Go.Value.int Go.IntKind.i64 2)))⟩,
      ⟨some 20, none, .prim (.mov (.tmp 21))⟩])
    (.cond (.tmp 20)
    (.seq (.ops [⟨some 22, none, .prim (.fadr 5 (.tmp 3))⟩,
      ⟨some 23, none, .prim (.load 1 false (.tmp 22))⟩,
      ⟨some 24, none, .prim (.lenv (.tmp 23))⟩,
      ⟨some 25, none, .prim (.mov (.const (Go.Value.int Go.IntKind.i64 0)))⟩])
    (.block 1 (.loop [1, 2, 3, 4, 5, 6, 7, 8, 9, 10, 11, 12, 13, 14, 15, 16, 17, 18, 19, 20, 21, 22, 26, 27, 28, 29, 30, 31, 32, 33, 34, 35, 36, 37, 38, 39, 40, 41, 42, 43, 44, 45, 46, 47, 48, 49, 50, 51, 52, 53, 54, 55, 56, 57, 58, 59, 60, 61, 62, 63, 64, 65, 66, 67, 68, 69, 70, 71, 72, 73, 74, 75, 76, 77, 78, 79, 80, 81, 82, 83, 84, 85, 86, 87, 88, 89, 90, 91, 92, 93, 94, 95, 96, 97, 98] (.seq (.ops [⟨some 26, none, .prim (.bin false .lss (.tmp 25) (.tmp 24))⟩])
    (.seq (.cond (.tmp 26)
    .skip
    (.exit 1))
    (.seq (.block 2 (.seq (.ops [⟨some 27, none, .prim (.iadrs 6 (.tmp 23) (.tmp 25))⟩,
      ⟨some 28, none, .prim (.load 6 true (.tmp 27))⟩,
      ⟨some 7, none, .fresh 6 7 (.tmp 28)⟩])
    (.ops [⟨some 29, none, .prim (.mov (.tmp 0))⟩,
      ⟨some 30, none, .prim (.load 6 true (.tmp 7))⟩,
      ⟨some 31, none, .call (.func 21) [(.tmp 29), (.tmp 30)]⟩,
      ⟨some 0, none, .prim (.mov (.tmp 31))⟩])))
    (.ops [⟨some 32, none, .prim (.bin false .add (.tmp 25) (.const (Go.Value.int Go.IntKind.i64 1)))⟩,
      ⟨some 25, none, .prim (.mov (.tmp 32))⟩])))))))
    (.seq (.ops [⟨some 34, none, .prim (.bin false .eql (.tmp 11) (.const (Go.Value.int Go.IntKind.i64 3)))⟩,
      ⟨some 33, none, .prim (.mov (.tmp 34))⟩])
    (.cond (.tmp 33)
    (.seq (.ops [⟨some 35, none, .prim (.mov (.tmp 0))⟩,
      ⟨some 36, none, .prim (.fadr 5 (.tmp 3))⟩,
      ⟨some 37, none, .prim (.load 1 false (.tmp 36))⟩,
      ⟨some 38, none, .call (.func 34) [(.tmp 35), (.tmp 37)]⟩,
      ⟨some 4, none, .prim (.mov (.tmp 38))⟩])
    .ret)
    (.seq (.ops [⟨some 40, none, .prim (.bin false .eql (.tmp 11) (.const (Go.Value.int Go.IntKind.i64 4)))⟩,
      ⟨some 39, none, .prim (.mov (.tmp 40))⟩])
    (.cond (.tmp 39)
    (.seq (.draw [⟨⟨some 41, none, .prim (.mov (.tmp 0))⟩, [], false, 0, 0⟩,
      ⟨⟨some 42, none, .prim (.mov (.tmp 5))⟩, [], false, 0, 0⟩,
      ⟨⟨some 43, none, .prim (.bin false .add (.tmp 42) (.const (Go.Value.int Go.IntKind.i64 1)))⟩, [1], false, 0, 0⟩,
      ⟨⟨some 44, none, .prim (.build [.pl (.int .i64 0), .pl (.int .u64 0), .pl (.int .u64 0), .pl (.int .u64 0), .pl (.int .u64 0), .pl (.int .i64 0), .pl (.int .i64 0)] [(0, 1, (.const (Go.Value.int Go.IntKind.i64 2))), (5, 1, (.tmp 43))])⟩, [1, 2], false, 0, 0⟩,
      ⟨⟨some 45, none, .prim (.bsl false 7 true 1 [.pl (.int .i64 0), .pl (.int .u64 0), .pl (.int .u64 0), .pl (.int .u64 0), .pl (.int .u64 0), .pl (.int .i64 0), .pl (.int .i64 0)] [(0, 7, (.tmp 44))])⟩, [1, 2, 3], false, 0, 0⟩,
      ⟨⟨some 46, none, .prim (.app 7 (.tmp 41) (.tmp 45))⟩, [0, 1, 2, 3, 4], true, 0, 0⟩,
      ⟨⟨some 47, none, .prim (.fadr 5 (.tmp 3))⟩, [], false, 0, 1⟩,
      ⟨⟨some 48, none, .prim (.load 1 false (.tmp 47))⟩, [6], false, 0, 1⟩,
      ⟨⟨some 49, none, .prim (.iadrs 6 (.tmp 48) (.const (Go.Value.int Go.IntKind.i64 0)))⟩, [6, 7], false, 0, 1⟩,
      ⟨⟨some 50, none, .prim (.load 6 true (.tmp 49))⟩, [6, 7, 8], false, 0, 1⟩,
      ⟨⟨some 51, none, .call (.func 21) [(.tmp 46), (.tmp 50)]⟩, [0, 1, 2, 3, 4, 5, 6, 7, 8, 9], true, 0, 0⟩,
      ⟨⟨some 0, none, .prim (.mov (.tmp 51))⟩, [0, 1, 2, 3, 4, 5, 6, 7, 8, 9, 10], false, 2, 2⟩])
    (.seq (.ops [⟨some 52, none, .prim (.mov (.tmp 0))⟩,
      ⟨some 53, none, .prim (.mov (.tmp 5))⟩,
      ⟨some 54, none, .prim (.build [.pl (.int .i64 0), .pl (.int .u64 0), .pl (.int .u64 0), .pl (.int .u64 0), .pl (.int .u64 0), .pl (.int .i64 0), .pl (.int .i64 0)] [(0, 1, (.const (Go.Value.int Go.IntKind.i64 3))), (5, 1, (.tmp 53))])⟩,
      ⟨some 55, none, .prim (.bsl false 7 true 1 [.pl (.int .i64 0), .pl (.int .u64 0), .pl (.int .u64 0), .pl (.int .u64 0), .pl (.int .u64 0), .pl (.int .i64 0), .pl (.int .i64 0)] [(0, 7, (.tmp 54))])⟩,
      ⟨some 56, none, .prim (.app 7 (.tmp 52) (.tmp 55))⟩,
      ⟨some 0, none, .prim (.mov (.tmp 56))⟩])
    (.ops [⟨some 57, none, .prim (.mov (.tmp 0))⟩,
      ⟨some 58, none, .prim (.mov (.tmp 5))⟩,
      ⟨some 59, none, .prim (.mov (.tmp 0))⟩,
      ⟨some 60, none, .prim (.lenv (.tmp 59))⟩,
      ⟨some 61, none, .prim (.iadrs 7 (.tmp 57) (.tmp 58))⟩,
      ⟨some 62, none, .prim (.fadr 6 (.tmp 61))⟩,
      ⟨none, none, .prim (.store 1 (.tmp 62) (.tmp 60))⟩])))
    (.seq (.ops [⟨some 64, none, .prim (.bin false .eql (.tmp 11) (.const (Go.Value.int Go.IntKind.i64 5)))⟩,
      ⟨some 63, none, .prim (.mov (.tmp 64))⟩])
    (.cond (.tmp 63)
    (.seq (.ops [⟨some 65, none, .prim (.mov (.tmp 0))⟩,
      ⟨some 66, none, .prim (.fadr 5 (.tmp 3))⟩,
      ⟨some 67, none, .prim (.load 1 false (.tmp 66))⟩,
      ⟨some 68, none, .prim (.iadrs 6 (.tmp 67) (.const (Go.Value.int Go.IntKind.i64 0)))⟩,
      ⟨some 69, none, .prim (.load 6 true (.tmp 68))⟩,
      ⟨some 70, none, .call (.func 21) [(.tmp 65), (.tmp 69)]⟩,
      ⟨some 0, none, .prim (.mov (.tmp 70))⟩])
    (.ops [⟨some 71, none, .prim (.mov (.tmp 0))⟩,
      ⟨some 72, none, .prim (.mov (.tmp 5))⟩,
      ⟨some 73, none, .prim (.mov (.tmp 0))⟩,
      ⟨some 74, none, .prim (.lenv (.tmp 73))⟩,
      ⟨some 75, none, .prim (.bin false .add (.tmp 74) (.const (Go.Value.int Go.IntKind.i64 1)))⟩,
      ⟨some 76, none, .prim (.build [.pl (.int .i64 0), .pl (.int .u64 0), .pl (.int .u64 0), .pl (.int .u64 0), .pl (.int .u64 0), .pl (.int .i64 0), .pl (.int .i64 0)] [(0, 1, (.const (Go.Value.int Go.IntKind.i64 2))), (5, 1, (.tmp 72)), (6, 1, (.tmp 75))])⟩,
      ⟨some 77, none, .prim (.bsl false 7 true 1 [.pl (.int .i64 0), .pl (.int .u64 0), .pl (.int .u64 0), .pl (.int .u64 0), .pl (.int .u64 0), .pl (.int .i64 0), .pl (.int .i64 0)] [(0, 7, (.tmp 76))])⟩,
      ⟨some 78, none, .prim (.app 7 (.tmp 71) (.tmp 77))⟩,
      ⟨some 0, none, .prim (.mov (.tmp 78))⟩]))
    (.seq (.ops [⟨some 80, none, .prim (.bin false .eql (.tmp 11) (.const (Go.Value.int Go.IntKind.i64 6)))⟩,
      ⟨some 79, none, .prim (.mov (.tmp 80))⟩])
    (.cond (.tmp 79)
    (.seq (.draw [⟨⟨some 81, none, .prim (.mov (.tmp 0))⟩, [], false, 0, 0⟩,
      ⟨⟨some 82, none, .prim (.mov (.tmp 5))⟩, [], false, 0, 0⟩,
      ⟨⟨some 83, none, .prim (.bin false .add (.tmp 82) (.const (Go.Value.int Go.IntKind.i64 1)))⟩, [1], false, 0, 0⟩,
      ⟨⟨some 84, none, .prim (.build [.pl (.int .i64 0), .pl (.int .u64 0), .pl (.int .u64 0), .pl (.int .u64 0), .pl (.int .u64 0), .pl (.int .i64 0), .pl (.int .i64 0)] [(0, 1, (.const (Go.Value.int Go.IntKind.i64 2))), (5, 1, (.tmp 83))])⟩, [1, 2], false, 0, 0⟩,
      ⟨⟨some 85, none, .prim (.bsl false 7 true 1 [.pl (.int .i64 0), .pl (.int .u64 0), .pl (.int .u64 0), .pl (.int .u64 0), .pl (.int .u64 0), .pl (.int .i64 0), .pl (.int .i64 0)] [(0, 7, (.tmp 84))])⟩, [1, 2, 3], false, 0, 0⟩,
      ⟨⟨some 86, none, .prim (.app 7 (.tmp 81) (.tmp 85))⟩, [0, 1, 2, 3, 4], true, 0, 0⟩,
      ⟨⟨some 87, none, .prim (.fadr 5 (.tmp 3))⟩, [], false, 0, 1⟩,
      ⟨⟨some 88, none, .prim (.load 1 false (.tmp 87))⟩, [6], false, 0, 1⟩,
      ⟨⟨some 89, none, .prim (.iadrs 6 (.tmp 88) (.const (Go.Value.int Go.IntKind.i64 0)))⟩, [6, 7], false, 0, 1⟩,
      ⟨⟨some 90, none, .prim (.load 6 true (.tmp 89))⟩, [6, 7, 8], false, 0, 1⟩,
      ⟨⟨some 91, none, .call (.func 21) [(.tmp 86), (.tmp 90)]⟩, [0, 1, 2, 3, 4, 5, 6, 7, 8, 9], true, 0, 0⟩,
      ⟨⟨some 0, none, .prim (.mov (.tmp 91))⟩, [0, 1, 2, 3, 4, 5, 6, 7, 8, 9, 10], false, 2, 2⟩])
    (.ops [⟨some 92, none, .prim (.mov (.tmp 0))⟩,
      ⟨some 93, none, .prim (.mov (.tmp 5))⟩,
      ⟨some 94, none, .prim (.mov (.tmp 0))⟩,
      ⟨some 95, none, .prim (.lenv (.tmp 94))⟩,
      ⟨some 96, none, .prim (.iadrs 7 (.tmp 92) (.tmp 93))⟩,
      ⟨some 97, none, .prim (.fadr 6 (.tmp 96))⟩,
      ⟨none, none, .prim (.store 1 (.tmp 97) (.tmp 95))⟩]))
    .skip))))))))))))))
    (.seq (.ops [⟨some 98, none, .prim (.mov (.tmp 0))⟩,
      ⟨some 4, none, .prim (.mov (.tmp 98))⟩])
    .ret))))
def o21 : List Tmp := []
def r21 : List RV := [.tmp 4]
theorem t21 : Text Try.prog 21 o21 c21 r21 99 := ⟨⟨Try.f21, _, by kernel_rfl, by kernel_rfl, rfl, by kernel_rfl, by kernel_rfl, rfl⟩, by kernel_rfl⟩

/-- slices.ContainsFunc[[]sordine/api.Step,sordine/api.Step] -/
def c22 : ACode :=
  (.seq (.ops [⟨some 4, none, .prim (.mov (.const (Go.Value.bool Bool.false)))⟩])
    (.seq (.ops [⟨some 5, none, .prim (.mov (.tmp 0))⟩,
      ⟨some 6, none, .prim (.mov (.tmp 1))⟩,
      ⟨some 7, none, .call (.func 35) [(.tmp 5), (.tmp 6)]⟩,
      ⟨some 8, none, .prim (.bin false .geq (.tmp 7) (.const (Go.Value.int Go.IntKind.i64 0)))⟩,
      ⟨some 4, none, .prim (.mov (.tmp 8))⟩])
    .ret))
def o22 : List Tmp := []
def r22 : List RV := [.tmp 4]
theorem t22 : Text Try.prog 22 o22 c22 r22 9 := ⟨⟨Try.f22, _, by kernel_rfl, by kernel_rfl, rfl, by kernel_rfl, by kernel_rfl, rfl⟩, by kernel_rfl⟩

/-- sordine/prog.Check$1 -/
def c23 : ACode :=
  (.seq (.ops [⟨some 2, none, .prim (.boxr (.tmp 0))⟩,
      ⟨some 3, none, .prim (.mov (.const (Go.Value.bool Bool.false)))⟩])
    (.seq (.ops [⟨some 4, none, .prim (.load 7 true (.tmp 2))⟩,
      ⟨some 5, none, .prim (.load 1 false (.tmp 1))⟩,
      ⟨some 6, none, .prim (.lenv (.tmp 5))⟩,
      ⟨some 7, none, .call (.func 24) [(.tmp 4), (.tmp 6), (.const (Go.Value.bool Bool.false))]⟩,
      ⟨some 8, none, .prim (.un .not (.tmp 7))⟩,
      ⟨some 3, none, .prim (.mov (.tmp 8))⟩])
    .ret))
def o23 : List Tmp := []
def r23 : List RV := [.tmp 3]
theorem t23 : Text Try.prog 23 o23 c23 r23 9 := ⟨⟨Try.f23, _, by kernel_rfl, by kernel_rfl, rfl, by kernel_rfl, by kernel_rfl, rfl⟩, by kernel_rfl⟩

/-- sordine/prog.right -/
def c24 : ACode :=
  (.seq (.ops [⟨some 3, none, .prim (.boxr (.tmp 0))⟩,
      ⟨some 4, none, .prim (.boxr (.tmp 1))⟩,
      ⟨some 6, none, .prim (.mov (.const (Go.Value.bool Bool.false)))⟩])
    (.seq (.ops [⟨some 8, none, .prim (.mkfn 36 [] [(.tmp 4)])⟩,
      ⟨some 7, none, .prim (.mov (.tmp 8))⟩])
    (.seq (.seq (.ops [⟨some 9, none, .prim (.fadr 0 (.tmp 3))⟩,
      ⟨some 10, none, .prim (.load 1 false (.tmp 9))⟩,
      ⟨some 11, none, .prim (.bin false .neq (.tmp 10) (.const (Go.Value.int Go.IntKind.i64 1)))⟩,
      ⟨some 12, none, .prim (.mov (.tmp 11))⟩,
      ⟨some 13, (some (12, true)), .prim (.fadr 1 (.tmp 3))⟩,
      ⟨some 14, (some (12, true)), .prim (.load 4 true (.tmp 13))⟩,
      ⟨some 15, (some (12, true)), .prim (.build [.pl (.int .u64 0), .pl (.int .u64 0), .pl (.int .u64 0), .pl (.int .u64 0)] [])⟩,
      ⟨some 16, (some (12, true)), .prim (.eqa true [.int, .int, .int, .int] (.tmp 14) (.tmp 15))⟩,
      ⟨some 17, none, .prim (.pick (.tmp 12) (.tmp 16) (.const (Go.Value.bool Bool.false)))⟩])
    (.cond (.tmp 17)
    (.seq (.ops [⟨some 6, none, .prim (.mov (.const (Go.Value.bool Bool.false)))⟩])
    .ret)
    .skip))
    (.seq (.seq (.ops [⟨some 18, none, .prim (.fadr 0 (.tmp 3))⟩,
      ⟨some 19, none, .prim (.load 1 false (.tmp 18))⟩])
    (.block 0 (.seq (.ops [⟨some 21, none, .prim (.bin false .eql (.tmp 19) (.const (Go.Value.int Go.IntKind.i64 1)))⟩,
      ⟨some 20, none, .prim (.mov (.tmp 21))⟩])
    (.cond (.tmp 20)
    (.seq (.ops [⟨some 22, none, .prim (.fadr 5 (.tmp 3))⟩,
      ⟨some 23, none, .prim (.load 1 false (.tmp 22))⟩,
      ⟨some 24, none, .prim (.bin false .eql (.tmp 23) (.const (Go.Value.int Go.IntKind.i64 0)))⟩,
      ⟨some 25, none, .prim (.mov (.tmp 24))⟩,
      ⟨some 26, (some (25, true)), .prim (.fadr 6 (.tmp 3))⟩,
      ⟨some 27, (some (25, true)), .prim (.load 1 false (.tmp 26))⟩,
      ⟨some 28, (some (25, true)), .prim (.bin false .eql (.tmp 27) (.const (Go.Value.int Go.IntKind.i64 0)))⟩,
      ⟨some 29, none, .prim (.pick (.tmp 25) (.tmp 28) (.const (Go.Value.bool Bool.false)))⟩,
      ⟨some 30, none, .prim (.mov (.tmp 29))⟩,
      ⟨some 31, (some (30, true)), .prim (.mov (.tmp 2))⟩,
      ⟨some 32, (some (30, true)), .prim (.un .not (.tmp 31))⟩,
      ⟨some 33, none, .prim (.pick (.tmp 30) (.tmp 32) (.const (Go.Value.bool Bool.false)))⟩,
      ⟨some 6, none, .prim (.mov (.tmp 33))⟩])
    .ret)
    (.seq (.ops [⟨some 35, none, .prim (.bin false .eql (.tmp 19) (.const (Go.Value.int Go.IntKind.i64 2)))⟩,
      ⟨some 34, none, .prim (.mov (.tmp 35))⟩])
    (.cond (.tmp 34)
    (.seq (.ops [⟨some 36, none, .prim (.mov (.tmp 7))⟩,
      ⟨some 37, none, .prim (.fadr 5 (.tmp 3))⟩,
      ⟨some 38, none, .prim (.load 1 false (.tmp 37))⟩,
      ⟨some 39, none, .call (.tmp 36) [(.tmp 38)]⟩,
      ⟨some 40, none, .prim (.mov (.tmp 39))⟩,
      ⟨some 41, (some (40, true)), .prim (.mov (.tmp 7))⟩,
      ⟨some 42, (some (40, true)), .prim (.fadr 6 (.tmp 3))⟩,
      ⟨some 43, (some (40, true)), .prim (.load 1 false (.tmp 42))⟩,
      ⟨some 44, (some (40, true)), .call (.tmp 41) [(.tmp 43)]⟩,
      ⟨some 45, none, .prim (.pick (.tmp 40) (.tmp 44) (.const (Go.Value.bool Bool.false)))⟩,
      ⟨some 6, none, .prim (.mov (.tmp 45))⟩])
    .ret)
    (.seq (.ops [⟨some 47, none, .prim (.bin false .eql (.tmp 19) (.const (Go.Value.int Go.IntKind.i64 3)))⟩,
      ⟨some 46, none, .prim (.mov (.tmp 47))⟩])
    (.cond (.tmp 46)
    (.seq (.ops [⟨some 48, none, .prim (.mov (.tmp 7))⟩,
      ⟨some 49, none, .prim (.fadr 5 (.tmp 3))⟩,
      ⟨some 50, none, .prim (.load 1 false (.tmp 49))⟩,
      ⟨some 51, none, .call (.tmp 48) [(.tmp 50)]⟩,
      ⟨some 52, none, .prim (.mov (.tmp 51))⟩,
      ⟨some 53, (some (52, true)), .prim (.fadr 6 (.tmp 3))⟩,
      ⟨some 54, (some (52, true)), .prim (.load 1 false (.tmp 53))⟩,
      ⟨some 55, (some (52, true)), .prim (.bin false .eql (.tmp 54) (.const (Go.Value.int Go.IntKind.i64 0)))⟩,
      ⟨some 56, none, .prim (.pick (.tmp 52) (.tmp 55) (.const (Go.Value.bool Bool.false)))⟩,
      ⟨some 6, none, .prim (.mov (.tmp 56))⟩])
    .ret)
    .skip))))))))
    (.seq (.ops [⟨some 57, none, .prim (.fadr 0 (.tmp 3))⟩,
      ⟨some 58, none, .prim (.load 1 false (.tmp 57))⟩,
      ⟨some 59, none, .prim (.bin false .eql (.tmp 58) (.const (Go.Value.int Go.IntKind.i64 4)))⟩,
      ⟨some 60, none, .prim (.mov (.tmp 59))⟩,
      ⟨some 61, (some (60, true)), .prim (.fadr 5 (.tmp 3))⟩,
      ⟨some 62, (some (60, true)), .prim (.load 1 false (.tmp 61))⟩,
      ⟨some 63, (some (60, true)), .prim (.bin false .eql (.tmp 62) (.const (Go.Value.int Go.IntKind.i64 0)))⟩,
      ⟨some 64, none, .prim (.pick (.tmp 60) (.tmp 63) (.const (Go.Value.bool Bool.false)))⟩,
      ⟨some 65, none, .prim (.mov (.tmp 64))⟩,
      ⟨some 66, (some (65, true)), .prim (.fadr 6 (.tmp 3))⟩,
      ⟨some 67, (some (65, true)), .prim (.load 1 false (.tmp 66))⟩,
      ⟨some 68, (some (65, true)), .prim (.bin false .eql (.tmp 67) (.const (Go.Value.int Go.IntKind.i64 0)))⟩,
      ⟨some 69, none, .prim (.pick (.tmp 65) (.tmp 68) (.const (Go.Value.bool Bool.false)))⟩,
      ⟨some 6, none, .prim (.mov (.tmp 69))⟩])
    .ret)))))
def o24 : List Tmp := []
def r24 : List RV := [.tmp 6]
theorem t24 : Text Try.prog 24 o24 c24 r24 70 := ⟨⟨Try.f24, _, by kernel_rfl, by kernel_rfl, rfl, by kernel_rfl, by kernel_rfl, rfl⟩, by kernel_rfl⟩

/-- sordine/sordineref5.lay -/
def c25 : ACode :=
  (.seq (.ops [⟨some 3, none, .prim (.boxr (.tmp 1))⟩,
      ⟨some 4, none, .prim (.mov (.const (Go.Value.slice Option.none 0 0)))⟩])
    (.seq (.ops [⟨some 10, none, .prim (.mov (.tmp 0))⟩,
      ⟨some 11, none, .prim (.lenv (.tmp 10))⟩,
      ⟨some 5, none, .prim (.mov (.tmp 11))⟩])
    (.seq (.seq (.ops [⟨some 12, none, .prim (.fadr 0 (.tmp 3))⟩,
      ⟨some 13, none, .prim (.load 1 false (.tmp 12))⟩])
    (.block 0 (.seq (.ops [⟨some 15, none, .prim (.bin false .eql (.tmp 13) (.const (Go.Value.int Go.IntKind.i64 1)))⟩,
      ⟨some 14, none, .prim (.mov (.tmp 15))⟩])
    (.cond (.tmp 14)
    (.seq (.ops [⟨some 16, none, .prim (.mov (.tmp 0))⟩,
      ⟨some 17, none, .prim (.fadr 1 (.tmp 3))⟩,
      ⟨some 18, none, .prim (.load 4 true (.tmp 17))⟩,
      ⟨some 19, none, .prim (.build [.pl (.int .i64 0), .pl (.int .u64 0), .pl (.int .u64 0), .pl (.int .u64 0), .pl (.int .u64 0), .pl (.int .i64 0), .pl (.int .i64 0)] [(0, 1, (.const (Go.Value.int Go.IntKind.i64 1))), (1, 4, (.tmp 18))])⟩,
      ⟨some 20, none, .prim (.bsl false 7 true 1 [.pl (.int .i64 0), .pl (.int .u64 0), .pl (.int .u64 0), .pl (.int .u64 0), .pl (.int .u64 0), .pl (.int .i64 0), .pl (.int .i64 0)] [(0, 7, (.tmp 19))])⟩,
      ⟨some 21, none, .prim (.app 7 (.tmp 16) (.tmp 20))⟩,
      ⟨some 4, none, .prim (.mov (.tmp 21))⟩])
    .ret)
    (.seq (.ops [⟨some 23, none, .prim (.bin false .eql (.tmp 13) (.const (Go.Value.int Go.IntKind.i64 2)))⟩,
      ⟨some 22, none, .prim (.mov (.tmp 23))⟩])
    (.cond (.tmp 22)
    (.seq (.seq (.ops [⟨some 6, none, .prim (.mov (.const (Go.Value.int Go.IntKind.i64 0)))⟩])
    (.block 1 (.loop [1, 2, 4, 5, 7, 8, 9, 10, 11, 12, 13, 14, 15, 16, 17, 18, 19, 20, 21, 22, 23, 24, 25, 26, 27, 28, 29, 30, 31, 32, 33, 34, 35, 36, 37, 38, 39, 40, 41, 42, 43, 44, 45, 46, 47, 48, 49, 50, 51, 52, 53, 54, 55, 56, 57, 58, 59, 60, 61, 62, 63, 64, 65, 66, 67, 68, 69, 70, 71, 72, 73, 74, 75, 76, 77, 78, 79, 80, 81, 82, 83, 84, 85, 86, 87, 88, 89, 90, 91, 92, 93, 94, 95, 96, 97, 98, 99, 100, 101, 102, 103, 104, 105, 106, 107, 108, 109, 110, 111, 112, 113, 114, 115, 116, 117, 118, 119, 120, 121, 122, 123, 124, 125, 126, 127, 128, 129, 130, 131, 132, 133, 134, 135, 136, 137, 138, 139, 140, 141, 142, 143, 144, 145, 146, 147, 148, 149, 150, 151, 152] (.seq (.seq (.ops [⟨some 24, none, .prim (.mov (.tmp 6))⟩,
      ⟨some 25, none, .prim (.fadr 5 (.tmp 3))⟩,
      ⟨some 26, none, .prim (.load 1 false (.tmp 25))⟩,
      ⟨some 27, none, .prim (.lenv (.tmp 26))⟩,
      ⟨some 28, none, .prim (.bin false .lss (.tmp 24) (.tmp 27))⟩])
    (.cond (.tmp 28)
    .skip
    (.exit 1)))
    (.seq (.block 2 (.ops [⟨some 31, none, .prim (.mov (.tmp 0))⟩,
      ⟨some 32, none, .prim (.fadr 5 (.tmp 3))⟩,
      ⟨some 33, none, .prim (.load 1 false (.tmp 32))⟩,
      ⟨some 34, none, .prim (.mov (.tmp 6))⟩,
      ⟨some 35, none, .prim (.iadrs 6 (.tmp 33) (.tmp 34))⟩,
      ⟨some 36, none, .prim (.load 6 true (.tmp 35))⟩,
      ⟨some 37, none, .call (.func 25) [(.tmp 31), (.tmp 36)]⟩,
      ⟨some 0, none, .prim (.mov (.tmp 37))⟩]))
    (.ops [⟨some 29, none, .prim (.mov (.tmp 6))⟩,
      ⟨some 30, none, .prim (.bin false .add (.tmp 29) (.const (Go.Value.int Go.IntKind.i64 1)))⟩,
      ⟨some 6, none, .prim (.mov (.tmp 30))⟩]))))))
    (.seq (.ops [⟨some 38, none, .prim (.mov (.tmp 0))⟩,
      ⟨some 4, none, .prim (.mov (.tmp 38))⟩])
    .ret))
    (.seq (.ops [⟨some 40, none, .prim (.bin false .eql (.tmp 13) (.const (Go.Value.int Go.IntKind.i64 3)))⟩,
      ⟨some 39, none, .prim (.mov (.tmp 40))⟩])
    (.cond (.tmp 39)
    (.seq (.ops [⟨some 41, none, .prim (.mov (.tmp 5))⟩,
      ⟨some 42, none, .prim (.load 6 true (.tmp 3))⟩,
      ⟨some 43, none, .call (.func 28) [(.tmp 42)]⟩,
      ⟨some 44, none, .prim (.bin false .add (.tmp 41) (.tmp 43))⟩,
      ⟨some 7, none, .prim (.mov (.tmp 44))⟩])
    (.seq (.seq (.ops [⟨some 8, none, .prim (.mov (.const (Go.Value.int Go.IntKind.i64 0)))⟩])
    (.block 3 (.loop [1, 2, 4, 5, 6, 9, 10, 11, 12, 13, 14, 15, 16, 17, 18, 19, 20, 21, 22, 23, 24, 25, 26, 27, 28, 29, 30, 31, 32, 33, 34, 35, 36, 37, 38, 39, 40, 41, 42, 43, 44, 45, 46, 47, 48, 49, 50, 51, 52, 53, 54, 55, 56, 57, 58, 59, 60, 61, 62, 63, 64, 65, 66, 67, 68, 69, 70, 71, 72, 73, 74, 75, 76, 77, 78, 79, 80, 81, 82, 83, 84, 85, 86, 87, 88, 89, 90, 91, 92, 93, 94, 95, 96, 97, 98, 99, 100, 101, 102, 103, 104, 105, 106, 107, 108, 109, 110, 111, 112, 113, 114, 115, 116, 117, 118, 119, 120, 121, 122, 123, 124, 125, 126, 127, 128, 129, 130, 131, 132, 133, 134, 135, 136, 137, 138, 139, 140, 141, 142, 143, 144, 145, 146, 147, 148, 149, 150, 151, 152] (.seq (.seq (.ops [⟨some 45, none, .prim (.mov (.tmp 8))⟩,
      ⟨some 46, none, .prim (.fadr 5 (.tmp 3))⟩,
      ⟨some 47, none, .prim (.load 1 false (.tmp 46))⟩,
      ⟨some 48, none, .prim (.lenv (.tmp 47))⟩,
      ⟨some 49, none, .prim (.bin false .sub (.tmp 48) (.const (Go.Value.int Go.IntKind.i64 1)))⟩,
      ⟨some 50, none, .prim (.bin false .lss (.tmp 45) (.tmp 49))⟩])
    (.cond (.tmp 50)
    .skip
    (.exit 3)))
    (.seq (.block 4 (.seq (.ops [⟨some 53, none, .prim (.mov (.tmp 0))⟩,
      ⟨some 54, none, .prim (.lenv (.tmp 53))⟩,
      ⟨some 9, none, .prim (.mov (.tmp 54))⟩])
    (.seq (.ops [⟨some 55, none, .prim (.mov (.tmp 0))⟩,
      ⟨some 56, none, .prim (.mov (.tmp 9))⟩,
      ⟨some 57, none, .prim (.bin false .add (.tmp 56) (.const (Go.Value.int Go.IntKind.i64 1)))⟩,
      ⟨some 58, none, .prim (.mov (.tmp 9))⟩,
      ⟨some 59, none, .prim (.bin false .add (.tmp 58) (.const (Go.Value.int Go.IntKind.i64 2)))⟩,
      ⟨some 60, none, .prim (.fadr 5 (.tmp 3))⟩,
      ⟨some 61, none, .prim (.load 1 false (.tmp 60))⟩,
      ⟨some 62, none, .prim (.mov (.tmp 8))⟩,
      ⟨some 63, none, .prim (.iadrs 6 (.tmp 61) (.tmp 62))⟩,
      ⟨some 64, none, .prim (.load 6 true (.tmp 63))⟩,
      ⟨some 65, none, .call (.func 28) [(.tmp 64)]⟩,
      ⟨some 66, none, .prim (.bin false .add (.tmp 59) (.tmp 65))⟩,
      ⟨some 67, none, .prim (.build [.pl (.int .i64 0), .pl (.int .u64 0), .pl (.int .u64 0), .pl (.int .u64 0), .pl (.int .u64 0), .pl (.int .i64 0), .pl (.int .i64 0)] [(0, 1, (.const (Go.Value.int Go.IntKind.i64 2))), (5, 1, (.tmp 57)), (6, 1, (.tmp 66))])⟩,
      ⟨some 68, none, .prim (.bsl false 7 true 1 [.pl (.int .i64 0), .pl (.int .u64 0), .pl (.int .u64 0), .pl (.int .u64 0), .pl (.int .u64 0), .pl (.int .i64 0), .pl (.int .i64 0)] [(0, 7, (.tmp 67))])⟩,
      ⟨some 69, none, .prim (.app 7 (.tmp 55) (.tmp 68))⟩,
      ⟨some 0, none, .prim (.mov (.tmp 69))⟩])
    (.ops [⟨some 70, none, .prim (.mov (.tmp 0))⟩,
      ⟨some 71, none, .prim (.fadr 5 (.tmp 3))⟩,
      ⟨some 72, none, .prim (.load 1 false (.tmp 71))⟩,
      ⟨some 73, none, .prim (.mov (.tmp 8))⟩,
      ⟨some 74, none, .prim (.iadrs 6 (.tmp 72) (.tmp 73))⟩,
      ⟨some 75, none, .prim (.load 6 true (.tmp 74))⟩,
      ⟨some 76, none, .call (.func 25) [(.tmp 70), (.tmp 75)]⟩,
      ⟨some 77, none, .prim (.mov (.tmp 7))⟩,
      ⟨some 78, none, .prim (.build [.pl (.int .i64 0), .pl (.int .u64 0), .pl (.int .u64 0), .pl (.int .u64 0), .pl (.int .u64 0), .pl (.int .i64 0), .pl (.int .i64 0)] [(0, 1, (.const (Go.Value.int Go.IntKind.i64 3))), (5, 1, (.tmp 77))])⟩,
      ⟨some 79, none, .prim (.bsl false 7 true 1 [.pl (.int .i64 0), .pl (.int .u64 0), .pl (.int .u64 0), .pl (.int .u64 0), .pl (.int .u64 0), .pl (.int .i64 0), .pl (.int .i64 0)] [(0, 7, (.tmp 78))])⟩,
      ⟨some 80, none, .prim (.app 7 (.tmp 76) (.tmp 79))⟩,
      ⟨some 0, none, .prim (.mov (.tmp 80))⟩]))))
    (.ops [⟨some 51, none, .prim (.mov (.tmp 8))⟩,
      ⟨some 52, none, .prim (.bin false .add (.tmp 51) (.const (Go.Value.int Go.IntKind.i64 1)))⟩,
      ⟨some 8, none, .prim (.mov (.tmp 52))⟩]))))))
    (.seq (.ops [⟨some 81, none, .prim (.mov (.tmp 0))⟩,
      ⟨some 82, none, .prim (.fadr 5 (.tmp 3))⟩,
      ⟨some 83, none, .prim (.load 1 false (.tmp 82))⟩,
      ⟨some 84, none, .prim (.fadr 5 (.tmp 3))⟩,
      ⟨some 85, none, .prim (.load 1 false (.tmp 84))⟩,
      ⟨some 86, none, .prim (.lenv (.tmp 85))⟩,
      ⟨some 87, none, .prim (.bin false .sub (.tmp 86) (.const (Go.Value.int Go.IntKind.i64 1)))⟩,
      ⟨some 88, none, .prim (.iadrs 6 (.tmp 83) (.tmp 87))⟩,
      ⟨some 89, none, .prim (.load 6 true (.tmp 88))⟩,
      ⟨some 90, none, .call (.func 25) [(.tmp 81), (.tmp 89)]⟩,
      ⟨some 4, none, .prim (.mov (.tmp 90))⟩])
    .ret)))
    (.seq (.ops [⟨some 92, none, .prim (.bin false .eql (.tmp 13) (.const (Go.Value.int Go.IntKind.i64 4)))⟩,
      ⟨some 91, none, .prim (.mov (.tmp 92))⟩])
    (.cond (.tmp 91)
    (.seq (.ops [⟨some 93, none, .prim (.mov (.tmp 0))⟩,
      ⟨some 94, none, .prim (.mov (.tmp 5))⟩,
      ⟨some 95, none, .prim (.bin false .add (.tmp 94) (.const (Go.Value.int Go.IntKind.i64 1)))⟩,
      ⟨some 96, none, .prim (.mov (.tmp 5))⟩,
      ⟨some 97, none, .prim (.bin false .add (.tmp 96) (.const (Go.Value.int Go.IntKind.i64 2)))⟩,
      ⟨some 98, none, .prim (.fadr 5 (.tmp 3))⟩,
      ⟨some 99, none, .prim (.load 1 false (.tmp 98))⟩,
      ⟨some 100, none, .prim (.iadrs 6 (.tmp 99) (.const (Go.Value.int Go.IntKind.i64 0)))⟩,
      ⟨some 101, none, .prim (.load 6 true (.tmp 100))⟩,
      ⟨some 102, none, .call (.func 28) [(.tmp 101)]⟩,
      ⟨some 103, none, .prim (.bin false .add (.tmp 97) (.tmp 102))⟩,
      ⟨some 104, none, .prim (.build [.pl (.int .i64 0), .pl (.int .u64 0), .pl (.int .u64 0), .pl (.int .u64 0), .pl (.int .u64 0), .pl (.int .i64 0), .pl (.int .i64 0)] [(0, 1, (.const (Go.Value.int Go.IntKind.i64 2))), (5, 1, (.tmp 95)), (6, 1, (.tmp 103))])⟩,
      ⟨some 105, none, .prim (.bsl false 7 true 1 [.pl (.int .i64 0), .pl (.int .u64 0), .pl (.int .u64 0), .pl (.int .u64 0), .pl (.int .u64 0), .pl (.int .i64 0), .pl (.int .i64 0)] [(0, 7, (.tmp 104))])⟩,
      ⟨some 106, none, .prim (.app 7 (.tmp 93) (.tmp 105))⟩,
      ⟨some 0, none, .prim (.mov (.tmp 106))⟩])
    (.seq (.ops [⟨some 107, none, .prim (.mov (.tmp 0))⟩,
      ⟨some 108, none, .prim (.fadr 5 (.tmp 3))⟩,
      ⟨some 109, none, .prim (.load 1 false (.tmp 108))⟩,
      ⟨some 110, none, .prim (.iadrs 6 (.tmp 109) (.const (Go.Value.int Go.IntKind.i64 0)))⟩,
      ⟨some 111, none, .prim (.load 6 true (.tmp 110))⟩,
      ⟨some 112, none, .call (.func 25) [(.tmp 107), (.tmp 111)]⟩,
      ⟨some 113, none, .prim (.mov (.tmp 5))⟩,
      ⟨some 114, none, .prim (.build [.pl (.int .i64 0), .pl (.int .u64 0), .pl (.int .u64 0), .pl (.int .u64 0), .pl (.int .u64 0), .pl (.int .i64 0), .pl (.int .i64 0)] [(0, 1, (.const (Go.Value.int Go.IntKind.i64 3))), (5, 1, (.tmp 113))])⟩,
      ⟨some 115, none, .prim (.bsl false 7 true 1 [.pl (.int .i64 0), .pl (.int .u64 0), .pl (.int .u64 0), .pl (.int .u64 0), .pl (.int .u64 0), .pl (.int .i64 0), .pl (.int .i64 0)] [(0, 7, (.tmp 114))])⟩,
      ⟨some 116, none, .prim (.app 7 (.tmp 112) (.tmp 115))⟩,
      ⟨some 4, none, .prim (.mov (.tmp 116))⟩])
    .ret))
    (.seq (.ops [⟨some 118, none, .prim (.bin false .eql (.tmp 13) (.const (Go.Value.int Go.IntKind.i64 5)))⟩,
      ⟨some 117, none, .prim (.mov (.tmp 118))⟩])
    (.cond (.tmp 117)
    (.seq (.ops [⟨some 119, none, .prim (.mov (.tmp 0))⟩,
      ⟨some 120, none, .prim (.fadr 5 (.tmp 3))⟩,
      ⟨some 121, none, .prim (.load 1 false (.tmp 120))⟩,
      ⟨some 122, none, .prim (.iadrs 6 (.tmp 121) (.const (Go.Value.int Go.IntKind.i64 0)))⟩,
      ⟨some 123, none, .prim (.load 6 true (.tmp 122))⟩,
      ⟨some 124, none, .call (.func 25) [(.tmp 119), (.tmp 123)]⟩,
      ⟨some 0, none, .prim (.mov (.tmp 124))⟩])
    (.seq (.ops [⟨some 125, none, .prim (.mov (.tmp 0))⟩,
      ⟨some 126, none, .prim (.mov (.tmp 5))⟩,
      ⟨some 127, none, .prim (.mov (.tmp 0))⟩,
      ⟨some 128, none, .prim (.lenv (.tmp 127))⟩,
      ⟨some 129, none, .prim (.bin false .add (.tmp 128) (.const (Go.Value.int Go.IntKind.i64 1)))⟩,
      ⟨some 130, none, .prim (.build [.pl (.int .i64 0), .pl (.int .u64 0), .pl (.int .u64 0), .pl (.int .u64 0), .pl (.int .u64 0), .pl (.int .i64 0), .pl (.int .i64 0)] [(0, 1, (.const (Go.Value.int Go.IntKind.i64 2))), (5, 1, (.tmp 126)), (6, 1, (.tmp 129))])⟩,
      ⟨some 131, none, .prim (.bsl false 7 true 1 [.pl (.int .i64 0), .pl (.int .u64 0), .pl (.int .u64 0), .pl (.int .u64 0), .pl (.int .u64 0), .pl (.int .i64 0), .pl (.int .i64 0)] [(0, 7, (.tmp 130))])⟩,
      ⟨some 132, none, .prim (.app 7 (.tmp 125) (.tmp 131))⟩,
      ⟨some 4, none, .prim (.mov (.tmp 132))⟩])
    .ret))
    .skip))))))))))))
    (.seq (.ops [⟨some 133, none, .prim (.mov (.tmp 0))⟩,
      ⟨some 134, none, .prim (.mov (.tmp 5))⟩,
      ⟨some 135, none, .prim (.bin false .add (.tmp 134) (.const (Go.Value.int Go.IntKind.i64 1)))⟩,
      ⟨some 136, none, .prim (.mov (.tmp 5))⟩,
      ⟨some 137, none, .prim (.bin false .add (.tmp 136) (.const (Go.Value.int Go.IntKind.i64 1)))⟩,
      ⟨some 138, none, .prim (.fadr 5 (.tmp 3))⟩,
      ⟨some 139, none, .prim (.load 1 false (.tmp 138))⟩,
      ⟨some 140, none, .prim (.iadrs 6 (.tmp 139) (.const (Go.Value.int Go.IntKind.i64 0)))⟩,
      ⟨some 141, none, .prim (.load 6 true (.tmp 140))⟩,
      ⟨some 142, none, .call (.func 28) [(.tmp 141)]⟩,
      ⟨some 143, none, .prim (.bin false .add (.tmp 137) (.tmp 142))⟩,
      ⟨some 144, none, .prim (.build [.pl (.int .i64 0), .pl (.int .u64 0), .pl (.int .u64 0), .pl (.int .u64 0), .pl (.int .u64 0), .pl (.int .i64 0), .pl (.int .i64 0)] [(0, 1, (.const (Go.Value.int Go.IntKind.i64 2))), (5, 1, (.tmp 135)), (6, 1, (.tmp 143))])⟩,
      ⟨some 145, none, .prim (.bsl false 7 true 1 [.pl (.int .i64 0), .pl (.int .u64 0), .pl (.int .u64 0), .pl (.int .u64 0), .pl (.int .u64 0), .pl (.int .i64 0), .pl (.int .i64 0)] [(0, 7, (.tmp 144))])⟩,
      ⟨some 146, none, .prim (.app 7 (.tmp 133) (.tmp 145))⟩,
      ⟨some 0, none, .prim (.mov (.tmp 146))⟩])
    (.seq (.ops [⟨some 147, none, .prim (.mov (.tmp 0))⟩,
      ⟨some 148, none, .prim (.fadr 5 (.tmp 3))⟩,
      ⟨some 149, none, .prim (.load 1 false (.tmp 148))⟩,
      ⟨some 150, none, .prim (.iadrs 6 (.tmp 149) (.const (Go.Value.int Go.IntKind.i64 0)))⟩,
      ⟨some 151, none, .prim (.load 6 true (.tmp 150))⟩,
      ⟨some 152, none, .call (.func 25) [(.tmp 147), (.tmp 151)]⟩,
      ⟨some 4, none, .prim (.mov (.tmp 152))⟩])
    .ret)))))
def o25 : List Tmp := []
def r25 : List RV := [.tmp 4]
theorem t25 : Text Try.prog 25 o25 c25 r25 153 := ⟨⟨Try.f25, _, by kernel_rfl, by kernel_rfl, rfl, by kernel_rfl, by kernel_rfl, rfl⟩, by kernel_rfl⟩

/-- sordine/prog.size -/
def c26 : ACode :=
  (.seq (.ops [⟨some 1, none, .prim (.boxr (.tmp 0))⟩,
      ⟨some 2, none, .prim (.mov (.const (Go.Value.int Go.IntKind.i64 0)))⟩])
    (.seq (.ops [⟨some 3, none, .prim (.mov (.const (Go.Value.int Go.IntKind.i64 0)))⟩])
    (.seq (.seq (.ops [⟨some 6, none, .prim (.fadr 5 (.tmp 1))⟩,
      ⟨some 7, none, .prim (.load 1 false (.tmp 6))⟩,
      ⟨some 8, none, .prim (.lenv (.tmp 7))⟩,
      ⟨some 9, none, .prim (.mov (.const (Go.Value.int Go.IntKind.i64 0)))⟩])
    (.block 0 (.loop [0, 2, 4, 5, 6, 10, 11, 12, 13, 14, 15, 16, 17, 18, 19, 20, 21, 22, 23, 24, 25, 26, 27, 28, 29, 30, 31, 32, 33, 34, 35, 36, 37, 38, 39, 40] (.seq (.ops [⟨some 10, none, .prim (.bin false .lss (.tmp 9) (.tmp 8))⟩])
    (.seq (.cond (.tmp 10)
    .skip
    (.exit 0))
    (.seq (.block 1 (.seq (.ops [⟨some 11, none, .prim (.iadrs 6 (.tmp 7) (.tmp 9))⟩,
      ⟨some 12, none, .prim (.load 6 true (.tmp 11))⟩,
      ⟨some 5, none, .fresh 6 5 (.tmp 12)⟩])
    (.ops [⟨some 13, none, .prim (.mov (.tmp 3))⟩,
      ⟨some 14, none, .prim (.load 6 true (.tmp 5))⟩,
      ⟨some 15, none, .call (.func 26) [(.tmp 14)]⟩,
      ⟨some 16, none, .prim (.bin false .add (.tmp 13) (.tmp 15))⟩,
      ⟨some 3, none, .prim (.mov (.tmp 16))⟩])))
    (.ops [⟨some 17, none, .prim (.bin false .add (.tmp 9) (.const (Go.Value.int Go.IntKind.i64 1)))⟩,
      ⟨some 9, none, .prim (.mov (.tmp 17))⟩])))))))
    (.seq (.seq (.ops [⟨some 18, none, .prim (.fadr 0 (.tmp 1))⟩,
      ⟨some 19, none, .prim (.load 1 false (.tmp 18))⟩])
    (.block 2 (.seq (.ops [⟨some 21, none, .prim (.bin false .eql (.tmp 19) (.const (Go.Value.int Go.IntKind.i64 1)))⟩,
      ⟨some 20, none, .prim (.mov (.tmp 21))⟩])
    (.cond (.tmp 20)
    (.seq (.ops [⟨some 2, none, .prim (.mov (.const (Go.Value.int Go.IntKind.i64 1)))⟩])
    .ret)
    (.seq (.ops [⟨some 23, none, .prim (.bin false .eql (.tmp 19) (.const (Go.Value.int Go.IntKind.i64 3)))⟩,
      ⟨some 22, none, .prim (.mov (.tmp 23))⟩])
    (.cond (.tmp 22)
    (.seq (.ops [⟨some 24, none, .prim (.mov (.tmp 3))⟩,
      ⟨some 25, none, .prim (.fadr 5 (.tmp 1))⟩,
      ⟨some 26, none, .prim (.load 1 false (.tmp 25))⟩,
      ⟨some 27, none, .prim (.lenv (.tmp 26))⟩,
      ⟨some 28, none, .prim (.bin false .sub (.tmp 27) (.const (Go.Value.int Go.IntKind.i64 1)))⟩,
      ⟨some 29, none, .prim (.bin false .mul (.const (Go.Value.int Go.IntKind.i64 2)) (.tmp 28))⟩,
      ⟨some 30, none, .prim (.bin false .add (.tmp 24) (.tmp 29))⟩,
      ⟨some 2, none, .prim (.mov (.tmp 30))⟩])
    .ret)
    (.seq (.ops [⟨some 32, none, .prim (.bin false .eql (.tmp 19) (.const (Go.Value.int Go.IntKind.i64 4)))⟩,
      ⟨some 31, none, .prim (.mov (.tmp 32))⟩])
    (.cond (.tmp 31)
    (.seq (.ops [⟨some 33, none, .prim (.mov (.tmp 3))⟩,
      ⟨some 34, none, .prim (.bin false .add (.tmp 33) (.const (Go.Value.int Go.IntKind.i64 2)))⟩,
      ⟨some 2, none, .prim (.mov (.tmp 34))⟩])
    .ret)
    (.seq (.seq (.ops [⟨some 36, none, .prim (.bin false .eql (.tmp 19) (.const (Go.Value.int Go.IntKind.i64 5)))⟩,
      ⟨some 35, none, .prim (.mov (.tmp 36))⟩])
    (.cond (.tmp 35)
    .skip
    (.ops [⟨some 37, none, .prim (.bin false .eql (.tmp 19) (.const (Go.Value.int Go.IntKind.i64 6)))⟩,
      ⟨some 35, none, .prim (.mov (.tmp 37))⟩])))
    (.cond (.tmp 35)
    (.seq (.ops [⟨some 38, none, .prim (.mov (.tmp 3))⟩,
      ⟨some 39, none, .prim (.bin false .add (.tmp 38) (.const (Go.Value.int Go.IntKind.i64 1)))⟩,
      ⟨some 2, none, .prim (.mov (.tmp 39))⟩])
    .ret)
    .skip))))))))))
    (.seq (.ops [⟨some 40, none, .prim (.mov (.tmp 3))⟩,
      ⟨some 2, none, .prim (.mov (.tmp 40))⟩])
    .ret)))))
def o26 : List Tmp := []
def r26 : List RV := [.tmp 2]
theorem t26 : Text Try.prog 26 o26 c26 r26 41 := ⟨⟨Try.f26, _, by kernel_rfl, by kernel_rfl, rfl, by kernel_rfl, by kernel_rfl, rfl⟩, by kernel_rfl⟩

/-- sordine/sordineref5.IsRex -/
def c27 : ACode :=
  (.seq (.ops [⟨some 1, none, .prim (.boxr (.tmp 0))⟩,
      ⟨some 2, none, .prim (.mov (.const (Go.Value.bool Bool.false)))⟩])
    (.seq (.ops [⟨some 5, none, .prim (.fadr 5 (.tmp 1))⟩,
      ⟨some 6, none, .prim (.load 1 false (.tmp 5))⟩,
      ⟨some 7, none, .prim (.lenv (.tmp 6))⟩,
      ⟨some 3, none, .prim (.mov (.tmp 7))⟩])
    (.seq (.seq (.ops [⟨some 8, none, .prim (.fadr 0 (.tmp 1))⟩,
      ⟨some 9, none, .prim (.load 1 false (.tmp 8))⟩])
    (.block 0 (.seq (.ops [⟨some 11, none, .prim (.bin false .eql (.tmp 9) (.const (Go.Value.int Go.IntKind.i64 1)))⟩,
      ⟨some 10, none, .prim (.mov (.tmp 11))⟩])
    (.cond (.tmp 10)
    (.seq (.ops [⟨some 12, none, .prim (.mov (.tmp 3))⟩,
      ⟨some 13, none, .prim (.bin false .eql (.tmp 12) (.const (Go.Value.int Go.IntKind.i64 0)))⟩,
      ⟨some 2, none, .prim (.mov (.tmp 13))⟩])
    .ret)
    (.seq (.ops [⟨some 15, none, .prim (.bin false .eql (.tmp 9) (.const (Go.Value.int Go.IntKind.i64 2)))⟩,
      ⟨some 14, none, .prim (.mov (.tmp 15))⟩])
    (.cond (.tmp 14)
    .skip
    (.seq (.ops [⟨some 17, none, .prim (.bin false .eql (.tmp 9) (.const (Go.Value.int Go.IntKind.i64 3)))⟩,
      ⟨some 16, none, .prim (.mov (.tmp 17))⟩])
    (.cond (.tmp 16)
    (.seq (.ops [⟨some 18, none, .prim (.mov (.tmp 3))⟩,
      ⟨some 19, none, .prim (.bin false .lss (.tmp 18) (.const (Go.Value.int Go.IntKind.i64 1)))⟩])
    (.cond (.tmp 19)
    (.seq (.ops [⟨some 2, none, .prim (.mov (.const (Go.Value.bool Bool.false)))⟩])
    .ret)
    .skip))
    (.seq (.seq (.ops [⟨some 21, none, .prim (.bin false .eql (.tmp 9) (.const (Go.Value.int Go.IntKind.i64 4)))⟩,
      ⟨some 20, none, .prim (.mov (.tmp 21))⟩])
    (.cond (.tmp 20)
    .skip
    (.seq (.ops [⟨some 22, none, .prim (.bin false .eql (.tmp 9) (.const (Go.Value.int Go.IntKind.i64 5)))⟩,
      ⟨some 20, none, .prim (.mov (.tmp 22))⟩])
    (.cond (.tmp 20)
    .skip
    (.ops [⟨some 23, none, .prim (.bin false .eql (.tmp 9) (.const (Go.Value.int Go.IntKind.i64 6)))⟩,
      ⟨some 20, none, .prim (.mov (.tmp 23))⟩])))))
    (.cond (.tmp 20)
    (.seq (.ops [⟨some 24, none, .prim (.mov (.tmp 3))⟩,
      ⟨some 25, none, .prim (.bin false .neq (.tmp 24) (.const (Go.Value.int Go.IntKind.i64 1)))⟩])
    (.cond (.tmp 25)
    (.seq (.ops [⟨some 2, none, .prim (.mov (.const (Go.Value.bool Bool.false)))⟩])
    .ret)
    .skip))
    (.seq (.ops [⟨some 2, none, .prim (.mov (.const (Go.Value.bool Bool.false)))⟩])
    .ret)))))))))))
    (.seq (.seq (.ops [⟨some 4, none, .prim (.mov (.const (Go.Value.int Go.IntKind.i64 0)))⟩])
    (.block 1 (.loop [0, 2, 5, 6, 7, 8, 9, 10, 11, 12, 13, 14, 15, 16, 17, 18, 19, 20, 21, 22, 23, 24, 25, 26, 27, 28, 29, 30, 31, 32, 33, 34, 35, 36, 37, 38, 39, 40, 41] (.seq (.seq (.ops [⟨some 26, none, .prim (.mov (.tmp 4))⟩,
      ⟨some 27, none, .prim (.mov (.tmp 3))⟩,
      ⟨some 28, none, .prim (.bin false .lss (.tmp 26) (.tmp 27))⟩])
    (.cond (.tmp 28)
    .skip
    (.exit 1)))
    (.seq (.block 2 (.seq (.ops [⟨some 31, none, .prim (.fadr 5 (.tmp 1))⟩,
      ⟨some 32, none, .prim (.load 1 false (.tmp 31))⟩,
      ⟨some 33, none, .prim (.mov (.tmp 4))⟩,
      ⟨some 34, none, .prim (.iadrs 6 (.tmp 32) (.tmp 33))⟩,
      ⟨some 35, none, .prim (.load 6 true (.tmp 34))⟩,
      ⟨some 36, none, .call (.func 27) [(.tmp 35)]⟩,
      ⟨some 37, none, .prim (.un .not (.tmp 36))⟩])
    (.cond (.tmp 37)
    (.seq (.ops [⟨some 2, none, .prim (.mov (.const (Go.Value.bool Bool.false)))⟩])
    .ret)
    .skip)))
    (.ops [⟨some 29, none, .prim (.mov (.tmp 4))⟩,
      ⟨some 30, none, .prim (.bin false .add (.tmp 29) (.const (Go.Value.int Go.IntKind.i64 1)))⟩,
      ⟨some 4, none, .prim (.mov (.tmp 30))⟩]))))))
    (.seq (.ops [⟨some 38, none, .prim (.fadr 1 (.tmp 1))⟩,
      ⟨some 39, none, .prim (.load 4 true (.tmp 38))⟩,
      ⟨some 40, none, .prim (.build [.pl (.int .u64 0), .pl (.int .u64 0), .pl (.int .u64 0), .pl (.int .u64 0)] [])⟩,
      ⟨some 41, none, .prim (.eqa false [.int, .int, .int, .int] (.tmp 39) (.tmp 40))⟩,
      ⟨some 2, none, .prim (.mov (.tmp 41))⟩])
    .ret)))))
def o27 : List Tmp := []
def r27 : List RV := [.tmp 2]
theorem t27 : Text Try.prog 27 o27 c27 r27 42 := ⟨⟨Try.f27, _, by kernel_rfl, by kernel_rfl, rfl, by kernel_rfl, by kernel_rfl, rfl⟩, by kernel_rfl⟩

/-- sordine/sordineref5.size -/
def c28 : ACode :=
  (.seq (.ops [⟨some 1, none, .prim (.boxr (.tmp 0))⟩,
      ⟨some 2, none, .prim (.mov (.const (Go.Value.int Go.IntKind.i64 0)))⟩])
    (.seq (.ops [⟨some 3, none, .prim (.mov (.const (Go.Value.int Go.IntKind.i64 0)))⟩])
    (.seq (.seq (.ops [⟨some 4, none, .prim (.mov (.const (Go.Value.int Go.IntKind.i64 0)))⟩])
    (.block 0 (.loop [0, 2, 5, 6, 7, 8, 9, 10, 11, 12, 13, 14, 15, 16, 17, 18, 19, 20, 21, 22, 23, 24, 25, 26, 27, 28, 29, 30, 31, 32, 33, 34, 35, 36, 37, 38, 39, 40, 41, 42] (.seq (.seq (.ops [⟨some 5, none, .prim (.mov (.tmp 4))⟩,
      ⟨some 6, none, .prim (.fadr 5 (.tmp 1))⟩,
      ⟨some 7, none, .prim (.load 1 false (.tmp 6))⟩,
      ⟨some 8, none, .prim (.lenv (.tmp 7))⟩,
      ⟨some 9, none, .prim (.bin false .lss (.tmp 5) (.tmp 8))⟩])
    (.cond (.tmp 9)
    .skip
    (.exit 0)))
    (.seq (.block 1 (.ops [⟨some 12, none, .prim (.mov (.tmp 3))⟩,
      ⟨some 13, none, .prim (.fadr 5 (.tmp 1))⟩,
      ⟨some 14, none, .prim (.load 1 false (.tmp 13))⟩,
      ⟨some 15, none, .prim (.mov (.tmp 4))⟩,
      ⟨some 16, none, .prim (.iadrs 6 (.tmp 14) (.tmp 15))⟩,
      ⟨some 17, none, .prim (.load 6 true (.tmp 16))⟩,
      ⟨some 18, none, .call (.func 28) [(.tmp 17)]⟩,
      ⟨some 19, none, .prim (.bin false .add (.tmp 12) (.tmp 18))⟩,
      ⟨some 3, none, .prim (.mov (.tmp 19))⟩]))
    (.ops [⟨some 10, none, .prim (.mov (.tmp 4))⟩,
      ⟨some 11, none, .prim (.bin false .add (.tmp 10) (.const (Go.Value.int Go.IntKind.i64 1)))⟩,
      ⟨some 4, none, .prim (.mov (.tmp 11))⟩]))))))
    (.seq (.seq (.ops [⟨some 20, none, .prim (.fadr 0 (.tmp 1))⟩,
      ⟨some 21, none, .prim (.load 1 false (.tmp 20))⟩])
    (.block 2 (.seq (.ops [⟨some 23, none, .prim (.bin false .eql (.tmp 21) (.const (Go.Value.int Go.IntKind.i64 1)))⟩,
      ⟨some 22, none, .prim (.mov (.tmp 23))⟩])
    (.cond (.tmp 22)
    (.seq (.ops [⟨some 2, none, .prim (.mov (.const (Go.Value.int Go.IntKind.i64 1)))⟩])
    .ret)
    (.seq (.ops [⟨some 25, none, .prim (.bin false .eql (.tmp 21) (.const (Go.Value.int Go.IntKind.i64 3)))⟩,
      ⟨some 24, none, .prim (.mov (.tmp 25))⟩])
    (.cond (.tmp 24)
    (.seq (.ops [⟨some 26, none, .prim (.mov (.tmp 3))⟩,
      ⟨some 27, none, .prim (.fadr 5 (.tmp 1))⟩,
      ⟨some 28, none, .prim (.load 1 false (.tmp 27))⟩,
      ⟨some 29, none, .prim (.lenv (.tmp 28))⟩,
      ⟨some 30, none, .prim (.bin false .sub (.tmp 29) (.const (Go.Value.int Go.IntKind.i64 1)))⟩,
      ⟨some 31, none, .prim (.bin false .mul (.const (Go.Value.int Go.IntKind.i64 2)) (.tmp 30))⟩,
      ⟨some 32, none, .prim (.bin false .add (.tmp 26) (.tmp 31))⟩,
      ⟨some 2, none, .prim (.mov (.tmp 32))⟩])
    .ret)
    (.seq (.ops [⟨some 34, none, .prim (.bin false .eql (.tmp 21) (.const (Go.Value.int Go.IntKind.i64 4)))⟩,
      ⟨some 33, none, .prim (.mov (.tmp 34))⟩])
    (.cond (.tmp 33)
    (.seq (.ops [⟨some 35, none, .prim (.mov (.tmp 3))⟩,
      ⟨some 36, none, .prim (.bin false .add (.tmp 35) (.const (Go.Value.int Go.IntKind.i64 2)))⟩,
      ⟨some 2, none, .prim (.mov (.tmp 36))⟩])
    .ret)
    (.seq (.seq (.ops [⟨some 38, none, .prim (.bin false .eql (.tmp 21) (.const (Go.Value.int Go.IntKind.i64 5)))⟩,
      ⟨some 37, none, .prim (.mov (.tmp 38))⟩])
    (.cond (.tmp 37)
    .skip
    (.ops [⟨some 39, none, .prim (.bin false .eql (.tmp 21) (.const (Go.Value.int Go.IntKind.i64 6)))⟩,
      ⟨some 37, none, .prim (.mov (.tmp 39))⟩])))
    (.cond (.tmp 37)
    (.seq (.ops [⟨some 40, none, .prim (.mov (.tmp 3))⟩,
      ⟨some 41, none, .prim (.bin false .add (.tmp 40) (.const (Go.Value.int Go.IntKind.i64 1)))⟩,
      ⟨some 2, none, .prim (.mov (.tmp 41))⟩])
    .ret)
    .skip))))))))))
    (.seq (.ops [⟨some 42, none, .prim (.mov (.tmp 3))⟩,
      ⟨some 2, none, .prim (.mov (.tmp 42))⟩])
    .ret)))))
def o28 : List Tmp := []
def r28 : List RV := [.tmp 2]
theorem t28 : Text Try.prog 28 o28 c28 r28 43 := ⟨⟨Try.f28, _, by kernel_rfl, by kernel_rfl, rfl, by kernel_rfl, by kernel_rfl, rfl⟩, by kernel_rfl⟩

/-- (*sordine/sordineref5.parser).ways -/
def c29 : ACode :=
  (.seq (.ops [⟨some 2, none, .prim (.allocm [.pl (.int .i64 0), .pl (.int .u64 0), .pl (.int .u64 0), .pl (.int .u64 0), .pl (.int .u64 0), .nils])⟩])
    (.seq (.ops [⟨some 4, none, .prim (.mov (.tmp 0))⟩,
      ⟨some 5, none, .call (.func 37) [(.tmp 4)]⟩,
      ⟨some 6, none, .prim (.bsl true 6 true 1 [.pl (.int .i64 0), .pl (.int .u64 0), .pl (.int .u64 0), .pl (.int .u64 0), .pl (.int .u64 0), .nils] [(0, 6, (.tmp 5))])⟩,
      ⟨some 3, none, .prim (.mov (.tmp 6))⟩])
    (.seq (.block 0 (.loop [1, 4, 5, 6, 7, 8, 9, 10, 11, 12, 13, 14, 15, 16, 17, 18, 19, 20, 21, 22, 23, 24, 25, 26, 27, 28, 29, 30, 31, 32, 33, 34, 35, 36, 37, 38, 39, 40] (.seq (.seq (.draw [⟨⟨some 7, none, .prim (.mov (.tmp 0))⟩, [], false, 0, 0⟩,
      ⟨⟨some 8, none, .call (.func 38) [(.tmp 7)]⟩, [0], true, 0, 0⟩,
      ⟨⟨some 9, none, .prim (.mov (.tmp 8))⟩, [0, 1], false, 1, 1⟩,
      ⟨⟨some 10, (some (9, true)), .prim (.mov (.tmp 0))⟩, [0, 1, 2], false, 1, 1⟩,
      ⟨⟨some 11, (some (9, true)), .prim (.nilc (.tmp 10))⟩, [0, 1, 2, 3], false, 1, 1⟩,
      ⟨⟨some 12, (some (9, true)), .prim (.fadr 0 (.tmp 11))⟩, [0, 1, 2, 3, 4], false, 1, 1⟩,
      ⟨⟨some 13, (some (9, true)), .prim (.load 1 false (.tmp 12))⟩, [0, 1, 2, 3, 4, 5], false, 1, 1⟩,
      ⟨⟨some 14, (some (9, true)), .prim (.mov (.tmp 0))⟩, [0, 1, 2], false, 1, 1⟩,
      ⟨⟨some 15, (some (9, true)), .prim (.nilc (.tmp 14))⟩, [0, 1, 2, 7], false, 1, 1⟩,
      ⟨⟨some 16, (some (9, true)), .prim (.fadr 1 (.tmp 15))⟩, [0, 1, 2, 7, 8], false, 1, 1⟩,
      ⟨⟨some 17, (some (9, true)), .prim (.load 1 false (.tmp 16))⟩, [0, 1, 2, 7, 8, 9], false, 1, 1⟩,
      ⟨⟨some 18, (some (9, true)), .prim (.idxs (.tmp 13) (.tmp 17))⟩, [0, 1, 2, 3, 4, 5, 6, 7, 8, 9, 10], false, 1, 1⟩,
      ⟨⟨some 19, (some (9, true)), .prim (.bin false .eql (.tmp 18) (.const (Go.Value.int Go.IntKind.u8 124)))⟩, [0, 1, 2, 3, 4, 5, 6, 7, 8, 9, 10, 11], false, 1, 1⟩,
      ⟨⟨some 20, none, .prim (.pick (.tmp 9) (.tmp 19) (.const (Go.Value.bool Bool.false)))⟩, [0, 1, 2, 3, 4, 5, 6, 7, 8, 9, 10, 11, 12], false, 1, 1⟩])
    (.cond (.tmp 20)
    .skip
    (.exit 0)))
    (.block 1 (.seq (.ops [⟨some 21, none, .prim (.mov (.tmp 0))⟩,
      ⟨some 22, none, .prim (.nilc (.tmp 21))⟩,
      ⟨some 23, none, .prim (.fadr 1 (.tmp 22))⟩,
      ⟨some 24, none, .prim (.load 1 false (.tmp 23))⟩,
      ⟨some 25, none, .prim (.bin false .add (.tmp 24) (.const (Go.Value.int Go.IntKind.i64 1)))⟩,
      ⟨some 26, none, .prim (.nilc (.tmp 21))⟩,
      ⟨some 27, none, .prim (.fadr 1 (.tmp 26))⟩,
      ⟨none, none, .prim (.store 1 (.tmp 27) (.tmp 25))⟩])
    (.ops [⟨some 28, none, .prim (.mov (.tmp 3))⟩,
      ⟨some 29, none, .prim (.mov (.tmp 0))⟩,
      ⟨some 30, none, .call (.func 37) [(.tmp 29)]⟩,
      ⟨some 31, none, .prim (.bsl false 6 true 1 [.pl (.int .i64 0), .pl (.int .u64 0), .pl (.int .u64 0), .pl (.int .u64 0), .pl (.int .u64 0), .nils] [(0, 6, (.tmp 30))])⟩,
      ⟨some 32, none, .prim (.app 6 (.tmp 28) (.tmp 31))⟩,
      ⟨some 3, none, .prim (.mov (.tmp 32))⟩]))))))
    (.seq (.seq (.ops [⟨some 33, none, .prim (.mov (.tmp 3))⟩,
      ⟨some 34, none, .prim (.lenv (.tmp 33))⟩,
      ⟨some 35, none, .prim (.bin false .eql (.tmp 34) (.const (Go.Value.int Go.IntKind.i64 1)))⟩])
    (.cond (.tmp 35)
    (.seq (.ops [⟨some 36, none, .prim (.mov (.tmp 3))⟩,
      ⟨some 37, none, .prim (.iadrs 6 (.tmp 36) (.const (Go.Value.int Go.IntKind.i64 0)))⟩,
      ⟨some 38, none, .prim (.load 6 true (.tmp 37))⟩,
      ⟨none, none, .prim (.store 6 (.tmp 2) (.tmp 38))⟩])
    .ret)
    .skip))
    (.seq (.ghost (.shut 3) (.ops [⟨some 39, none, .prim (.mov (.tmp 3))⟩,
      ⟨some 40, none, .prim (.build [.pl (.int .i64 0), .pl (.int .u64 0), .pl (.int .u64 0), .pl (.int .u64 0), .pl (.int .u64 0), .nils] [(0, 1, (.const (Go.Value.int Go.IntKind.i64 3))), (5, 1, (.tmp 39))])⟩,
      ⟨none, none, .prim (.store 6 (.tmp 2) (.tmp 40))⟩]))
    .ret)))))
def o29 : List Tmp := [2, 6]
def r29 : List RV := [.cell 2 6 true]
theorem t29 : Text Try.prog 29 o29 c29 r29 41 := ⟨⟨Try.f29, _, by kernel_rfl, by kernel_rfl, rfl, by kernel_rfl, by kernel_rfl, rfl⟩, by kernel_rfl⟩

/-- slices.ContainsFunc[[]sordine/api.Rex,sordine/api.Rex] -/
def c30 : ACode :=
  (.seq (.ops [⟨some 4, none, .prim (.mov (.const (Go.Value.bool Bool.false)))⟩])
    (.seq (.ops [⟨some 5, none, .prim (.mov (.tmp 0))⟩,
      ⟨some 6, none, .prim (.mov (.tmp 1))⟩,
      ⟨some 7, none, .call (.func 39) [(.tmp 5), (.tmp 6)]⟩,
      ⟨some 8, none, .prim (.bin false .geq (.tmp 7) (.const (Go.Value.int Go.IntKind.i64 0)))⟩,
      ⟨some 4, none, .prim (.mov (.tmp 8))⟩])
    .ret))
def o30 : List Tmp := []
def r30 : List RV := [.tmp 4]
theorem t30 : Text Try.prog 30 o30 c30 r30 9 := ⟨⟨Try.f30, _, by kernel_rfl, by kernel_rfl, rfl, by kernel_rfl, by kernel_rfl, rfl⟩, by kernel_rfl⟩

/-- sordine/rex.Is$1 -/
def c31 : ACode :=
  (.seq (.ops [⟨some 1, none, .prim (.boxr (.tmp 0))⟩,
      ⟨some 2, none, .prim (.mov (.const (Go.Value.bool Bool.false)))⟩])
    (.seq (.ops [⟨some 3, none, .prim (.load 6 true (.tmp 1))⟩,
      ⟨some 4, none, .call (.func 19) [(.tmp 3)]⟩,
      ⟨some 5, none, .prim (.un .not (.tmp 4))⟩,
      ⟨some 2, none, .prim (.mov (.tmp 5))⟩])
    .ret))
def o31 : List Tmp := []
def r31 : List RV := [.tmp 2]
theorem t31 : Text Try.prog 31 o31 c31 r31 6 := ⟨⟨Try.f31, _, by kernel_rfl, by kernel_rfl, rfl, by kernel_rfl, by kernel_rfl, rfl⟩, by kernel_rfl⟩

/-- (*sordine/rex.parser).way -/
def c32 : ACode :=
  (.seq (.ops [⟨some 4, none, .prim (.allocm [.pl (.int .i64 0), .pl (.int .u64 0), .pl (.int .u64 0), .pl (.int .u64 0), .pl (.int .u64 0), .nils])⟩])
    (.seq (.ops [⟨some 5, none, .prim (.mov (.const (Go.Value.slice Option.none 0 0)))⟩])
    (.seq (.block 0 (.loop [2, 3, 6, 7, 8, 9, 10, 11, 12, 13, 14, 15, 16, 17, 18, 19, 20, 21, 22, 23, 24, 25, 26, 27, 28, 29, 30, 31, 32] (.seq (.seq (.ops [⟨some 6, none, .prim (.mov (.tmp 0))⟩,
      ⟨some 7, none, .call (.func 40) [(.tmp 6)]⟩,
      ⟨some 8, none, .prim (.un .not (.tmp 7))⟩,
      ⟨some 9, none, .prim (.mov (.tmp 8))⟩,
      ⟨some 10, (some (9, true)), .prim (.mov (.tmp 0))⟩,
      ⟨some 11, (some (9, true)), .call (.func 41) [(.tmp 10), (.const (Go.Value.int Go.IntKind.u8 124))]⟩,
      ⟨some 12, (some (9, true)), .prim (.un .not (.tmp 11))⟩,
      ⟨some 13, none, .prim (.pick (.tmp 9) (.tmp 12) (.const (Go.Value.bool Bool.false)))⟩,
      ⟨some 14, none, .prim (.mov (.tmp 13))⟩,
      ⟨some 15, (some (14, true)), .prim (.mov (.tmp 0))⟩,
      ⟨some 16, (some (14, true)), .call (.func 41) [(.tmp 15), (.const (Go.Value.int Go.IntKind.u8 41))]⟩,
      ⟨some 17, (some (14, true)), .prim (.un .not (.tmp 16))⟩,
      ⟨some 18, none, .prim (.pick (.tmp 14) (.tmp 17) (.const (Go.Value.bool Bool.false)))⟩])
    (.cond (.tmp 18)
    .skip
    (.exit 0)))
    (.block 1 (.ops [⟨some 19, none, .prim (.mov (.tmp 5))⟩,
      ⟨some 20, none, .prim (.mov (.tmp 0))⟩,
      ⟨some 21, none, .prim (.mov (.tmp 1))⟩,
      ⟨some 22, none, .call (.func 42) [(.tmp 20), (.tmp 21)]⟩,
      ⟨some 23, none, .prim (.bsl false 6 true 1 [.pl (.int .i64 0), .pl (.int .u64 0), .pl (.int .u64 0), .pl (.int .u64 0), .pl (.int .u64 0), .nils] [(0, 6, (.tmp 22))])⟩,
      ⟨some 24, none, .prim (.app 6 (.tmp 19) (.tmp 23))⟩,
      ⟨some 5, none, .prim (.mov (.tmp 24))⟩])))))
    (.seq (.seq (.ops [⟨some 25, none, .prim (.mov (.tmp 5))⟩,
      ⟨some 26, none, .prim (.lenv (.tmp 25))⟩,
      ⟨some 27, none, .prim (.bin false .eql (.tmp 26) (.const (Go.Value.int Go.IntKind.i64 1)))⟩])
    (.cond (.tmp 27)
    (.seq (.ops [⟨some 28, none, .prim (.mov (.tmp 5))⟩,
      ⟨some 29, none, .prim (.iadrs 6 (.tmp 28) (.const (Go.Value.int Go.IntKind.i64 0)))⟩,
      ⟨some 30, none, .prim (.load 6 true (.tmp 29))⟩,
      ⟨none, none, .prim (.store 6 (.tmp 4) (.tmp 30))⟩])
    .ret)
    .skip))
    (.seq (.ghost (.shut 5) (.ops [⟨some 31, none, .prim (.mov (.tmp 5))⟩,
      ⟨some 32, none, .prim (.build [.pl (.int .i64 0), .pl (.int .u64 0), .pl (.int .u64 0), .pl (.int .u64 0), .pl (.int .u64 0), .nils] [(0, 1, (.const (Go.Value.int Go.IntKind.i64 2))), (5, 1, (.tmp 31))])⟩,
      ⟨none, none, .prim (.store 6 (.tmp 4) (.tmp 32))⟩]))
    .ret)))))
def o32 : List Tmp := [4]
def r32 : List RV := [.cell 4 6 true]
theorem t32 : Text Try.prog 32 o32 c32 r32 33 := ⟨⟨Try.f32, _, by kernel_rfl, by kernel_rfl, rfl, by kernel_rfl, by kernel_rfl, rfl⟩, by kernel_rfl⟩

/-- (*sordine/rex.parser).next -/
def c33 : ACode :=
  (.seq (.ops [⟨some 4, none, .prim (.mov (.const (Go.Value.bool Bool.false)))⟩])
    (.seq (.seq (.ops [⟨some 5, none, .prim (.mov (.tmp 0))⟩,
      ⟨some 6, none, .prim (.mov (.tmp 1))⟩,
      ⟨some 7, none, .call (.func 41) [(.tmp 5), (.tmp 6)]⟩,
      ⟨some 8, none, .prim (.un .not (.tmp 7))⟩])
    (.cond (.tmp 8)
    (.seq (.ops [⟨some 4, none, .prim (.mov (.const (Go.Value.bool Bool.false)))⟩])
    .ret)
    .skip))
    (.seq (.ops [⟨some 9, none, .prim (.mov (.tmp 0))⟩,
      ⟨some 10, none, .prim (.nilc (.tmp 9))⟩,
      ⟨some 11, none, .prim (.fadr 1 (.tmp 10))⟩,
      ⟨some 12, none, .prim (.load 1 false (.tmp 11))⟩,
      ⟨some 13, none, .prim (.bin false .add (.tmp 12) (.const (Go.Value.int Go.IntKind.i64 1)))⟩,
      ⟨some 14, none, .prim (.nilc (.tmp 9))⟩,
      ⟨some 15, none, .prim (.fadr 1 (.tmp 14))⟩,
      ⟨none, none, .prim (.store 1 (.tmp 15) (.tmp 13))⟩])
    (.seq (.ops [⟨some 4, none, .prim (.mov (.const (Go.Value.bool Bool.true)))⟩])
    .ret))))
def o33 : List Tmp := []
def r33 : List RV := [.tmp 4]
theorem t33 : Text Try.prog 33 o33 c33 r33 16 := ⟨⟨Try.f33, _, by kernel_rfl, by kernel_rfl, rfl, by kernel_rfl, by kernel_rfl, rfl⟩, by kernel_rfl⟩

/-- sordine/prog.ways -/
def c34 : ACode :=
  (.seq (.ops [⟨some 4, none, .prim (.mov (.const (Go.Value.slice Option.none 0 0)))⟩])
    (.seq (.ops [⟨some 5, none, .prim (.mov (.const (Go.Value.slice Option.none 0 0)))⟩])
    (.seq (.ops [⟨some 12, none, .prim (.mov (.tmp 1))⟩,
      ⟨some 13, none, .prim (.lenv (.tmp 12))⟩,
      ⟨some 14, none, .prim (.bin false .sub (.tmp 13) (.const (Go.Value.int Go.IntKind.i64 1)))⟩,
      ⟨some 6, none, .prim (.mov (.tmp 14))⟩])
    (.seq (.seq (.ops [⟨some 15, none, .prim (.mov (.tmp 1))⟩,
      ⟨some 16, none, .prim (.mov (.tmp 6))⟩,
      ⟨some 17, none, .prim (.slcv 6 (.tmp 15) none (some (.tmp 16)))⟩,
      ⟨some 18, none, .prim (.lenv (.tmp 17))⟩,
      ⟨some 19, none, .prim (.mov (.const (Go.Value.int Go.IntKind.i64 0)))⟩])
    (.block 0 (.loop [2, 3, 4, 7, 8, 9, 10, 11, 12, 13, 14, 15, 16, 20, 21, 22, 23, 24, 25, 26, 27, 28, 29, 30, 31, 32, 33, 34, 35, 36, 37, 38, 39, 40, 41, 42, 43, 44, 45, 46, 47, 48, 49, 50, 51, 52, 53, 54, 55, 56, 57, 58, 59, 60, 61, 62, 63, 64, 65, 66, 67, 68] (.seq (.ops [⟨some 20, none, .prim (.bin false .lss (.tmp 19) (.tmp 18))⟩])
    (.seq (.cond (.tmp 20)
    .skip
    (.exit 0))
    (.seq (.block 1 (.seq (.ops [⟨some 21, none, .prim (.iadrs 6 (.tmp 17) (.tmp 19))⟩,
      ⟨some 22, none, .prim (.load 6 true (.tmp 21))⟩,
      ⟨some 8, none, .fresh 6 8 (.tmp 22)⟩])
    (.seq (.ops [⟨some 23, none, .prim (.mov (.tmp 0))⟩,
      ⟨some 24, none, .prim (.lenv (.tmp 23))⟩,
      ⟨some 9, none, .prim (.mov (.tmp 24))⟩])
    (.seq (.draw [⟨⟨some 25, none, .prim (.mov (.tmp 0))⟩, [], false, 0, 0⟩,
      ⟨⟨some 26, none, .prim (.mov (.tmp 9))⟩, [], false, 0, 0⟩,
      ⟨⟨some 27, none, .prim (.bin false .add (.tmp 26) (.const (Go.Value.int Go.IntKind.i64 1)))⟩, [1], false, 0, 0⟩,
      ⟨⟨some 28, none, .prim (.build [.pl (.int .i64 0), .pl (.int .u64 0), .pl (.int .u64 0), .pl (.int .u64 0), .pl (.int .u64 0), .pl (.int .i64 0), .pl (.int .i64 0)] [(0, 1, (.const (Go.Value.int Go.IntKind.i64 2))), (5, 1, (.tmp 27))])⟩, [1, 2], false, 0, 0⟩,
      ⟨⟨some 29, none, .prim (.bsl false 7 true 1 [.pl (.int .i64 0), .pl (.int .u64 0), .pl (.int .u64 0), .pl (.int .u64 0), .pl (.int .u64 0), .pl (.int .i64 0), .pl (.int .i64 0)] [(0, 7, (.tmp 28))])⟩, [1, 2, 3], false, 0, 0⟩,
      ⟨⟨some 30, none, .prim (.app 7 (.tmp 25) (.tmp 29))⟩, [0, 1, 2, 3, 4], true, 0, 0⟩,
      ⟨⟨some 31, none, .prim (.load 6 true (.tmp 8))⟩, [], false, 0, 1⟩,
      ⟨⟨some 32, none, .call (.func 21) [(.tmp 30), (.tmp 31)]⟩, [0, 1, 2, 3, 4, 5, 6], true, 0, 0⟩,
      ⟨⟨some 0, none, .prim (.mov (.tmp 32))⟩, [0, 1, 2, 3, 4, 5, 6, 7], false, 2, 2⟩])
    (.seq (.ops [⟨some 33, none, .prim (.mov (.tmp 5))⟩,
      ⟨some 34, none, .prim (.mov (.tmp 0))⟩,
      ⟨some 35, none, .prim (.lenv (.tmp 34))⟩,
      ⟨some 36, none, .prim (.bsl false 1 false 1 [.pl (.int .i64 0)] [(0, 1, (.tmp 35))])⟩,
      ⟨some 37, none, .prim (.app 1 (.tmp 33) (.tmp 36))⟩,
      ⟨some 5, none, .prim (.mov (.tmp 37))⟩])
    (.seq (.ops [⟨some 38, none, .prim (.mov (.tmp 0))⟩,
      ⟨some 39, none, .prim (.build [.pl (.int .i64 0), .pl (.int .u64 0), .pl (.int .u64 0), .pl (.int .u64 0), .pl (.int .u64 0), .pl (.int .i64 0), .pl (.int .i64 0)] [(0, 1, (.const (Go.Value.int Go.IntKind.i64 3)))])⟩,
      ⟨some 40, none, .prim (.bsl false 7 true 1 [.pl (.int .i64 0), .pl (.int .u64 0), .pl (.int .u64 0), .pl (.int .u64 0), .pl (.int .u64 0), .pl (.int .i64 0), .pl (.int .i64 0)] [(0, 7, (.tmp 39))])⟩,
      ⟨some 41, none, .prim (.app 7 (.tmp 38) (.tmp 40))⟩,
      ⟨some 0, none, .prim (.mov (.tmp 41))⟩])
    (.ops [⟨some 42, none, .prim (.mov (.tmp 0))⟩,
      ⟨some 43, none, .prim (.mov (.tmp 9))⟩,
      ⟨some 44, none, .prim (.mov (.tmp 0))⟩,
      ⟨some 45, none, .prim (.lenv (.tmp 44))⟩,
      ⟨some 46, none, .prim (.iadrs 7 (.tmp 42) (.tmp 43))⟩,
      ⟨some 47, none, .prim (.fadr 6 (.tmp 46))⟩,
      ⟨none, none, .prim (.store 1 (.tmp 47) (.tmp 45))⟩])))))))
    (.ops [⟨some 48, none, .prim (.bin false .add (.tmp 19) (.const (Go.Value.int Go.IntKind.i64 1)))⟩,
      ⟨some 19, none, .prim (.mov (.tmp 48))⟩])))))))
    (.seq (.ops [⟨some 49, none, .prim (.mov (.tmp 0))⟩,
      ⟨some 50, none, .prim (.mov (.tmp 1))⟩,
      ⟨some 51, none, .prim (.mov (.tmp 6))⟩,
      ⟨some 52, none, .prim (.iadrs 6 (.tmp 50) (.tmp 51))⟩,
      ⟨some 53, none, .prim (.load 6 true (.tmp 52))⟩,
      ⟨some 54, none, .call (.func 21) [(.tmp 49), (.tmp 53)]⟩,
      ⟨some 0, none, .prim (.mov (.tmp 54))⟩])
    (.seq (.seq (.ops [⟨some 55, none, .prim (.mov (.tmp 5))⟩,
      ⟨some 56, none, .prim (.lenv (.tmp 55))⟩,
      ⟨some 57, none, .prim (.mov (.const (Go.Value.int Go.IntKind.i64 0)))⟩])
    (.block 2 (.loop [1, 2, 3, 4, 5, 6, 7, 8, 9, 10, 11, 12, 13, 14, 15, 16, 17, 18, 19, 20, 21, 22, 23, 24, 25, 26, 27, 28, 29, 30, 31, 32, 33, 34, 35, 36, 37, 38, 39, 40, 41, 42, 43, 44, 45, 46, 47, 48, 49, 50, 51, 52, 53, 54, 58, 59, 60, 61, 62, 63, 64, 65, 66, 67, 68] (.seq (.ops [⟨some 58, none, .prim (.bin false .lss (.tmp 57) (.tmp 56))⟩])
    (.seq (.cond (.tmp 58)
    .skip
    (.exit 2))
    (.seq (.block 3 (.seq (.ops [⟨some 59, none, .prim (.iadrs 1 (.tmp 55) (.tmp 57))⟩,
      ⟨some 60, none, .prim (.load 1 false (.tmp 59))⟩,
      ⟨some 11, none, .prim (.mov (.tmp 60))⟩])
    (.ops [⟨some 61, none, .prim (.mov (.tmp 0))⟩,
      ⟨some 62, none, .prim (.mov (.tmp 11))⟩,
      ⟨some 63, none, .prim (.mov (.tmp 0))⟩,
      ⟨some 64, none, .prim (.lenv (.tmp 63))⟩,
      ⟨some 65, none, .prim (.iadrs 7 (.tmp 61) (.tmp 62))⟩,
      ⟨some 66, none, .prim (.fadr 5 (.tmp 65))⟩,
      ⟨none, none, .prim (.store 1 (.tmp 66) (.tmp 64))⟩])))
    (.ops [⟨some 67, none, .prim (.bin false .add (.tmp 57) (.const (Go.Value.int Go.IntKind.i64 1)))⟩,
      ⟨some 57, none, .prim (.mov (.tmp 67))⟩])))))))
    (.seq (.ops [⟨some 68, none, .prim (.mov (.tmp 0))⟩,
      ⟨some 4, none, .prim (.mov (.tmp 68))⟩])
    .ret)))))))
def o34 : List Tmp := []
def r34 : List RV := [.tmp 4]
theorem t34 : Text Try.prog 34 o34 c34 r34 69 := ⟨⟨Try.f34, _, by kernel_rfl, by kernel_rfl, rfl, by kernel_rfl, by kernel_rfl, rfl⟩, by kernel_rfl⟩

/-- slices.IndexFunc[[]sordine/api.Step,sordine/api.Step] -/
def c35 : ACode :=
  (.seq (.ops [⟨some 4, none, .prim (.mov (.const (Go.Value.int Go.IntKind.i64 0)))⟩])
    (.seq (.seq (.ops [⟨some 6, none, .prim (.mov (.tmp 0))⟩,
      ⟨some 7, none, .prim (.lenv (.tmp 6))⟩,
      ⟨some 8, none, .prim (.mov (.const (Go.Value.int Go.IntKind.i64 0)))⟩])
    (.block 0 (.loop [2, 3, 4, 5, 6, 9, 10, 11, 12, 13, 14, 15, 16, 17, 18] (.seq (.ops [⟨some 9, none, .prim (.bin false .lss (.tmp 8) (.tmp 7))⟩])
    (.seq (.cond (.tmp 9)
    .skip
    (.exit 0))
    (.seq (.block 1 (.seq (.ops [⟨some 10, none, .prim (.mov (.tmp 8))⟩,
      ⟨some 5, none, .prim (.mov (.tmp 10))⟩])
    (.seq (.ops [⟨some 11, none, .prim (.mov (.tmp 1))⟩,
      ⟨some 12, none, .prim (.mov (.tmp 0))⟩,
      ⟨some 13, none, .prim (.mov (.tmp 5))⟩,
      ⟨some 14, none, .prim (.iadrs 7 (.tmp 12) (.tmp 13))⟩,
      ⟨some 15, none, .prim (.load 7 true (.tmp 14))⟩,
      ⟨some 16, none, .call (.tmp 11) [(.tmp 15)]⟩])
    (.cond (.tmp 16)
    (.seq (.ops [⟨some 17, none, .prim (.mov (.tmp 5))⟩,
      ⟨some 4, none, .prim (.mov (.tmp 17))⟩])
    .ret)
    .skip))))
    (.ops [⟨some 18, none, .prim (.bin false .add (.tmp 8) (.const (Go.Value.int Go.IntKind.i64 1)))⟩,
      ⟨some 8, none, .prim (.mov (.tmp 18))⟩])))))))
    (.seq (.ops [⟨some 4, none, .prim (.mov (.const (Go.Value.int Go.IntKind.i64 (-1))))⟩])
    .ret)))
def o35 : List Tmp := []
def r35 : List RV := [.tmp 4]
theorem t35 : Text Try.prog 35 o35 c35 r35 19 := ⟨⟨Try.f35, _, by kernel_rfl, by kernel_rfl, rfl, by kernel_rfl, by kernel_rfl, rfl⟩, by kernel_rfl⟩

/-- sordine/prog.right$1 -/
def c36 : ACode :=
  (.seq (.ops [⟨some 3, none, .prim (.mov (.const (Go.Value.bool Bool.false)))⟩])
    (.seq (.ops [⟨some 4, none, .prim (.mov (.tmp 0))⟩,
      ⟨some 5, none, .prim (.bin false .geq (.tmp 4) (.const (Go.Value.int Go.IntKind.i64 0)))⟩,
      ⟨some 6, none, .prim (.mov (.tmp 5))⟩,
      ⟨some 7, (some (6, true)), .prim (.mov (.tmp 0))⟩,
      ⟨some 8, (some (6, true)), .prim (.load 1 false (.tmp 1))⟩,
      ⟨some 9, (some (6, true)), .prim (.bin false .lss (.tmp 7) (.tmp 8))⟩,
      ⟨some 10, none, .prim (.pick (.tmp 6) (.tmp 9) (.const (Go.Value.bool Bool.false)))⟩,
      ⟨some 3, none, .prim (.mov (.tmp 10))⟩])
    .ret))
def o36 : List Tmp := []
def r36 : List RV := [.tmp 3]
theorem t36 : Text Try.prog 36 o36 c36 r36 11 := ⟨⟨Try.f36, _, by kernel_rfl, by kernel_rfl, rfl, by kernel_rfl, by kernel_rfl, rfl⟩, by kernel_rfl⟩

/-- (*sordine/sordineref5.parser).way -/
def c37 : ACode :=
  (.seq (.ops [⟨some 2, none, .prim (.allocm [.pl (.int .i64 0), .pl (.int .u64 0), .pl (.int .u64 0), .pl (.int .u64 0), .pl (.int .u64 0), .nils])⟩])
    (.seq (.ops [⟨some 3, none, .prim (.mov (.const (Go.Value.slice Option.none 0 0)))⟩])
    (.seq (.block 0 (.loop [1, 4, 5, 6, 7, 8, 9, 10, 11, 12, 13, 14, 15, 16, 17, 18, 19, 20, 21, 22, 23, 24, 25, 26, 27, 28, 29, 30, 31, 32, 33, 34, 35, 36, 37, 38, 39, 40, 41, 42] (.seq (.seq (.draw [⟨⟨some 4, none, .prim (.mov (.tmp 0))⟩, [], false, 0, 0⟩,
      ⟨⟨some 5, none, .call (.func 38) [(.tmp 4)]⟩, [0], true, 0, 0⟩,
      ⟨⟨some 6, none, .prim (.mov (.tmp 5))⟩, [0, 1], false, 1, 1⟩,
      ⟨⟨some 7, (some (6, true)), .prim (.mov (.tmp 0))⟩, [0, 1, 2], false, 1, 1⟩,
      ⟨⟨some 8, (some (6, true)), .prim (.nilc (.tmp 7))⟩, [0, 1, 2, 3], false, 1, 1⟩,
      ⟨⟨some 9, (some (6, true)), .prim (.fadr 0 (.tmp 8))⟩, [0, 1, 2, 3, 4], false, 1, 1⟩,
      ⟨⟨some 10, (some (6, true)), .prim (.load 1 false (.tmp 9))⟩, [0, 1, 2, 3, 4, 5], false, 1, 1⟩,
      ⟨⟨some 11, (some (6, true)), .prim (.mov (.tmp 0))⟩, [0, 1, 2], false, 1, 1⟩,
      ⟨⟨some 12, (some (6, true)), .prim (.nilc (.tmp 11))⟩, [0, 1, 2, 7], false, 1, 1⟩,
      ⟨⟨some 13, (some (6, true)), .prim (.fadr 1 (.tmp 12))⟩, [0, 1, 2, 7, 8], false, 1, 1⟩,
      ⟨⟨some 14, (some (6, true)), .prim (.load 1 false (.tmp 13))⟩, [0, 1, 2, 7, 8, 9], false, 1, 1⟩,
      ⟨⟨some 15, (some (6, true)), .prim (.idxs (.tmp 10) (.tmp 14))⟩, [0, 1, 2, 3, 4, 5, 6, 7, 8, 9, 10], false, 1, 1⟩,
      ⟨⟨some 16, (some (6, true)), .prim (.bin false .neq (.tmp 15) (.const (Go.Value.int Go.IntKind.u8 124)))⟩, [0, 1, 2, 3, 4, 5, 6, 7, 8, 9, 10, 11], false, 1, 1⟩,
      ⟨⟨some 17, none, .prim (.pick (.tmp 6) (.tmp 16) (.const (Go.Value.bool Bool.false)))⟩, [0, 1, 2, 3, 4, 5, 6, 7, 8, 9, 10, 11, 12], false, 1, 1⟩,
      ⟨⟨some 18, none, .prim (.mov (.tmp 17))⟩, [0, 1, 2, 3, 4, 5, 6, 7, 8, 9, 10, 11, 12, 13], false, 1, 1⟩,
      ⟨⟨some 19, (some (18, true)), .prim (.mov (.tmp 0))⟩, [0, 1, 2, 3, 4, 5, 6, 7, 8, 9, 10, 11, 12, 13, 14], false, 1, 1⟩,
      ⟨⟨some 20, (some (18, true)), .prim (.nilc (.tmp 19))⟩, [0, 1, 2, 3, 4, 5, 6, 7, 8, 9, 10, 11, 12, 13, 14, 15], false, 1, 1⟩,
      ⟨⟨some 21, (some (18, true)), .prim (.fadr 0 (.tmp 20))⟩, [0, 1, 2, 3, 4, 5, 6, 7, 8, 9, 10, 11, 12, 13, 14, 15, 16], false, 1, 1⟩,
      ⟨⟨some 22, (some (18, true)), .prim (.load 1 false (.tmp 21))⟩, [0, 1, 2, 3, 4, 5, 6, 7, 8, 9, 10, 11, 12, 13, 14, 15, 16, 17], false, 1, 1⟩,
      ⟨⟨some 23, (some (18, true)), .prim (.mov (.tmp 0))⟩, [0, 1, 2, 3, 4, 5, 6, 7, 8, 9, 10, 11, 12, 13, 14], false, 1, 1⟩,
      ⟨⟨some 24, (some (18, true)), .prim (.nilc (.tmp 23))⟩, [0, 1, 2, 3, 4, 5, 6, 7, 8, 9, 10, 11, 12, 13, 14, 19], false, 1, 1⟩,
      ⟨⟨some 25, (some (18, true)), .prim (.fadr 1 (.tmp 24))⟩, [0, 1, 2, 3, 4, 5, 6, 7, 8, 9, 10, 11, 12, 13, 14, 19, 20], false, 1, 1⟩,
      ⟨⟨some 26, (some (18, true)), .prim (.load 1 false (.tmp 25))⟩, [0, 1, 2, 3, 4, 5, 6, 7, 8, 9, 10, 11, 12, 13, 14, 19, 20, 21], false, 1, 1⟩,
      ⟨⟨some 27, (some (18, true)), .prim (.idxs (.tmp 22) (.tmp 26))⟩, [0, 1, 2, 3, 4, 5, 6, 7, 8, 9, 10, 11, 12, 13, 14, 15, 16, 17, 18, 19, 20, 21, 22], false, 1, 1⟩,
      ⟨⟨some 28, (some (18, true)), .prim (.bin false .neq (.tmp 27) (.const (Go.Value.int Go.IntKind.u8 41)))⟩, [0, 1, 2, 3, 4, 5, 6, 7, 8, 9, 10, 11, 12, 13, 14, 15, 16, 17, 18, 19, 20, 21, 22, 23], false, 1, 1⟩,
      ⟨⟨some 29, none, .prim (.pick (.tmp 18) (.tmp 28) (.const (Go.Value.bool Bool.false)))⟩, [0, 1, 2, 3, 4, 5, 6, 7, 8, 9, 10, 11, 12, 13, 14, 15, 16, 17, 18, 19, 20, 21, 22, 23, 24], false, 1, 1⟩])
    (.cond (.tmp 29)
    .skip
    (.exit 0)))
    (.block 1 (.ops [⟨some 30, none, .prim (.mov (.tmp 3))⟩,
      ⟨some 31, none, .prim (.mov (.tmp 0))⟩,
      ⟨some 32, none, .call (.func 43) [(.tmp 31)]⟩,
      ⟨some 33, none, .prim (.bsl false 6 true 1 [.pl (.int .i64 0), .pl (.int .u64 0), .pl (.int .u64 0), .pl (.int .u64 0), .pl (.int .u64 0), .nils] [(0, 6, (.tmp 32))])⟩,
      ⟨some 34, none, .prim (.app 6 (.tmp 30) (.tmp 33))⟩,
      ⟨some 3, none, .prim (.mov (.tmp 34))⟩])))))
    (.seq (.seq (.ops [⟨some 35, none, .prim (.mov (.tmp 3))⟩,
      ⟨some 36, none, .prim (.lenv (.tmp 35))⟩,
      ⟨some 37, none, .prim (.bin false .eql (.tmp 36) (.const (Go.Value.int Go.IntKind.i64 1)))⟩])
    (.cond (.tmp 37)
    (.seq (.ops [⟨some 38, none, .prim (.mov (.tmp 3))⟩,
      ⟨some 39, none, .prim (.iadrs 6 (.tmp 38) (.const (Go.Value.int Go.IntKind.i64 0)))⟩,
      ⟨some 40, none, .prim (.load 6 true (.tmp 39))⟩,
      ⟨none, none, .prim (.store 6 (.tmp 2) (.tmp 40))⟩])
    .ret)
    .skip))
    (.seq (.ghost (.shut 3) (.ops [⟨some 41, none, .prim (.mov (.tmp 3))⟩,
      ⟨some 42, none, .prim (.build [.pl (.int .i64 0), .pl (.int .u64 0), .pl (.int .u64 0), .pl (.int .u64 0), .pl (.int .u64 0), .nils] [(0, 1, (.const (Go.Value.int Go.IntKind.i64 2))), (5, 1, (.tmp 41))])⟩,
      ⟨none, none, .prim (.store 6 (.tmp 2) (.tmp 42))⟩]))
    .ret)))))
def o37 : List Tmp := [2]
def r37 : List RV := [.cell 2 6 true]
theorem t37 : Text Try.prog 37 o37 c37 r37 43 := ⟨⟨Try.f37, _, by kernel_rfl, by kernel_rfl, rfl, by kernel_rfl, by kernel_rfl, rfl⟩, by kernel_rfl⟩

/-- (*sordine/sordineref5.parser).more -/
def c38 : ACode :=
  (.seq (.ops [⟨some 2, none, .prim (.mov (.const (Go.Value.bool Bool.false)))⟩])
    (.seq (.draw [⟨⟨some 3, none, .prim (.mov (.tmp 0))⟩, [], false, 0, 0⟩,
      ⟨⟨some 4, none, .prim (.nilc (.tmp 3))⟩, [0], false, 0, 0⟩,
      ⟨⟨some 5, none, .prim (.fadr 3 (.tmp 4))⟩, [0, 1], false, 0, 0⟩,
      ⟨⟨some 6, none, .prim (.load 1 false (.tmp 5))⟩, [0, 1, 2], false, 0, 0⟩,
      ⟨⟨some 7, none, .prim (.un .not (.tmp 6))⟩, [0, 1, 2, 3], false, 0, 0⟩,
      ⟨⟨some 8, none, .prim (.mov (.tmp 7))⟩, [0, 1, 2, 3, 4], false, 0, 0⟩,
      ⟨⟨some 9, (some (8, true)), .prim (.mov (.tmp 0))⟩, [0, 1, 2, 3, 4, 5], false, 0, 0⟩,
      ⟨⟨some 10, (some (8, true)), .prim (.nilc (.tmp 9))⟩, [0, 1, 2, 3, 4, 5, 6], false, 0, 0⟩,
      ⟨⟨some 11, (some (8, true)), .prim (.fadr 1 (.tmp 10))⟩, [0, 1, 2, 3, 4, 5, 6, 7], false, 0, 0⟩,
      ⟨⟨some 12, (some (8, true)), .prim (.load 1 false (.tmp 11))⟩, [0, 1, 2, 3, 4, 5, 6, 7, 8], false, 0, 0⟩,
      ⟨⟨some 13, (some (8, true)), .prim (.mov (.tmp 0))⟩, [0, 1, 2, 3, 4, 5], false, 0, 0⟩,
      ⟨⟨some 14, (some (8, true)), .prim (.nilc (.tmp 13))⟩, [0, 1, 2, 3, 4, 5, 10], false, 0, 0⟩,
      ⟨⟨some 15, (some (8, true)), .prim (.fadr 0 (.tmp 14))⟩, [0, 1, 2, 3, 4, 5, 10, 11], false, 0, 0⟩,
      ⟨⟨some 16, (some (8, true)), .prim (.load 1 false (.tmp 15))⟩, [0, 1, 2, 3, 4, 5, 10, 11, 12], false, 0, 0⟩,
      ⟨⟨some 17, (some (8, true)), .prim (.lens (.tmp 16))⟩, [0, 1, 2, 3, 4, 5, 10, 11, 12, 13], false, 0, 0⟩,
      ⟨⟨some 18, (some (8, true)), .prim (.bin false .lss (.tmp 12) (.tmp 17))⟩, [0, 1, 2, 3, 4, 5, 6, 7, 8, 9, 10, 11, 12, 13, 14], false, 0, 0⟩,
      ⟨⟨some 19, none, .prim (.pick (.tmp 8) (.tmp 18) (.const (Go.Value.bool Bool.false)))⟩, [0, 1, 2, 3, 4, 5, 6, 7, 8, 9, 10, 11, 12, 13, 14, 15], false, 0, 0⟩,
      ⟨⟨some 2, none, .prim (.mov (.tmp 19))⟩, [0, 1, 2, 3, 4, 5, 6, 7, 8, 9, 10, 11, 12, 13, 14, 15, 16], false, 0, 0⟩])
    .ret))
def o38 : List Tmp := []
def r38 : List RV := [.tmp 2]
theorem t38 : Text Try.prog 38 o38 c38 r38 20 := ⟨⟨Try.f38, _, by kernel_rfl, by kernel_rfl, rfl, by kernel_rfl, by kernel_rfl, rfl⟩, by kernel_rfl⟩

/-- slices.IndexFunc[[]sordine/api.Rex,sordine/api.Rex] -/
def c39 : ACode :=
  (.seq (.ops [⟨some 4, none, .prim (.mov (.const (Go.Value.int Go.IntKind.i64 0)))⟩])
    (.seq (.seq (.ops [⟨some 6, none, .prim (.mov (.tmp 0))⟩,
      ⟨some 7, none, .prim (.lenv (.tmp 6))⟩,
      ⟨some 8, none, .prim (.mov (.const (Go.Value.int Go.IntKind.i64 0)))⟩])
    (.block 0 (.loop [2, 3, 4, 5, 6, 9, 10, 11, 12, 13, 14, 15, 16, 17, 18] (.seq (.ops [⟨some 9, none, .prim (.bin false .lss (.tmp 8) (.tmp 7))⟩])
    (.seq (.cond (.tmp 9)
    .skip
    (.exit 0))
    (.seq (.block 1 (.seq (.ops [⟨some 10, none, .prim (.mov (.tmp 8))⟩,
      ⟨some 5, none, .prim (.mov (.tmp 10))⟩])
    (.seq (.ops [⟨some 11, none, .prim (.mov (.tmp 1))⟩,
      ⟨some 12, none, .prim (.mov (.tmp 0))⟩,
      ⟨some 13, none, .prim (.mov (.tmp 5))⟩,
      ⟨some 14, none, .prim (.iadrs 6 (.tmp 12) (.tmp 13))⟩,
      ⟨some 15, none, .prim (.load 6 true (.tmp 14))⟩,
      ⟨some 16, none, .call (.tmp 11) [(.tmp 15)]⟩])
    (.cond (.tmp 16)
    (.seq (.ops [⟨some 17, none, .prim (.mov (.tmp 5))⟩,
      ⟨some 4, none, .prim (.mov (.tmp 17))⟩])
    .ret)
    .skip))))
    (.ops [⟨some 18, none, .prim (.bin false .add (.tmp 8) (.const (Go.Value.int Go.IntKind.i64 1)))⟩,
      ⟨some 8, none, .prim (.mov (.tmp 18))⟩])))))))
    (.seq (.ops [⟨some 4, none, .prim (.mov (.const (Go.Value.int Go.IntKind.i64 (-1))))⟩])
    .ret)))
def o39 : List Tmp := []
def r39 : List RV := [.tmp 4]
theorem t39 : Text Try.prog 39 o39 c39 r39 19 := ⟨⟨Try.f39, _, by kernel_rfl, by kernel_rfl, rfl, by kernel_rfl, by kernel_rfl, rfl⟩, by kernel_rfl⟩

/-- (*sordine/rex.parser).over -/
def c40 : ACode :=
  (.seq (.ops [⟨some 2, none, .prim (.mov (.const (Go.Value.bool Bool.false)))⟩])
    (.seq (.draw [⟨⟨some 3, none, .prim (.mov (.tmp 0))⟩, [], false, 0, 0⟩,
      ⟨⟨some 4, none, .prim (.nilc (.tmp 3))⟩, [0], false, 0, 0⟩,
      ⟨⟨some 5, none, .prim (.fadr 2 (.tmp 4))⟩, [0, 1], false, 0, 0⟩,
      ⟨⟨some 6, none, .prim (.load 1 false (.tmp 5))⟩, [0, 1, 2], false, 0, 0⟩,
      ⟨⟨some 7, none, .prim (.mov (.tmp 6))⟩, [0, 1, 2, 3], false, 0, 0⟩,
      ⟨⟨some 8, (some (7, false)), .prim (.mov (.tmp 0))⟩, [0, 1, 2, 3, 4], false, 0, 0⟩,
      ⟨⟨some 9, (some (7, false)), .prim (.nilc (.tmp 8))⟩, [0, 1, 2, 3, 4, 5], false, 0, 0⟩,
      ⟨⟨some 10, (some (7, false)), .prim (.fadr 1 (.tmp 9))⟩, [0, 1, 2, 3, 4, 5, 6], false, 0, 0⟩,
      ⟨⟨some 11, (some (7, false)), .prim (.load 1 false (.tmp 10))⟩, [0, 1, 2, 3, 4, 5, 6, 7], false, 0, 0⟩,
      ⟨⟨some 12, (some (7, false)), .prim (.mov (.tmp 0))⟩, [0, 1, 2, 3, 4], false, 0, 0⟩,
      ⟨⟨some 13, (some (7, false)), .prim (.nilc (.tmp 12))⟩, [0, 1, 2, 3, 4, 9], false, 0, 0⟩,
      ⟨⟨some 14, (some (7, false)), .prim (.fadr 0 (.tmp 13))⟩, [0, 1, 2, 3, 4, 9, 10], false, 0, 0⟩,
      ⟨⟨some 15, (some (7, false)), .prim (.load 1 false (.tmp 14))⟩, [0, 1, 2, 3, 4, 9, 10, 11], false, 0, 0⟩,
      ⟨⟨some 16, (some (7, false)), .prim (.lens (.tmp 15))⟩, [0, 1, 2, 3, 4, 9, 10, 11, 12], false, 0, 0⟩,
      ⟨⟨some 17, (some (7, false)), .prim (.bin false .geq (.tmp 11) (.tmp 16))⟩, [0, 1, 2, 3, 4, 5, 6, 7, 8, 9, 10, 11, 12, 13], false, 0, 0⟩,
      ⟨⟨some 18, none, .prim (.pick (.tmp 7) (.const (Go.Value.bool Bool.true)) (.tmp 17))⟩, [0, 1, 2, 3, 4, 5, 6, 7, 8, 9, 10, 11, 12, 13, 14], false, 0, 0⟩,
      ⟨⟨some 2, none, .prim (.mov (.tmp 18))⟩, [0, 1, 2, 3, 4, 5, 6, 7, 8, 9, 10, 11, 12, 13, 14, 15], false, 0, 0⟩])
    .ret))
def o40 : List Tmp := []
def r40 : List RV := [.tmp 2]
theorem t40 : Text Try.prog 40 o40 c40 r40 19 := ⟨⟨Try.f40, _, by kernel_rfl, by kernel_rfl, rfl, by kernel_rfl, by kernel_rfl, rfl⟩, by kernel_rfl⟩

/-- (*sordine/rex.parser).sees -/
def c41 : ACode :=
  (.seq (.ops [⟨some 4, none, .prim (.mov (.const (Go.Value.bool Bool.false)))⟩])
    (.seq (.draw [⟨⟨some 5, none, .prim (.mov (.tmp 0))⟩, [], false, 0, 0⟩,
      ⟨⟨some 6, none, .call (.func 40) [(.tmp 5)]⟩, [0], true, 0, 0⟩,
      ⟨⟨some 7, none, .prim (.un .not (.tmp 6))⟩, [0, 1], false, 1, 1⟩,
      ⟨⟨some 8, none, .prim (.mov (.tmp 7))⟩, [0, 1, 2], false, 1, 1⟩,
      ⟨⟨some 9, (some (8, true)), .prim (.mov (.tmp 0))⟩, [0, 1, 2, 3], false, 1, 1⟩,
      ⟨⟨some 10, (some (8, true)), .prim (.nilc (.tmp 9))⟩, [0, 1, 2, 3, 4], false, 1, 1⟩,
      ⟨⟨some 11, (some (8, true)), .prim (.fadr 0 (.tmp 10))⟩, [0, 1, 2, 3, 4, 5], false, 1, 1⟩,
      ⟨⟨some 12, (some (8, true)), .prim (.load 1 false (.tmp 11))⟩, [0, 1, 2, 3, 4, 5, 6], false, 1, 1⟩,
      ⟨⟨some 13, (some (8, true)), .prim (.mov (.tmp 0))⟩, [0, 1, 2, 3], false, 1, 1⟩,
      ⟨⟨some 14, (some (8, true)), .prim (.nilc (.tmp 13))⟩, [0, 1, 2, 3, 8], false, 1, 1⟩,
      ⟨⟨some 15, (some (8, true)), .prim (.fadr 1 (.tmp 14))⟩, [0, 1, 2, 3, 8, 9], false, 1, 1⟩,
      ⟨⟨some 16, (some (8, true)), .prim (.load 1 false (.tmp 15))⟩, [0, 1, 2, 3, 8, 9, 10], false, 1, 1⟩,
      ⟨⟨some 17, (some (8, true)), .prim (.idxs (.tmp 12) (.tmp 16))⟩, [0, 1, 2, 3, 4, 5, 6, 7, 8, 9, 10, 11], false, 1, 1⟩,
      ⟨⟨some 18, (some (8, true)), .prim (.mov (.tmp 1))⟩, [0, 1, 2, 3], false, 1, 1⟩,
      ⟨⟨some 19, (some (8, true)), .prim (.bin false .eql (.tmp 17) (.tmp 18))⟩, [0, 1, 2, 3, 4, 5, 6, 7, 8, 9, 10, 11, 12, 13], false, 1, 1⟩,
      ⟨⟨some 20, none, .prim (.pick (.tmp 8) (.tmp 19) (.const (Go.Value.bool Bool.false)))⟩, [0, 1, 2, 3, 4, 5, 6, 7, 8, 9, 10, 11, 12, 13, 14], false, 1, 1⟩,
      ⟨⟨some 4, none, .prim (.mov (.tmp 20))⟩, [0, 1, 2, 3, 4, 5, 6, 7, 8, 9, 10, 11, 12, 13, 14, 15], false, 1, 1⟩])
    .ret))
def o41 : List Tmp := []
def r41 : List RV := [.tmp 4]
theorem t41 : Text Try.prog 41 o41 c41 r41 21 := ⟨⟨Try.f41, _, by kernel_rfl, by kernel_rfl, rfl, by kernel_rfl, by kernel_rfl, rfl⟩, by kernel_rfl⟩

/-- (*sordine/rex.parser).factor -/
def c42 : ACode :=
  (.seq (.ops [⟨some 4, none, .prim (.allocm [.pl (.int .i64 0), .pl (.int .u64 0), .pl (.int .u64 0), .pl (.int .u64 0), .pl (.int .u64 0), .nils])⟩])
    (.seq (.ops [⟨some 6, none, .prim (.mov (.tmp 0))⟩,
      ⟨some 7, none, .prim (.mov (.tmp 1))⟩,
      ⟨some 8, none, .call (.func 44) [(.tmp 6), (.tmp 7)]⟩,
      ⟨some 5, none, .fresh 6 5 (.tmp 8)⟩])
    (.seq (.block 0 (.seq (.ops [⟨some 10, none, .prim (.mov (.tmp 0))⟩,
      ⟨some 11, none, .call (.func 33) [(.tmp 10), (.const (Go.Value.int Go.IntKind.u8 42))]⟩,
      ⟨some 9, none, .prim (.mov (.tmp 11))⟩])
    (.cond (.tmp 9)
    (.seq (.ops [⟨some 12, none, .prim (.load 6 true (.tmp 5))⟩,
      ⟨some 13, none, .prim (.bsl false 6 true 1 [.pl (.int .i64 0), .pl (.int .u64 0), .pl (.int .u64 0), .pl (.int .u64 0), .pl (.int .u64 0), .nils] [(0, 6, (.tmp 12))])⟩,
      ⟨some 14, none, .prim (.build [.pl (.int .i64 0), .pl (.int .u64 0), .pl (.int .u64 0), .pl (.int .u64 0), .pl (.int .u64 0), .nils] [(0, 1, (.const (Go.Value.int Go.IntKind.i64 4))), (5, 1, (.tmp 13))])⟩,
      ⟨none, none, .prim (.store 6 (.tmp 4) (.tmp 14))⟩])
    .ret)
    (.seq (.ops [⟨some 16, none, .prim (.mov (.tmp 0))⟩,
      ⟨some 17, none, .call (.func 33) [(.tmp 16), (.const (Go.Value.int Go.IntKind.u8 43))]⟩,
      ⟨some 15, none, .prim (.mov (.tmp 17))⟩])
    (.cond (.tmp 15)
    (.seq (.ops [⟨some 18, none, .prim (.load 6 true (.tmp 5))⟩,
      ⟨some 19, none, .prim (.bsl false 6 true 1 [.pl (.int .i64 0), .pl (.int .u64 0), .pl (.int .u64 0), .pl (.int .u64 0), .pl (.int .u64 0), .nils] [(0, 6, (.tmp 18))])⟩,
      ⟨some 20, none, .prim (.build [.pl (.int .i64 0), .pl (.int .u64 0), .pl (.int .u64 0), .pl (.int .u64 0), .pl (.int .u64 0), .nils] [(0, 1, (.const (Go.Value.int Go.IntKind.i64 5))), (5, 1, (.tmp 19))])⟩,
      ⟨none, none, .prim (.store 6 (.tmp 4) (.tmp 20))⟩])
    .ret)
    (.seq (.ops [⟨some 22, none, .prim (.mov (.tmp 0))⟩,
      ⟨some 23, none, .call (.func 33) [(.tmp 22), (.const (Go.Value.int Go.IntKind.u8 63))]⟩,
      ⟨some 21, none, .prim (.mov (.tmp 23))⟩])
    (.cond (.tmp 21)
    (.seq (.ops [⟨some 24, none, .prim (.load 6 true (.tmp 5))⟩,
      ⟨some 25, none, .prim (.bsl false 6 true 1 [.pl (.int .i64 0), .pl (.int .u64 0), .pl (.int .u64 0), .pl (.int .u64 0), .pl (.int .u64 0), .nils] [(0, 6, (.tmp 24))])⟩,
      ⟨some 26, none, .prim (.build [.pl (.int .i64 0), .pl (.int .u64 0), .pl (.int .u64 0), .pl (.int .u64 0), .pl (.int .u64 0), .nils] [(0, 1, (.const (Go.Value.int Go.IntKind.i64 6))), (5, 1, (.tmp 25))])⟩,
      ⟨none, none, .prim (.store 6 (.tmp 4) (.tmp 26))⟩])
    .ret)
    .skip)))))))
    (.seq (.ops [⟨some 27, none, .prim (.load 6 true (.tmp 5))⟩,
      ⟨none, none, .prim (.store 6 (.tmp 4) (.tmp 27))⟩])
    .ret))))
def o42 : List Tmp := [4]
def r42 : List RV := [.cell 4 6 true]
theorem t42 : Text Try.prog 42 o42 c42 r42 28 := ⟨⟨Try.f42, _, by kernel_rfl, by kernel_rfl, rfl, by kernel_rfl, by kernel_rfl, rfl⟩, by kernel_rfl⟩

/-- (*sordine/sordineref5.parser).factor -/
def c43 : ACode :=
  (.seq (.ops [⟨some 2, none, .prim (.allocm [.pl (.int .i64 0), .pl (.int .u64 0), .pl (.int .u64 0), .pl (.int .u64 0), .pl (.int .u64 0), .nils])⟩])
    (.seq (.ops [⟨some 5, none, .prim (.mov (.tmp 0))⟩,
      ⟨some 6, none, .call (.func 45) [(.tmp 5)]⟩,
      ⟨some 3, none, .fresh 6 3 (.tmp 6)⟩])
    (.seq (.seq (.ops [⟨some 7, none, .prim (.mov (.tmp 0))⟩,
      ⟨some 8, none, .call (.func 38) [(.tmp 7)]⟩,
      ⟨some 9, none, .prim (.un .not (.tmp 8))⟩])
    (.cond (.tmp 9)
    (.seq (.ops [⟨some 10, none, .prim (.load 6 true (.tmp 3))⟩,
      ⟨none, none, .prim (.store 6 (.tmp 2) (.tmp 10))⟩])
    .ret)
    .skip))
    (.seq (.ops [⟨some 4, none, .prim (.mov (.const (Go.Value.int Go.IntKind.i64 0)))⟩])
    (.seq (.seq (.draw [⟨⟨some 11, none, .prim (.mov (.tmp 0))⟩, [], false, 0, 0⟩,
      ⟨⟨some 12, none, .prim (.nilc (.tmp 11))⟩, [0], false, 0, 0⟩,
      ⟨⟨some 13, none, .prim (.fadr 0 (.tmp 12))⟩, [0, 1], false, 0, 0⟩,
      ⟨⟨some 14, none, .prim (.load 1 false (.tmp 13))⟩, [0, 1, 2], false, 0, 0⟩,
      ⟨⟨some 15, none, .prim (.mov (.tmp 0))⟩, [], false, 0, 0⟩,
      ⟨⟨some 16, none, .prim (.nilc (.tmp 15))⟩, [4], false, 0, 0⟩,
      ⟨⟨some 17, none, .prim (.fadr 1 (.tmp 16))⟩, [4, 5], false, 0, 0⟩,
      ⟨⟨some 18, none, .prim (.load 1 false (.tmp 17))⟩, [4, 5, 6], false, 0, 0⟩,
      ⟨⟨some 19, none, .prim (.idxs (.tmp 14) (.tmp 18))⟩, [0, 1, 2, 3, 4, 5, 6, 7], false, 0, 0⟩])
    (.block 0 (.seq (.ops [⟨some 22, none, .prim (.bin false .eql (.tmp 19) (.const (Go.Value.int Go.IntKind.u8 42)))⟩,
      ⟨some 21, none, .prim (.mov (.tmp 22))⟩])
    (.cond (.tmp 21)
    (.ops [⟨some 4, none, .prim (.mov (.const (Go.Value.int Go.IntKind.i64 4)))⟩])
    (.seq (.ops [⟨some 24, none, .prim (.bin false .eql (.tmp 19) (.const (Go.Value.int Go.IntKind.u8 43)))⟩,
      ⟨some 23, none, .prim (.mov (.tmp 24))⟩])
    (.cond (.tmp 23)
    (.ops [⟨some 4, none, .prim (.mov (.const (Go.Value.int Go.IntKind.i64 5)))⟩])
    (.seq (.ops [⟨some 26, none, .prim (.bin false .eql (.tmp 19) (.const (Go.Value.int Go.IntKind.u8 63)))⟩,
      ⟨some 25, none, .prim (.mov (.tmp 26))⟩])
    (.cond (.tmp 25)
    (.ops [⟨some 4, none, .prim (.mov (.const (Go.Value.int Go.IntKind.i64 6)))⟩])
    (.seq (.ops [⟨some 20, none, .prim (.load 6 true (.tmp 3))⟩,
      ⟨none, none, .prim (.store 6 (.tmp 2) (.tmp 20))⟩])
    .ret)))))))))
    (.seq (.ops [⟨some 27, none, .prim (.mov (.tmp 0))⟩,
      ⟨some 28, none, .prim (.nilc (.tmp 27))⟩,
      ⟨some 29, none, .prim (.fadr 1 (.tmp 28))⟩,
      ⟨some 30, none, .prim (.load 1 false (.tmp 29))⟩,
      ⟨some 31, none, .prim (.bin false .add (.tmp 30) (.const (Go.Value.int Go.IntKind.i64 1)))⟩,
      ⟨some 32, none, .prim (.nilc (.tmp 27))⟩,
      ⟨some 33, none, .prim (.fadr 1 (.tmp 32))⟩,
      ⟨none, none, .prim (.store 1 (.tmp 33) (.tmp 31))⟩])
    (.seq (.ops [⟨some 34, none, .prim (.mov (.tmp 4))⟩,
      ⟨some 35, none, .prim (.load 6 true (.tmp 3))⟩,
      ⟨some 36, none, .prim (.bsl false 6 true 1 [.pl (.int .i64 0), .pl (.int .u64 0), .pl (.int .u64 0), .pl (.int .u64 0), .pl (.int .u64 0), .nils] [(0, 6, (.tmp 35))])⟩,
      ⟨some 37, none, .prim (.build [.pl (.int .i64 0), .pl (.int .u64 0), .pl (.int .u64 0), .pl (.int .u64 0), .pl (.int .u64 0), .nils] [(0, 1, (.tmp 34)), (5, 1, (.tmp 36))])⟩,
      ⟨none, none, .prim (.store 6 (.tmp 2) (.tmp 37))⟩])
    .ret)))))))
def o43 : List Tmp := [2]
def r43 : List RV := [.cell 2 6 true]
theorem t43 : Text Try.prog 43 o43 c43 r43 38 := ⟨⟨Try.f43, _, by kernel_rfl, by kernel_rfl, rfl, by kernel_rfl, by kernel_rfl, rfl⟩, by kernel_rfl⟩

/-- (*sordine/rex.parser).atom -/
def c44 : ACode :=
  (.seq (.ops [⟨some 4, none, .prim (.allocm [.pl (.int .i64 0), .pl (.int .u64 0), .pl (.int .u64 0), .pl (.int .u64 0), .pl (.int .u64 0), .nils])⟩])
    (.seq (.ops [⟨some 7, none, .prim (.build [.pl (.int .i64 0), .pl (.int .u64 0), .pl (.int .u64 0), .pl (.int .u64 0), .pl (.int .u64 0), .nils] [(0, 1, (.const (Go.Value.int Go.IntKind.i64 1)))])⟩,
      ⟨some 5, none, .prim (.allocm [.pl (.int .i64 0), .pl (.int .u64 0), .pl (.int .u64 0), .pl (.int .u64 0), .pl (.int .u64 0), .nils])⟩,
      ⟨none, none, .prim (.store 6 (.tmp 5) (.tmp 7))⟩])
    (.seq (.seq (.ops [⟨some 8, none, .prim (.mov (.tmp 0))⟩,
      ⟨some 9, none, .call (.func 46) [(.tmp 8)]⟩,
      ⟨some 6, none, .prim (.mov (.tmp 9))⟩])
    (.seq (.ops [⟨some 10, none, .prim (.mov (.tmp 6))⟩])
    (.block 0 (.seq (.ops [⟨some 27, none, .prim (.bin false .eql (.tmp 10) (.const (Go.Value.int Go.IntKind.u8 40)))⟩,
      ⟨some 26, none, .prim (.mov (.tmp 27))⟩])
    (.cond (.tmp 26)
    (.seq (.ops [⟨some 28, none, .prim (.mov (.tmp 0))⟩,
      ⟨some 29, none, .prim (.mov (.tmp 0))⟩,
      ⟨some 30, none, .prim (.nilc (.tmp 29))⟩,
      ⟨some 31, none, .prim (.fadr 2 (.tmp 30))⟩,
      ⟨some 32, none, .prim (.load 1 false (.tmp 31))⟩,
      ⟨some 33, none, .prim (.mov (.tmp 32))⟩,
      ⟨some 34, (some (33, false)), .prim (.mov (.tmp 1))⟩,
      ⟨some 35, (some (33, false)), .prim (.bin false .eql (.tmp 34) (.const (Go.Value.int Go.IntKind.i64 8)))⟩,
      ⟨some 36, none, .prim (.pick (.tmp 33) (.const (Go.Value.bool Bool.true)) (.tmp 35))⟩,
      ⟨some 37, none, .prim (.nilc (.tmp 28))⟩,
      ⟨some 38, none, .prim (.fadr 2 (.tmp 37))⟩,
      ⟨none, none, .prim (.store 1 (.tmp 38) (.tmp 36))⟩])
    (.seq (.seq (.ops [⟨some 39, none, .prim (.mov (.tmp 0))⟩,
      ⟨some 40, none, .prim (.nilc (.tmp 39))⟩,
      ⟨some 41, none, .prim (.fadr 2 (.tmp 40))⟩,
      ⟨some 42, none, .prim (.load 1 false (.tmp 41))⟩,
      ⟨some 43, none, .prim (.un .not (.tmp 42))⟩])
    (.cond (.tmp 43)
    (.ops [⟨some 44, none, .prim (.mov (.tmp 0))⟩,
      ⟨some 45, none, .prim (.mov (.tmp 1))⟩,
      ⟨some 46, none, .prim (.bin false .add (.tmp 45) (.const (Go.Value.int Go.IntKind.i64 1)))⟩,
      ⟨some 47, none, .call (.func 20) [(.tmp 44), (.tmp 46)]⟩,
      ⟨none, none, .prim (.store 6 (.tmp 5) (.tmp 47))⟩])
    .skip))
    (.ops [⟨some 48, none, .prim (.mov (.tmp 0))⟩,
      ⟨some 49, none, .prim (.mov (.tmp 0))⟩,
      ⟨some 50, none, .call (.func 33) [(.tmp 49), (.const (Go.Value.int Go.IntKind.u8 41))]⟩,
      ⟨some 51, none, .prim (.un .not (.tmp 50))⟩,
      ⟨some 52, none, .prim (.mov (.tmp 51))⟩,
      ⟨some 53, (some (52, false)), .prim (.mov (.tmp 0))⟩,
      ⟨some 54, (some (52, false)), .prim (.nilc (.tmp 53))⟩,
      ⟨some 55, (some (52, false)), .prim (.fadr 2 (.tmp 54))⟩,
      ⟨some 56, (some (52, false)), .prim (.load 1 false (.tmp 55))⟩,
      ⟨some 57, none, .prim (.pick (.tmp 52) (.const (Go.Value.bool Bool.true)) (.tmp 56))⟩,
      ⟨some 58, none, .prim (.nilc (.tmp 48))⟩,
      ⟨some 59, none, .prim (.fadr 2 (.tmp 58))⟩,
      ⟨none, none, .prim (.store 1 (.tmp 59) (.tmp 57))⟩])))
    (.seq (.ops [⟨some 61, none, .prim (.bin false .eql (.tmp 10) (.const (Go.Value.int Go.IntKind.u8 91)))⟩,
      ⟨some 60, none, .prim (.mov (.tmp 61))⟩])
    (.cond (.tmp 60)
    (.ops [⟨some 62, none, .prim (.mov (.tmp 0))⟩,
      ⟨some 63, none, .call (.func 47) [(.tmp 62)]⟩,
      ⟨some 64, none, .prim (.fadr 1 (.tmp 5))⟩,
      ⟨none, none, .prim (.store 4 (.tmp 64) (.tmp 63))⟩])
    (.seq (.ops [⟨some 66, none, .prim (.bin false .eql (.tmp 10) (.const (Go.Value.int Go.IntKind.u8 46)))⟩,
      ⟨some 65, none, .prim (.mov (.tmp 66))⟩])
    (.cond (.tmp 65)
    (.ops [⟨some 67, none, .prim (.fadr 1 (.tmp 5))⟩,
      ⟨some 68, none, .prim (.load 4 true (.tmp 67))⟩,
      ⟨some 69, none, .call (.func 48) [(.tmp 68)]⟩,
      ⟨some 70, none, .prim (.fadr 1 (.tmp 5))⟩,
      ⟨none, none, .prim (.store 4 (.tmp 70) (.tmp 69))⟩])
    (.seq (.ops [⟨some 72, none, .prim (.bin false .eql (.tmp 10) (.const (Go.Value.int Go.IntKind.u8 92)))⟩,
      ⟨some 71, none, .prim (.mov (.tmp 72))⟩])
    (.cond (.tmp 71)
    (.ops [⟨some 73, none, .prim (.fadr 1 (.tmp 5))⟩,
      ⟨some 74, none, .prim (.mov (.tmp 0))⟩,
      ⟨some 75, none, .call (.func 50) [(.tmp 74)]⟩,
      ⟨some 76, none, .call (.func 49) [(.tmp 73), (.tmp 75)]⟩])
    (.seq (.ops [⟨some 11, none, .prim (.mov (.tmp 0))⟩,
      ⟨some 12, none, .prim (.mov (.tmp 0))⟩,
      ⟨some 13, none, .prim (.nilc (.tmp 12))⟩,
      ⟨some 14, none, .prim (.fadr 2 (.tmp 13))⟩,
      ⟨some 15, none, .prim (.load 1 false (.tmp 14))⟩,
      ⟨some 16, none, .prim (.mov (.tmp 15))⟩,
      ⟨some 17, (some (16, false)), .prim (.mov (.tmp 6))⟩,
      ⟨some 18, (some (16, false)), .call (.func 51) [(.const (Go.Value.string (ByteArray.mk #[42, 43, 63, 93]))), (.tmp 17)]⟩,
      ⟨some 19, (some (16, false)), .prim (.bin false .geq (.tmp 18) (.const (Go.Value.int Go.IntKind.i64 0)))⟩,
      ⟨some 20, none, .prim (.pick (.tmp 16) (.const (Go.Value.bool Bool.true)) (.tmp 19))⟩,
      ⟨some 21, none, .prim (.nilc (.tmp 11))⟩,
      ⟨some 22, none, .prim (.fadr 2 (.tmp 21))⟩,
      ⟨none, none, .prim (.store 1 (.tmp 22) (.tmp 20))⟩])
    (.ops [⟨some 23, none, .prim (.fadr 1 (.tmp 5))⟩,
      ⟨some 24, none, .prim (.mov (.tmp 6))⟩,
      ⟨some 25, none, .call (.func 49) [(.tmp 23), (.tmp 24)]⟩])))))))))))))
    (.seq (.ops [⟨some 77, none, .prim (.load 6 true (.tmp 5))⟩,
      ⟨none, none, .prim (.store 6 (.tmp 4) (.tmp 77))⟩])
    .ret))))
def o44 : List Tmp := [4, 5]
def r44 : List RV := [.cell 4 6 true]
theorem t44 : Text Try.prog 44 o44 c44 r44 78 := ⟨⟨Try.f44, _, by kernel_rfl, by kernel_rfl, rfl, by kernel_rfl, by kernel_rfl, rfl⟩, by kernel_rfl⟩

/-- (*sordine/sordineref5.parser).atom -/
def c45 : ACode :=
  (.seq (.ops [⟨some 2, none, .prim (.allocm [.pl (.int .i64 0), .pl (.int .u64 0), .pl (.int .u64 0), .pl (.int .u64 0), .pl (.int .u64 0), .nils])⟩])
    (.seq (.draw [⟨⟨some 5, none, .prim (.mov (.tmp 0))⟩, [], false, 0, 0⟩,
      ⟨⟨some 6, none, .prim (.nilc (.tmp 5))⟩, [0], false, 0, 0⟩,
      ⟨⟨some 7, none, .prim (.fadr 0 (.tmp 6))⟩, [0, 1], false, 0, 0⟩,
      ⟨⟨some 8, none, .prim (.load 1 false (.tmp 7))⟩, [0, 1, 2], false, 0, 0⟩,
      ⟨⟨some 9, none, .prim (.mov (.tmp 0))⟩, [], false, 0, 0⟩,
      ⟨⟨some 10, none, .prim (.nilc (.tmp 9))⟩, [4], false, 0, 0⟩,
      ⟨⟨some 11, none, .prim (.fadr 1 (.tmp 10))⟩, [4, 5], false, 0, 0⟩,
      ⟨⟨some 12, none, .prim (.load 1 false (.tmp 11))⟩, [4, 5, 6], false, 0, 0⟩,
      ⟨⟨some 13, none, .prim (.idxs (.tmp 8) (.tmp 12))⟩, [0, 1, 2, 3, 4, 5, 6, 7], false, 0, 0⟩,
      ⟨⟨some 3, none, .prim (.mov (.tmp 13))⟩, [0, 1, 2, 3, 4, 5, 6, 7, 8], false, 0, 0⟩])
    (.seq (.ops [⟨some 14, none, .prim (.mov (.tmp 0))⟩,
      ⟨some 15, none, .prim (.nilc (.tmp 14))⟩,
      ⟨some 16, none, .prim (.fadr 1 (.tmp 15))⟩,
      ⟨some 17, none, .prim (.load 1 false (.tmp 16))⟩,
      ⟨some 18, none, .prim (.bin false .add (.tmp 17) (.const (Go.Value.int Go.IntKind.i64 1)))⟩,
      ⟨some 19, none, .prim (.nilc (.tmp 14))⟩,
      ⟨some 20, none, .prim (.fadr 1 (.tmp 19))⟩,
      ⟨none, none, .prim (.store 1 (.tmp 20) (.tmp 18))⟩])
    (.seq (.block 0 (.seq (.ops [⟨some 22, none, .prim (.mov (.tmp 3))⟩,
      ⟨some 23, none, .prim (.bin false .eql (.tmp 22) (.const (Go.Value.int Go.IntKind.u8 46)))⟩,
      ⟨some 21, none, .prim (.mov (.tmp 23))⟩])
    (.cond (.tmp 21)
    (.seq (.ops [⟨some 24, none, .prim (.build [.pl (.int .u64 0), .pl (.int .u64 0), .pl (.int .u64 0), .pl (.int .u64 0)] [(0, 1, (.const (Go.Value.int Go.IntKind.u64 18446744073709551615))), (1, 1, (.const (Go.Value.int Go.IntKind.u64 18446744073709551615))), (2, 1, (.const (Go.Value.int Go.IntKind.u64 18446744073709551615))), (3, 1, (.const (Go.Value.int Go.IntKind.u64 18446744073709551615)))])⟩,
      ⟨some 25, none, .prim (.build [.pl (.int .i64 0), .pl (.int .u64 0), .pl (.int .u64 0), .pl (.int .u64 0), .pl (.int .u64 0), .nils] [(0, 1, (.const (Go.Value.int Go.IntKind.i64 1))), (1, 4, (.tmp 24))])⟩,
      ⟨none, none, .prim (.store 6 (.tmp 2) (.tmp 25))⟩])
    .ret)
    (.seq (.ops [⟨some 27, none, .prim (.mov (.tmp 3))⟩,
      ⟨some 28, none, .prim (.bin false .eql (.tmp 27) (.const (Go.Value.int Go.IntKind.u8 92)))⟩,
      ⟨some 26, none, .prim (.mov (.tmp 28))⟩])
    (.cond (.tmp 26)
    (.seq (.seq (.draw [⟨⟨some 29, none, .prim (.mov (.tmp 0))⟩, [], false, 0, 0⟩,
      ⟨⟨some 30, none, .call (.func 38) [(.tmp 29)]⟩, [0], true, 0, 0⟩,
      ⟨⟨some 31, none, .prim (.un .not (.tmp 30))⟩, [0, 1], false, 1, 1⟩,
      ⟨⟨some 32, none, .prim (.mov (.tmp 31))⟩, [0, 1, 2], false, 1, 1⟩,
      ⟨⟨some 33, (some (32, false)), .prim (.mov (.tmp 0))⟩, [0, 1, 2, 3], false, 1, 1⟩,
      ⟨⟨some 34, (some (32, false)), .prim (.nilc (.tmp 33))⟩, [0, 1, 2, 3, 4], false, 1, 1⟩,
      ⟨⟨some 35, (some (32, false)), .prim (.fadr 0 (.tmp 34))⟩, [0, 1, 2, 3, 4, 5], false, 1, 1⟩,
      ⟨⟨some 36, (some (32, false)), .prim (.load 1 false (.tmp 35))⟩, [0, 1, 2, 3, 4, 5, 6], false, 1, 1⟩,
      ⟨⟨some 37, (some (32, false)), .prim (.mov (.tmp 0))⟩, [0, 1, 2, 3], false, 1, 1⟩,
      ⟨⟨some 38, (some (32, false)), .prim (.nilc (.tmp 37))⟩, [0, 1, 2, 3, 8], false, 1, 1⟩,
      ⟨⟨some 39, (some (32, false)), .prim (.fadr 1 (.tmp 38))⟩, [0, 1, 2, 3, 8, 9], false, 1, 1⟩,
      ⟨⟨some 40, (some (32, false)), .prim (.load 1 false (.tmp 39))⟩, [0, 1, 2, 3, 8, 9, 10], false, 1, 1⟩,
      ⟨⟨some 41, (some (32, false)), .prim (.idxs (.tmp 36) (.tmp 40))⟩, [0, 1, 2, 3, 4, 5, 6, 7, 8, 9, 10, 11], false, 1, 1⟩,
      ⟨⟨some 42, (some (32, false)), .call (.func 52) [(.tmp 41)]⟩, [0, 1, 2, 3, 4, 5, 6, 7, 8, 9, 10, 11, 12], true, 0, 0⟩,
      ⟨⟨some 43, (some (32, false)), .prim (.un .not (.tmp 42))⟩, [0, 1, 2, 3, 4, 5, 6, 7, 8, 9, 10, 11, 12, 13], false, 2, 2⟩,
      ⟨⟨some 44, none, .prim (.pick (.tmp 32) (.const (Go.Value.bool Bool.true)) (.tmp 43))⟩, [0, 1, 2, 3, 4, 5, 6, 7, 8, 9, 10, 11, 12, 13, 14], false, 2, 2⟩])
    (.cond (.tmp 44)
    (.seq (.ops [⟨some 45, none, .prim (.mov (.tmp 0))⟩,
      ⟨some 46, none, .call (.func 53) [(.tmp 45)]⟩])
    (.seq (.ops [⟨some 47, none, .prim (.build [.pl (.int .i64 0), .pl (.int .u64 0), .pl (.int .u64 0), .pl (.int .u64 0), .pl (.int .u64 0), .nils] [])⟩,
      ⟨none, none, .prim (.store 6 (.tmp 2) (.tmp 47))⟩])
    .ret))
    .skip))
    (.seq (.ops [⟨some 48, none, .prim (.mov (.tmp 0))⟩,
      ⟨some 49, none, .prim (.nilc (.tmp 48))⟩,
      ⟨some 50, none, .prim (.fadr 1 (.tmp 49))⟩,
      ⟨some 51, none, .prim (.load 1 false (.tmp 50))⟩,
      ⟨some 52, none, .prim (.bin false .add (.tmp 51) (.const (Go.Value.int Go.IntKind.i64 1)))⟩,
      ⟨some 53, none, .prim (.nilc (.tmp 48))⟩,
      ⟨some 54, none, .prim (.fadr 1 (.tmp 53))⟩,
      ⟨none, none, .prim (.store 1 (.tmp 54) (.tmp 52))⟩])
    (.seq (.draw [⟨⟨some 55, none, .prim (.mov (.tmp 0))⟩, [], false, 0, 0⟩,
      ⟨⟨some 56, none, .prim (.nilc (.tmp 55))⟩, [0], false, 0, 0⟩,
      ⟨⟨some 57, none, .prim (.fadr 0 (.tmp 56))⟩, [0, 1], false, 0, 0⟩,
      ⟨⟨some 58, none, .prim (.load 1 false (.tmp 57))⟩, [0, 1, 2], false, 0, 0⟩,
      ⟨⟨some 59, none, .prim (.mov (.tmp 0))⟩, [], false, 0, 0⟩,
      ⟨⟨some 60, none, .prim (.nilc (.tmp 59))⟩, [4], false, 0, 0⟩,
      ⟨⟨some 61, none, .prim (.fadr 1 (.tmp 60))⟩, [4, 5], false, 0, 0⟩,
      ⟨⟨some 62, none, .prim (.load 1 false (.tmp 61))⟩, [4, 5, 6], false, 0, 0⟩,
      ⟨⟨some 63, none, .prim (.bin false .sub (.tmp 62) (.const (Go.Value.int Go.IntKind.i64 1)))⟩, [4, 5, 6, 7], false, 0, 0⟩,
      ⟨⟨some 64, none, .prim (.idxs (.tmp 58) (.tmp 63))⟩, [0, 1, 2, 3, 4, 5, 6, 7, 8], false, 0, 0⟩,
      ⟨⟨some 65, none, .call (.func 54) [(.tmp 64)]⟩, [0, 1, 2, 3, 4, 5, 6, 7, 8, 9], true, 0, 0⟩,
      ⟨⟨some 66, none, .prim (.build [.pl (.int .i64 0), .pl (.int .u64 0), .pl (.int .u64 0), .pl (.int .u64 0), .pl (.int .u64 0), .nils] [(0, 1, (.const (Go.Value.int Go.IntKind.i64 1))), (1, 4, (.tmp 65))])⟩, [0, 1, 2, 3, 4, 5, 6, 7, 8, 9, 10], false, 1, 1⟩,
      ⟨⟨none, none, .prim (.store 6 (.tmp 2) (.tmp 66))⟩, [0, 1, 2, 3, 4, 5, 6, 7, 8, 9, 10, 11], true, 0, 0⟩])
    .ret)))
    (.seq (.ops [⟨some 68, none, .prim (.mov (.tmp 3))⟩,
      ⟨some 69, none, .prim (.bin false .eql (.tmp 68) (.const (Go.Value.int Go.IntKind.u8 40)))⟩,
      ⟨some 67, none, .prim (.mov (.tmp 69))⟩])
    (.cond (.tmp 67)
    (.seq (.ops [⟨some 70, none, .prim (.mov (.tmp 0))⟩,
      ⟨some 71, none, .prim (.nilc (.tmp 70))⟩,
      ⟨some 72, none, .prim (.fadr 2 (.tmp 71))⟩,
      ⟨some 73, none, .prim (.load 1 false (.tmp 72))⟩,
      ⟨some 74, none, .prim (.bin false .add (.tmp 73) (.const (Go.Value.int Go.IntKind.i64 1)))⟩,
      ⟨some 75, none, .prim (.nilc (.tmp 70))⟩,
      ⟨some 76, none, .prim (.fadr 2 (.tmp 75))⟩,
      ⟨none, none, .prim (.store 1 (.tmp 76) (.tmp 74))⟩])
    (.seq (.seq (.ops [⟨some 77, none, .prim (.mov (.tmp 0))⟩,
      ⟨some 78, none, .prim (.nilc (.tmp 77))⟩,
      ⟨some 79, none, .prim (.fadr 2 (.tmp 78))⟩,
      ⟨some 80, none, .prim (.load 1 false (.tmp 79))⟩,
      ⟨some 81, none, .prim (.bin false .gtr (.tmp 80) (.const (Go.Value.int Go.IntKind.i64 8)))⟩])
    (.cond (.tmp 81)
    (.seq (.ops [⟨some 82, none, .prim (.mov (.tmp 0))⟩,
      ⟨some 83, none, .call (.func 53) [(.tmp 82)]⟩])
    (.seq (.ops [⟨some 84, none, .prim (.build [.pl (.int .i64 0), .pl (.int .u64 0), .pl (.int .u64 0), .pl (.int .u64 0), .pl (.int .u64 0), .nils] [])⟩,
      ⟨none, none, .prim (.store 6 (.tmp 2) (.tmp 84))⟩])
    .ret))
    .skip))
    (.seq (.ops [⟨some 85, none, .prim (.mov (.tmp 0))⟩,
      ⟨some 86, none, .call (.func 29) [(.tmp 85)]⟩,
      ⟨some 4, none, .fresh 6 4 (.tmp 86)⟩])
    (.seq (.seq (.draw [⟨⟨some 87, none, .prim (.mov (.tmp 0))⟩, [], false, 0, 0⟩,
      ⟨⟨some 88, none, .call (.func 38) [(.tmp 87)]⟩, [0], true, 0, 0⟩,
      ⟨⟨some 89, none, .prim (.un .not (.tmp 88))⟩, [0, 1], false, 1, 1⟩,
      ⟨⟨some 90, none, .prim (.mov (.tmp 89))⟩, [0, 1, 2], false, 1, 1⟩,
      ⟨⟨some 91, (some (90, false)), .prim (.mov (.tmp 0))⟩, [0, 1, 2, 3], false, 1, 1⟩,
      ⟨⟨some 92, (some (90, false)), .prim (.nilc (.tmp 91))⟩, [0, 1, 2, 3, 4], false, 1, 1⟩,
      ⟨⟨some 93, (some (90, false)), .prim (.fadr 0 (.tmp 92))⟩, [0, 1, 2, 3, 4, 5], false, 1, 1⟩,
      ⟨⟨some 94, (some (90, false)), .prim (.load 1 false (.tmp 93))⟩, [0, 1, 2, 3, 4, 5, 6], false, 1, 1⟩,
      ⟨⟨some 95, (some (90, false)), .prim (.mov (.tmp 0))⟩, [0, 1, 2, 3], false, 1, 1⟩,
      ⟨⟨some 96, (some (90, false)), .prim (.nilc (.tmp 95))⟩, [0, 1, 2, 3, 8], false, 1, 1⟩,
      ⟨⟨some 97, (some (90, false)), .prim (.fadr 1 (.tmp 96))⟩, [0, 1, 2, 3, 8, 9], false, 1, 1⟩,
      ⟨⟨some 98, (some (90, false)), .prim (.load 1 false (.tmp 97))⟩, [0, 1, 2, 3, 8, 9, 10], false, 1, 1⟩,
      ⟨⟨some 99, (some (90, false)), .prim (.idxs (.tmp 94) (.tmp 98))⟩, [0, 1, 2, 3, 4, 5, 6, 7, 8, 9, 10, 11], false, 1, 1⟩,
      ⟨⟨some 100, (some (90, false)), .prim (.bin false .neq (.tmp 99) (.const (Go.Value.int Go.IntKind.u8 41)))⟩, [0, 1, 2, 3, 4, 5, 6, 7, 8, 9, 10, 11, 12], false, 1, 1⟩,
      ⟨⟨some 101, none, .prim (.pick (.tmp 90) (.const (Go.Value.bool Bool.true)) (.tmp 100))⟩, [0, 1, 2, 3, 4, 5, 6, 7, 8, 9, 10, 11, 12, 13], false, 1, 1⟩])
    (.cond (.tmp 101)
    (.seq (.ops [⟨some 102, none, .prim (.mov (.tmp 0))⟩,
      ⟨some 103, none, .call (.func 53) [(.tmp 102)]⟩])
    (.seq (.ops [⟨some 104, none, .prim (.build [.pl (.int .i64 0), .pl (.int .u64 0), .pl (.int .u64 0), .pl (.int .u64 0), .pl (.int .u64 0), .nils] [])⟩,
      ⟨none, none, .prim (.store 6 (.tmp 2) (.tmp 104))⟩])
    .ret))
    .skip))
    (.seq (.ops [⟨some 105, none, .prim (.mov (.tmp 0))⟩,
      ⟨some 106, none, .prim (.nilc (.tmp 105))⟩,
      ⟨some 107, none, .prim (.fadr 1 (.tmp 106))⟩,
      ⟨some 108, none, .prim (.load 1 false (.tmp 107))⟩,
      ⟨some 109, none, .prim (.bin false .add (.tmp 108) (.const (Go.Value.int Go.IntKind.i64 1)))⟩,
      ⟨some 110, none, .prim (.nilc (.tmp 105))⟩,
      ⟨some 111, none, .prim (.fadr 1 (.tmp 110))⟩,
      ⟨none, none, .prim (.store 1 (.tmp 111) (.tmp 109))⟩])
    (.seq (.ops [⟨some 112, none, .prim (.mov (.tmp 0))⟩,
      ⟨some 113, none, .prim (.nilc (.tmp 112))⟩,
      ⟨some 114, none, .prim (.fadr 2 (.tmp 113))⟩,
      ⟨some 115, none, .prim (.load 1 false (.tmp 114))⟩,
      ⟨some 116, none, .prim (.bin false .sub (.tmp 115) (.const (Go.Value.int Go.IntKind.i64 1)))⟩,
      ⟨some 117, none, .prim (.nilc (.tmp 112))⟩,
      ⟨some 118, none, .prim (.fadr 2 (.tmp 117))⟩,
      ⟨none, none, .prim (.store 1 (.tmp 118) (.tmp 116))⟩])
    (.seq (.ops [⟨some 119, none, .prim (.load 6 true (.tmp 4))⟩,
      ⟨none, none, .prim (.store 6 (.tmp 2) (.tmp 119))⟩])
    .ret)))))))
    (.seq (.ops [⟨some 121, none, .prim (.mov (.tmp 3))⟩,
      ⟨some 122, none, .prim (.bin false .eql (.tmp 121) (.const (Go.Value.int Go.IntKind.u8 91)))⟩,
      ⟨some 120, none, .prim (.mov (.tmp 122))⟩])
    (.cond (.tmp 120)
    (.seq (.ops [⟨some 123, none, .prim (.mov (.tmp 0))⟩,
      ⟨some 124, none, .call (.func 55) [(.tmp 123)]⟩,
      ⟨none, none, .prim (.store 6 (.tmp 2) (.tmp 124))⟩])
    .ret)
    (.seq (.ops [⟨some 126, none, .prim (.mov (.tmp 3))⟩,
      ⟨some 127, none, .call (.func 56) [(.tmp 126)]⟩,
      ⟨some 125, none, .prim (.mov (.tmp 127))⟩])
    (.cond (.tmp 125)
    (.seq (.ops [⟨some 128, none, .prim (.mov (.tmp 0))⟩,
      ⟨some 129, none, .call (.func 53) [(.tmp 128)]⟩])
    (.seq (.ops [⟨some 130, none, .prim (.build [.pl (.int .i64 0), .pl (.int .u64 0), .pl (.int .u64 0), .pl (.int .u64 0), .pl (.int .u64 0), .nils] [])⟩,
      ⟨none, none, .prim (.store 6 (.tmp 2) (.tmp 130))⟩])
    .ret))
    .skip)))))))))))
    (.seq (.ops [⟨some 131, none, .prim (.mov (.tmp 3))⟩,
      ⟨some 132, none, .call (.func 54) [(.tmp 131)]⟩,
      ⟨some 133, none, .prim (.build [.pl (.int .i64 0), .pl (.int .u64 0), .pl (.int .u64 0), .pl (.int .u64 0), .pl (.int .u64 0), .nils] [(0, 1, (.const (Go.Value.int Go.IntKind.i64 1))), (1, 4, (.tmp 132))])⟩,
      ⟨none, none, .prim (.store 6 (.tmp 2) (.tmp 133))⟩])
    .ret)))))
def o45 : List Tmp := [2]
def r45 : List RV := [.cell 2 6 true]
theorem t45 : Text Try.prog 45 o45 c45 r45 134 := ⟨⟨Try.f45, _, by kernel_rfl, by kernel_rfl, rfl, by kernel_rfl, by kernel_rfl, rfl⟩, by kernel_rfl⟩

/-- (*sordine/rex.parser).byte -/
def c46 : ACode :=
  (.seq (.ops [⟨some 2, none, .prim (.mov (.const (Go.Value.int Go.IntKind.u8 0)))⟩])
    (.seq (.seq (.ops [⟨some 3, none, .prim (.mov (.tmp 0))⟩,
      ⟨some 4, none, .call (.func 40) [(.tmp 3)]⟩])
    (.cond (.tmp 4)
    (.seq (.ops [⟨some 5, none, .prim (.mov (.tmp 0))⟩,
      ⟨some 6, none, .prim (.nilc (.tmp 5))⟩,
      ⟨some 7, none, .prim (.fadr 2 (.tmp 6))⟩,
      ⟨none, none, .prim (.store 1 (.tmp 7) (.const (Go.Value.bool Bool.true)))⟩])
    (.seq (.ops [⟨some 2, none, .prim (.mov (.const (Go.Value.int Go.IntKind.u8 0)))⟩])
    .ret))
    .skip))
    (.seq (.ops [⟨some 8, none, .prim (.mov (.tmp 0))⟩,
      ⟨some 9, none, .prim (.nilc (.tmp 8))⟩,
      ⟨some 10, none, .prim (.fadr 1 (.tmp 9))⟩,
      ⟨some 11, none, .prim (.load 1 false (.tmp 10))⟩,
      ⟨some 12, none, .prim (.bin false .add (.tmp 11) (.const (Go.Value.int Go.IntKind.i64 1)))⟩,
      ⟨some 13, none, .prim (.nilc (.tmp 8))⟩,
      ⟨some 14, none, .prim (.fadr 1 (.tmp 13))⟩,
      ⟨none, none, .prim (.store 1 (.tmp 14) (.tmp 12))⟩])
    (.seq (.draw [⟨⟨some 15, none, .prim (.mov (.tmp 0))⟩, [], false, 0, 0⟩,
      ⟨⟨some 16, none, .prim (.nilc (.tmp 15))⟩, [0], false, 0, 0⟩,
      ⟨⟨some 17, none, .prim (.fadr 0 (.tmp 16))⟩, [0, 1], false, 0, 0⟩,
      ⟨⟨some 18, none, .prim (.load 1 false (.tmp 17))⟩, [0, 1, 2], false, 0, 0⟩,
      ⟨⟨some 19, none, .prim (.mov (.tmp 0))⟩, [], false, 0, 0⟩,
      ⟨⟨some 20, none, .prim (.nilc (.tmp 19))⟩, [4], false, 0, 0⟩,
      ⟨⟨some 21, none, .prim (.fadr 1 (.tmp 20))⟩, [4, 5], false, 0, 0⟩,
      ⟨⟨some 22, none, .prim (.load 1 false (.tmp 21))⟩, [4, 5, 6], false, 0, 0⟩,
      ⟨⟨some 23, none, .prim (.bin false .sub (.tmp 22) (.const (Go.Value.int Go.IntKind.i64 1)))⟩, [4, 5, 6, 7], false, 0, 0⟩,
      ⟨⟨some 24, none, .prim (.idxs (.tmp 18) (.tmp 23))⟩, [0, 1, 2, 3, 4, 5, 6, 7, 8], false, 0, 0⟩,
      ⟨⟨some 2, none, .prim (.mov (.tmp 24))⟩, [0, 1, 2, 3, 4, 5, 6, 7, 8, 9], false, 0, 0⟩])
    .ret))))
def o46 : List Tmp := []
def r46 : List RV := [.tmp 2]
theorem t46 : Text Try.prog 46 o46 c46 r46 25 := ⟨⟨Try.f46, _, by kernel_rfl, by kernel_rfl, rfl, by kernel_rfl, by kernel_rfl, rfl⟩, by kernel_rfl⟩

/-- (*sordine/rex.parser).class -/
def c47 : ACode :=
  (.seq (.ops [⟨some 2, none, .prim (.allocm [.pl (.int .u64 0), .pl (.int .u64 0), .pl (.int .u64 0), .pl (.int .u64 0)])⟩])
    (.seq (.ops [⟨some 3, none, .prim (.allocm [.pl (.int .u64 0), .pl (.int .u64 0), .pl (.int .u64 0), .pl (.int .u64 0)])⟩])
    (.seq (.ops [⟨some 9, none, .prim (.mov (.tmp 0))⟩,
      ⟨some 10, none, .call (.func 33) [(.tmp 9), (.const (Go.Value.int Go.IntKind.u8 94))]⟩,
      ⟨some 4, none, .prim (.mov (.tmp 10))⟩])
    (.seq (.seq (.ops [⟨some 5, none, .prim (.mov (.const (Go.Value.bool Bool.true)))⟩])
    (.block 0 (.loop [1, 6, 7, 8, 9, 10, 11, 12, 13, 14, 15, 16, 17, 18, 19, 20, 21, 22, 23, 24, 25, 26, 27, 28, 29, 30, 31, 32, 33, 34, 35, 36, 37, 38, 39, 40, 41, 42, 43, 44, 45, 46, 47, 48, 49, 50, 51, 52, 53, 54, 55, 56, 57, 58, 59, 60, 61, 62, 63, 64, 65, 66, 67] (.seq (.seq (.ops [⟨some 11, none, .prim (.mov (.tmp 5))⟩,
      ⟨some 12, none, .prim (.mov (.tmp 11))⟩,
      ⟨some 13, (some (12, false)), .prim (.mov (.tmp 0))⟩,
      ⟨some 14, (some (12, false)), .call (.func 40) [(.tmp 13)]⟩,
      ⟨some 15, (some (12, false)), .prim (.un .not (.tmp 14))⟩,
      ⟨some 16, (some (12, false)), .prim (.mov (.tmp 15))⟩,
      ⟨some 17, (some (16, true)), .prim (.mov (.tmp 0))⟩,
      ⟨some 18, (some (16, true)), .call (.func 41) [(.tmp 17), (.const (Go.Value.int Go.IntKind.u8 93))]⟩,
      ⟨some 19, (some (16, true)), .prim (.un .not (.tmp 18))⟩,
      ⟨some 20, (some (12, false)), .prim (.pick (.tmp 16) (.tmp 19) (.const (Go.Value.bool Bool.false)))⟩,
      ⟨some 21, none, .prim (.pick (.tmp 12) (.const (Go.Value.bool Bool.true)) (.tmp 20))⟩])
    (.cond (.tmp 21)
    .skip
    (.exit 0)))
    (.seq (.block 1 (.seq (.ops [⟨some 22, none, .prim (.mov (.tmp 0))⟩,
      ⟨some 23, none, .call (.func 57) [(.tmp 22)]⟩,
      ⟨some 6, none, .prim (.mov (.tmp 23))⟩])
    (.seq (.ops [⟨some 24, none, .prim (.mov (.tmp 6))⟩,
      ⟨some 7, none, .prim (.mov (.tmp 24))⟩])
    (.seq (.seq (.ops [⟨some 25, none, .prim (.mov (.tmp 0))⟩,
      ⟨some 26, none, .call (.func 33) [(.tmp 25), (.const (Go.Value.int Go.IntKind.u8 45))]⟩])
    (.cond (.tmp 26)
    (.ops [⟨some 27, none, .prim (.mov (.tmp 0))⟩,
      ⟨some 28, none, .call (.func 57) [(.tmp 27)]⟩,
      ⟨some 7, none, .prim (.mov (.tmp 28))⟩])
    .skip))
    (.seq (.ops [⟨some 29, none, .prim (.mov (.tmp 0))⟩,
      ⟨some 30, none, .prim (.mov (.tmp 0))⟩,
      ⟨some 31, none, .prim (.nilc (.tmp 30))⟩,
      ⟨some 32, none, .prim (.fadr 2 (.tmp 31))⟩,
      ⟨some 33, none, .prim (.load 1 false (.tmp 32))⟩,
      ⟨some 34, none, .prim (.mov (.tmp 33))⟩,
      ⟨some 35, (some (34, false)), .prim (.mov (.tmp 7))⟩,
      ⟨some 36, (some (34, false)), .prim (.mov (.tmp 6))⟩,
      ⟨some 37, (some (34, false)), .prim (.bin false .lss (.tmp 35) (.tmp 36))⟩,
      ⟨some 38, none, .prim (.pick (.tmp 34) (.const (Go.Value.bool Bool.true)) (.tmp 37))⟩,
      ⟨some 39, none, .prim (.nilc (.tmp 29))⟩,
      ⟨some 40, none, .prim (.fadr 2 (.tmp 39))⟩,
      ⟨none, none, .prim (.store 1 (.tmp 40) (.tmp 38))⟩])
    (.seq (.ops [⟨some 41, none, .prim (.mov (.tmp 6))⟩,
      ⟨some 42, none, .prim (.convi .i64 (.tmp 41))⟩,
      ⟨some 8, none, .prim (.mov (.tmp 42))⟩])
    (.block 2 (.loop [1, 5, 6, 9, 10, 11, 12, 13, 14, 15, 16, 17, 18, 19, 20, 21, 22, 23, 24, 25, 26, 27, 28, 29, 30, 31, 32, 33, 34, 35, 36, 37, 38, 39, 40, 41, 42, 43, 44, 45, 46, 47, 48, 49, 50, 51, 52, 53, 54, 55, 56, 57, 58, 59, 60, 61, 62, 63, 64, 65, 66, 67] (.seq (.seq (.ops [⟨some 43, none, .prim (.mov (.tmp 8))⟩,
      ⟨some 44, none, .prim (.mov (.tmp 7))⟩,
      ⟨some 45, none, .prim (.convi .i64 (.tmp 44))⟩,
      ⟨some 46, none, .prim (.bin false .leq (.tmp 43) (.tmp 45))⟩])
    (.cond (.tmp 46)
    .skip
    (.exit 2)))
    (.seq (.block 3 (.ops [⟨some 49, none, .prim (.mov (.tmp 8))⟩,
      ⟨some 50, none, .prim (.convi .u8 (.tmp 49))⟩,
      ⟨some 51, none, .call (.func 49) [(.tmp 3), (.tmp 50)]⟩]))
    (.ops [⟨some 47, none, .prim (.mov (.tmp 8))⟩,
      ⟨some 48, none, .prim (.bin false .add (.tmp 47) (.const (Go.Value.int Go.IntKind.i64 1)))⟩,
      ⟨some 8, none, .prim (.mov (.tmp 48))⟩])))))))))))
    (.ops [⟨some 5, none, .prim (.mov (.const (Go.Value.bool Bool.false)))⟩]))))))
    (.seq (.ops [⟨some 52, none, .prim (.mov (.tmp 0))⟩,
      ⟨some 53, none, .prim (.mov (.tmp 0))⟩,
      ⟨some 54, none, .call (.func 33) [(.tmp 53), (.const (Go.Value.int Go.IntKind.u8 93))]⟩,
      ⟨some 55, none, .prim (.un .not (.tmp 54))⟩,
      ⟨some 56, none, .prim (.mov (.tmp 55))⟩,
      ⟨some 57, (some (56, false)), .prim (.mov (.tmp 0))⟩,
      ⟨some 58, (some (56, false)), .prim (.nilc (.tmp 57))⟩,
      ⟨some 59, (some (56, false)), .prim (.fadr 2 (.tmp 58))⟩,
      ⟨some 60, (some (56, false)), .prim (.load 1 false (.tmp 59))⟩,
      ⟨some 61, none, .prim (.pick (.tmp 56) (.const (Go.Value.bool Bool.true)) (.tmp 60))⟩,
      ⟨some 62, none, .prim (.nilc (.tmp 52))⟩,
      ⟨some 63, none, .prim (.fadr 2 (.tmp 62))⟩,
      ⟨none, none, .prim (.store 1 (.tmp 63) (.tmp 61))⟩])
    (.seq (.seq (.ops [⟨some 64, none, .prim (.mov (.tmp 4))⟩])
    (.cond (.tmp 64)
    (.seq (.ops [⟨some 65, none, .prim (.load 4 true (.tmp 3))⟩,
      ⟨some 66, none, .call (.func 48) [(.tmp 65)]⟩,
      ⟨none, none, .prim (.store 4 (.tmp 2) (.tmp 66))⟩])
    .ret)
    .skip))
    (.seq (.ops [⟨some 67, none, .prim (.load 4 true (.tmp 3))⟩,
      ⟨none, none, .prim (.store 4 (.tmp 2) (.tmp 67))⟩])
    .ret)))))))
def o47 : List Tmp := [2, 3]
def r47 : List RV := [.cell 2 4 true]
theorem t47 : Text Try.prog 47 o47 c47 r47 68 := ⟨⟨Try.f47, _, by kernel_rfl, by kernel_rfl, rfl, by kernel_rfl, by kernel_rfl, rfl⟩, by kernel_rfl⟩

/-- sordine/rex.turned -/
def c48 : ACode :=
  (.seq (.ops [⟨some 1, none, .prim (.boxm (.tmp 0))⟩,
      ⟨some 2, none, .prim (.allocm [.pl (.int .u64 0), .pl (.int .u64 0), .pl (.int .u64 0), .pl (.int .u64 0)])⟩])
    (.seq (.seq (.ops [⟨some 4, none, .prim (.mov (.const (Go.Value.int Go.IntKind.i64 0)))⟩])
    (.block 0 (.loop [0, 3, 5, 6, 7, 8, 9, 10, 11, 12, 13, 14] (.seq (.ops [⟨some 5, none, .prim (.bin false .lss (.tmp 4) (.const (Go.Value.int Go.IntKind.i64 4)))⟩])
    (.seq (.cond (.tmp 5)
    .skip
    (.exit 0))
    (.seq (.block 1 (.seq (.ops [⟨some 6, none, .prim (.mov (.tmp 4))⟩,
      ⟨some 3, none, .prim (.mov (.tmp 6))⟩])
    (.ops [⟨some 7, none, .prim (.mov (.tmp 3))⟩,
      ⟨some 8, none, .prim (.mov (.tmp 3))⟩,
      ⟨some 9, none, .prim (.iadra 1 4 (.tmp 1) (.tmp 8))⟩,
      ⟨some 10, none, .prim (.load 1 false (.tmp 9))⟩,
      ⟨some 11, none, .prim (.un .xor (.tmp 10))⟩,
      ⟨some 12, none, .prim (.iadra 1 4 (.tmp 1) (.tmp 7))⟩,
      ⟨none, none, .prim (.store 1 (.tmp 12) (.tmp 11))⟩])))
    (.ops [⟨some 13, none, .prim (.bin false .add (.tmp 4) (.const (Go.Value.int Go.IntKind.i64 1)))⟩,
      ⟨some 4, none, .prim (.mov (.tmp 13))⟩])))))))
    (.seq (.ops [⟨some 14, none, .prim (.load 4 true (.tmp 1))⟩,
      ⟨none, none, .prim (.store 4 (.tmp 2) (.tmp 14))⟩])
    .ret)))
def o48 : List Tmp := [1, 2]
def r48 : List RV := [.cell 2 4 true]
theorem t48 : Text Try.prog 48 o48 c48 r48 15 := ⟨⟨Try.f48, _, by kernel_rfl, by kernel_rfl, rfl, by kernel_rfl, by kernel_rfl, rfl⟩, by kernel_rfl⟩

/-- sordine/rex.add -/
def c49 : ACode :=
  (.draw [⟨⟨some 4, none, .prim (.mov (.tmp 0))⟩, [], false, 0, 0⟩,
      ⟨⟨some 5, none, .prim (.mov (.tmp 1))⟩, [], false, 0, 0⟩,
      ⟨⟨some 6, none, .prim (.bin false .quo (.tmp 5) (.const (Go.Value.int Go.IntKind.u8 64)))⟩, [1], false, 0, 0⟩,
      ⟨⟨some 7, none, .prim (.nilc (.tmp 4))⟩, [0], false, 0, 0⟩,
      ⟨⟨some 8, none, .prim (.iadra 1 4 (.tmp 7) (.tmp 6))⟩, [0, 1, 2, 3], false, 0, 0⟩,
      ⟨⟨some 9, none, .prim (.load 1 false (.tmp 8))⟩, [0, 1, 2, 3, 4], false, 0, 0⟩,
      ⟨⟨some 10, none, .prim (.mov (.tmp 1))⟩, [], false, 0, 0⟩,
      ⟨⟨some 11, none, .prim (.bin false .rem (.tmp 10) (.const (Go.Value.int Go.IntKind.u8 64)))⟩, [6], false, 0, 0⟩,
      ⟨⟨some 12, none, .prim (.bin false .shl (.const (Go.Value.int Go.IntKind.u64 1)) (.tmp 11))⟩, [6, 7], false, 0, 0⟩,
      ⟨⟨some 13, none, .prim (.bin false .or (.tmp 9) (.tmp 12))⟩, [0, 1, 2, 3, 4, 5, 6, 7, 8], false, 0, 0⟩,
      ⟨⟨some 14, none, .prim (.nilc (.tmp 4))⟩, [0], false, 0, 0⟩,
      ⟨⟨some 15, none, .prim (.iadra 1 4 (.tmp 14) (.tmp 6))⟩, [0, 1, 2, 3, 4, 5, 6, 7, 8, 9, 10], false, 0, 0⟩,
      ⟨⟨none, none, .prim (.store 1 (.tmp 15) (.tmp 13))⟩, [0, 1, 2, 3, 4, 5, 6, 7, 8, 9, 10, 11], true, 0, 0⟩])
def o49 : List Tmp := []
def r49 : List RV := []
theorem t49 : Text Try.prog 49 o49 c49 r49 16 := ⟨⟨Try.f49, _, by kernel_rfl, by kernel_rfl, rfl, by kernel_rfl, by kernel_rfl, rfl⟩, by kernel_rfl⟩

/-- (*sordine/rex.parser).sign -/
def c50 : ACode :=
  (.seq (.ops [⟨some 2, none, .prim (.mov (.const (Go.Value.int Go.IntKind.u8 0)))⟩])
    (.seq (.ops [⟨some 4, none, .prim (.mov (.tmp 0))⟩,
      ⟨some 5, none, .call (.func 46) [(.tmp 4)]⟩,
      ⟨some 3, none, .prim (.mov (.tmp 5))⟩])
    (.seq (.ops [⟨some 6, none, .prim (.mov (.tmp 0))⟩,
      ⟨some 7, none, .prim (.mov (.tmp 0))⟩,
      ⟨some 8, none, .prim (.nilc (.tmp 7))⟩,
      ⟨some 9, none, .prim (.fadr 2 (.tmp 8))⟩,
      ⟨some 10, none, .prim (.load 1 false (.tmp 9))⟩,
      ⟨some 11, none, .prim (.mov (.tmp 10))⟩,
      ⟨some 12, (some (11, false)), .prim (.mov (.tmp 3))⟩,
      ⟨some 13, (some (11, false)), .call (.func 51) [(.const (Go.Value.string (ByteArray.mk #[124, 42, 43, 63, 40, 41, 91, 93, 46, 92, 94, 45]))), (.tmp 12)]⟩,
      ⟨some 14, (some (11, false)), .prim (.bin false .lss (.tmp 13) (.const (Go.Value.int Go.IntKind.i64 0)))⟩,
      ⟨some 15, none, .prim (.pick (.tmp 11) (.const (Go.Value.bool Bool.true)) (.tmp 14))⟩,
      ⟨some 16, none, .prim (.nilc (.tmp 6))⟩,
      ⟨some 17, none, .prim (.fadr 2 (.tmp 16))⟩,
      ⟨none, none, .prim (.store 1 (.tmp 17) (.tmp 15))⟩])
    (.seq (.ops [⟨some 18, none, .prim (.mov (.tmp 3))⟩,
      ⟨some 2, none, .prim (.mov (.tmp 18))⟩])
    .ret))))
def o50 : List Tmp := []
def r50 : List RV := [.tmp 2]
theorem t50 : Text Try.prog 50 o50 c50 r50 19 := ⟨⟨Try.f50, _, by kernel_rfl, by kernel_rfl, rfl, by kernel_rfl, by kernel_rfl, rfl⟩, by kernel_rfl⟩

/-- strings.IndexByte -/
def c51 : ACode :=
  (.seq (.ops [⟨some 4, none, .prim (.mov (.const (Go.Value.int Go.IntKind.i64 0)))⟩])
    (.seq (.ops [⟨some 5, none, .prim (.mov (.tmp 0))⟩,
      ⟨some 6, none, .prim (.mov (.tmp 1))⟩,
      ⟨some 7, none, .call (.func 58) [(.tmp 5), (.tmp 6)]⟩,
      ⟨some 4, none, .prim (.mov (.tmp 7))⟩])
    .ret))
def o51 : List Tmp := []
def r51 : List RV := [.tmp 4]
theorem t51 : Text Try.prog 51 o51 c51 r51 8 := ⟨⟨Try.f51, _, by kernel_rfl, by kernel_rfl, rfl, by kernel_rfl, by kernel_rfl, rfl⟩, by kernel_rfl⟩

/-- sordine/sordineref5.quoted -/
def c52 : ACode :=
  (.seq (.ops [⟨some 2, none, .prim (.mov (.const (Go.Value.bool Bool.false)))⟩])
    (.seq (.ops [⟨some 3, none, .prim (.mov (.tmp 0))⟩,
      ⟨some 4, none, .call (.func 56) [(.tmp 3)]⟩,
      ⟨some 5, none, .prim (.mov (.tmp 4))⟩,
      ⟨some 6, (some (5, false)), .prim (.mov (.tmp 0))⟩,
      ⟨some 7, (some (5, false)), .prim (.bin false .eql (.tmp 6) (.const (Go.Value.int Go.IntKind.u8 94)))⟩,
      ⟨some 8, none, .prim (.pick (.tmp 5) (.const (Go.Value.bool Bool.true)) (.tmp 7))⟩,
      ⟨some 9, none, .prim (.mov (.tmp 8))⟩,
      ⟨some 10, (some (9, false)), .prim (.mov (.tmp 0))⟩,
      ⟨some 11, (some (9, false)), .prim (.bin false .eql (.tmp 10) (.const (Go.Value.int Go.IntKind.u8 45)))⟩,
      ⟨some 12, none, .prim (.pick (.tmp 9) (.const (Go.Value.bool Bool.true)) (.tmp 11))⟩,
      ⟨some 2, none, .prim (.mov (.tmp 12))⟩])
    .ret))
def o52 : List Tmp := []
def r52 : List RV := [.tmp 2]
theorem t52 : Text Try.prog 52 o52 c52 r52 13 := ⟨⟨Try.f52, _, by kernel_rfl, by kernel_rfl, rfl, by kernel_rfl, by kernel_rfl, rfl⟩, by kernel_rfl⟩

/-- (*sordine/sordineref5.parser).fail -/
def c53 : ACode :=
  (.ops [⟨some 2, none, .prim (.mov (.tmp 0))⟩,
      ⟨some 3, none, .prim (.nilc (.tmp 2))⟩,
      ⟨some 4, none, .prim (.fadr 3 (.tmp 3))⟩,
      ⟨none, none, .prim (.store 1 (.tmp 4) (.const (Go.Value.bool Bool.true)))⟩])
def o53 : List Tmp := []
def r53 : List RV := []
theorem t53 : Text Try.prog 53 o53 c53 r53 5 := ⟨⟨Try.f53, _, by kernel_rfl, by kernel_rfl, rfl, by kernel_rfl, by kernel_rfl, rfl⟩, by kernel_rfl⟩

/-- sordine/sordineref5.one -/
def c54 : ACode :=
  (.seq (.ops [⟨some 2, none, .prim (.allocm [.pl (.int .u64 0), .pl (.int .u64 0), .pl (.int .u64 0), .pl (.int .u64 0)])⟩])
    (.seq (.ops [⟨some 3, none, .prim (.allocm [.pl (.int .u64 0), .pl (.int .u64 0), .pl (.int .u64 0), .pl (.int .u64 0)])⟩])
    (.seq (.ops [⟨some 4, none, .prim (.mov (.tmp 0))⟩,
      ⟨some 5, none, .prim (.bin false .quo (.tmp 4) (.const (Go.Value.int Go.IntKind.u8 64)))⟩,
      ⟨some 6, none, .prim (.mov (.tmp 0))⟩,
      ⟨some 7, none, .prim (.bin false .rem (.tmp 6) (.const (Go.Value.int Go.IntKind.u8 64)))⟩,
      ⟨some 8, none, .prim (.convi .u64 (.tmp 7))⟩,
      ⟨some 9, none, .prim (.bin false .shl (.const (Go.Value.int Go.IntKind.u64 1)) (.tmp 8))⟩,
      ⟨some 10, none, .prim (.iadra 1 4 (.tmp 3) (.tmp 5))⟩,
      ⟨none, none, .prim (.store 1 (.tmp 10) (.tmp 9))⟩])
    (.seq (.ops [⟨some 11, none, .prim (.load 4 true (.tmp 3))⟩,
      ⟨none, none, .prim (.store 4 (.tmp 2) (.tmp 11))⟩])
    .ret))))
def o54 : List Tmp := [2, 3]
def r54 : List RV := [.cell 2 4 true]
theorem t54 : Text Try.prog 54 o54 c54 r54 12 := ⟨⟨Try.f54, _, by kernel_rfl, by kernel_rfl, rfl, by kernel_rfl, by kernel_rfl, rfl⟩, by kernel_rfl⟩

/-- (*sordine/sordineref5.parser).class -/
def c55 : ACode :=
  (.seq (.ops [⟨some 2, none, .prim (.allocm [.pl (.int .i64 0), .pl (.int .u64 0), .pl (.int .u64 0), .pl (.int .u64 0), .pl (.int .u64 0), .nils])⟩])
    (.seq (.draw [⟨⟨some 10, none, .prim (.mov (.tmp 0))⟩, [], false, 0, 0⟩,
      ⟨⟨some 11, none, .call (.func 38) [(.tmp 10)]⟩, [0], true, 0, 0⟩,
      ⟨⟨some 12, none, .prim (.mov (.tmp 11))⟩, [0, 1], false, 1, 1⟩,
      ⟨⟨some 13, (some (12, true)), .prim (.mov (.tmp 0))⟩, [0, 1, 2], false, 1, 1⟩,
      ⟨⟨some 14, (some (12, true)), .prim (.nilc (.tmp 13))⟩, [0, 1, 2, 3], false, 1, 1⟩,
      ⟨⟨some 15, (some (12, true)), .prim (.fadr 0 (.tmp 14))⟩, [0, 1, 2, 3, 4], false, 1, 1⟩,
      ⟨⟨some 16, (some (12, true)), .prim (.load 1 false (.tmp 15))⟩, [0, 1, 2, 3, 4, 5], false, 1, 1⟩,
      ⟨⟨some 17, (some (12, true)), .prim (.mov (.tmp 0))⟩, [0, 1, 2], false, 1, 1⟩,
      ⟨⟨some 18, (some (12, true)), .prim (.nilc (.tmp 17))⟩, [0, 1, 2, 7], false, 1, 1⟩,
      ⟨⟨some 19, (some (12, true)), .prim (.fadr 1 (.tmp 18))⟩, [0, 1, 2, 7, 8], false, 1, 1⟩,
      ⟨⟨some 20, (some (12, true)), .prim (.load 1 false (.tmp 19))⟩, [0, 1, 2, 7, 8, 9], false, 1, 1⟩,
      ⟨⟨some 21, (some (12, true)), .prim (.idxs (.tmp 16) (.tmp 20))⟩, [0, 1, 2, 3, 4, 5, 6, 7, 8, 9, 10], false, 1, 1⟩,
      ⟨⟨some 22, (some (12, true)), .prim (.bin false .eql (.tmp 21) (.const (Go.Value.int Go.IntKind.u8 94)))⟩, [0, 1, 2, 3, 4, 5, 6, 7, 8, 9, 10, 11], false, 1, 1⟩,
      ⟨⟨some 23, none, .prim (.pick (.tmp 12) (.tmp 22) (.const (Go.Value.bool Bool.false)))⟩, [0, 1, 2, 3, 4, 5, 6, 7, 8, 9, 10, 11, 12], false, 1, 1⟩,
      ⟨⟨some 3, none, .prim (.mov (.tmp 23))⟩, [0, 1, 2, 3, 4, 5, 6, 7, 8, 9, 10, 11, 12, 13], false, 1, 1⟩])
    (.seq (.seq (.ops [⟨some 24, none, .prim (.mov (.tmp 3))⟩])
    (.cond (.tmp 24)
    (.ops [⟨some 25, none, .prim (.mov (.tmp 0))⟩,
      ⟨some 26, none, .prim (.nilc (.tmp 25))⟩,
      ⟨some 27, none, .prim (.fadr 1 (.tmp 26))⟩,
      ⟨some 28, none, .prim (.load 1 false (.tmp 27))⟩,
      ⟨some 29, none, .prim (.bin false .add (.tmp 28) (.const (Go.Value.int Go.IntKind.i64 1)))⟩,
      ⟨some 30, none, .prim (.nilc (.tmp 25))⟩,
      ⟨some 31, none, .prim (.fadr 1 (.tmp 30))⟩,
      ⟨none, none, .prim (.store 1 (.tmp 31) (.tmp 29))⟩])
    .skip))
    (.seq (.ops [⟨some 4, none, .prim (.allocm [.pl (.int .u64 0), .pl (.int .u64 0), .pl (.int .u64 0), .pl (.int .u64 0)])⟩])
    (.seq (.ops [⟨some 5, none, .prim (.mov (.const (Go.Value.int Go.IntKind.i64 0)))⟩])
    (.seq (.block 0 (.loop [1, 6, 7, 8, 9, 10, 11, 12, 13, 14, 15, 16, 17, 18, 19, 20, 21, 22, 23, 24, 25, 26, 27, 28, 29, 30, 31, 32, 33, 34, 35, 36, 37, 38, 39, 40, 41, 42, 43, 44, 45, 46, 47, 48, 49, 50, 51, 52, 53, 54, 55, 56, 57, 58, 59, 60, 61, 62, 63, 64, 65, 66, 67, 68, 69, 70, 71, 72, 73, 74, 75, 76, 77, 78, 79, 80, 81, 82, 83, 84, 85, 86, 87, 88, 89, 90, 91, 92, 93, 94, 95, 96, 97, 98, 99, 100, 101, 102, 103, 104, 105, 106, 107, 108, 109, 110, 111, 112, 113, 114, 115, 116, 117, 118, 119, 120, 121, 122, 123, 124, 125, 126, 127, 128] (.seq (.seq (.draw [⟨⟨some 32, none, .prim (.mov (.tmp 0))⟩, [], false, 0, 0⟩,
      ⟨⟨some 33, none, .call (.func 38) [(.tmp 32)]⟩, [0], true, 0, 0⟩,
      ⟨⟨some 34, none, .prim (.mov (.tmp 33))⟩, [0, 1], false, 1, 1⟩,
      ⟨⟨some 35, (some (34, true)), .prim (.mov (.tmp 0))⟩, [0, 1, 2], false, 1, 1⟩,
      ⟨⟨some 36, (some (34, true)), .prim (.nilc (.tmp 35))⟩, [0, 1, 2, 3], false, 1, 1⟩,
      ⟨⟨some 37, (some (34, true)), .prim (.fadr 0 (.tmp 36))⟩, [0, 1, 2, 3, 4], false, 1, 1⟩,
      ⟨⟨some 38, (some (34, true)), .prim (.load 1 false (.tmp 37))⟩, [0, 1, 2, 3, 4, 5], false, 1, 1⟩,
      ⟨⟨some 39, (some (34, true)), .prim (.mov (.tmp 0))⟩, [0, 1, 2], false, 1, 1⟩,
      ⟨⟨some 40, (some (34, true)), .prim (.nilc (.tmp 39))⟩, [0, 1, 2, 7], false, 1, 1⟩,
      ⟨⟨some 41, (some (34, true)), .prim (.fadr 1 (.tmp 40))⟩, [0, 1, 2, 7, 8], false, 1, 1⟩,
      ⟨⟨some 42, (some (34, true)), .prim (.load 1 false (.tmp 41))⟩, [0, 1, 2, 7, 8, 9], false, 1, 1⟩,
      ⟨⟨some 43, (some (34, true)), .prim (.idxs (.tmp 38) (.tmp 42))⟩, [0, 1, 2, 3, 4, 5, 6, 7, 8, 9, 10], false, 1, 1⟩,
      ⟨⟨some 44, (some (34, true)), .prim (.bin false .neq (.tmp 43) (.const (Go.Value.int Go.IntKind.u8 93)))⟩, [0, 1, 2, 3, 4, 5, 6, 7, 8, 9, 10, 11], false, 1, 1⟩,
      ⟨⟨some 45, none, .prim (.pick (.tmp 34) (.tmp 44) (.const (Go.Value.bool Bool.false)))⟩, [0, 1, 2, 3, 4, 5, 6, 7, 8, 9, 10, 11, 12], false, 1, 1⟩])
    (.cond (.tmp 45)
    .skip
    (.exit 0)))
    (.block 1 (.seq (.ops [⟨some 46, none, .prim (.mov (.tmp 0))⟩,
      ⟨some 47, none, .call (.func 59) [(.tmp 46)]⟩,
      ⟨some 6, none, .prim (.mov (.tmp 47))⟩])
    (.seq (.ops [⟨some 48, none, .prim (.mov (.tmp 6))⟩,
      ⟨some 7, none, .prim (.mov (.tmp 48))⟩])
    (.seq (.seq (.draw [⟨⟨some 49, none, .prim (.mov (.tmp 0))⟩, [], false, 0, 0⟩,
      ⟨⟨some 50, none, .call (.func 38) [(.tmp 49)]⟩, [0], true, 0, 0⟩,
      ⟨⟨some 51, none, .prim (.mov (.tmp 50))⟩, [0, 1], false, 1, 1⟩,
      ⟨⟨some 52, (some (51, true)), .prim (.mov (.tmp 0))⟩, [0, 1, 2], false, 1, 1⟩,
      ⟨⟨some 53, (some (51, true)), .prim (.nilc (.tmp 52))⟩, [0, 1, 2, 3], false, 1, 1⟩,
      ⟨⟨some 54, (some (51, true)), .prim (.fadr 0 (.tmp 53))⟩, [0, 1, 2, 3, 4], false, 1, 1⟩,
      ⟨⟨some 55, (some (51, true)), .prim (.load 1 false (.tmp 54))⟩, [0, 1, 2, 3, 4, 5], false, 1, 1⟩,
      ⟨⟨some 56, (some (51, true)), .prim (.mov (.tmp 0))⟩, [0, 1, 2], false, 1, 1⟩,
      ⟨⟨some 57, (some (51, true)), .prim (.nilc (.tmp 56))⟩, [0, 1, 2, 7], false, 1, 1⟩,
      ⟨⟨some 58, (some (51, true)), .prim (.fadr 1 (.tmp 57))⟩, [0, 1, 2, 7, 8], false, 1, 1⟩,
      ⟨⟨some 59, (some (51, true)), .prim (.load 1 false (.tmp 58))⟩, [0, 1, 2, 7, 8, 9], false, 1, 1⟩,
      ⟨⟨some 60, (some (51, true)), .prim (.idxs (.tmp 55) (.tmp 59))⟩, [0, 1, 2, 3, 4, 5, 6, 7, 8, 9, 10], false, 1, 1⟩,
      ⟨⟨some 61, (some (51, true)), .prim (.bin false .eql (.tmp 60) (.const (Go.Value.int Go.IntKind.u8 45)))⟩, [0, 1, 2, 3, 4, 5, 6, 7, 8, 9, 10, 11], false, 1, 1⟩,
      ⟨⟨some 62, none, .prim (.pick (.tmp 51) (.tmp 61) (.const (Go.Value.bool Bool.false)))⟩, [0, 1, 2, 3, 4, 5, 6, 7, 8, 9, 10, 11, 12], false, 1, 1⟩])
    (.cond (.tmp 62)
    (.seq (.ops [⟨some 63, none, .prim (.mov (.tmp 0))⟩,
      ⟨some 64, none, .prim (.nilc (.tmp 63))⟩,
      ⟨some 65, none, .prim (.fadr 1 (.tmp 64))⟩,
      ⟨some 66, none, .prim (.load 1 false (.tmp 65))⟩,
      ⟨some 67, none, .prim (.bin false .add (.tmp 66) (.const (Go.Value.int Go.IntKind.i64 1)))⟩,
      ⟨some 68, none, .prim (.nilc (.tmp 63))⟩,
      ⟨some 69, none, .prim (.fadr 1 (.tmp 68))⟩,
      ⟨none, none, .prim (.store 1 (.tmp 69) (.tmp 67))⟩])
    (.ops [⟨some 70, none, .prim (.mov (.tmp 0))⟩,
      ⟨some 71, none, .call (.func 59) [(.tmp 70)]⟩,
      ⟨some 7, none, .prim (.mov (.tmp 71))⟩]))
    .skip))
    (.seq (.seq (.ops [⟨some 72, none, .prim (.mov (.tmp 7))⟩,
      ⟨some 73, none, .prim (.mov (.tmp 6))⟩,
      ⟨some 74, none, .prim (.bin false .lss (.tmp 72) (.tmp 73))⟩])
    (.cond (.tmp 74)
    (.ops [⟨some 75, none, .prim (.mov (.tmp 0))⟩,
      ⟨some 76, none, .call (.func 53) [(.tmp 75)]⟩])
    .skip))
    (.seq (.seq (.ops [⟨some 77, none, .prim (.mov (.tmp 6))⟩,
      ⟨some 78, none, .prim (.convi .i64 (.tmp 77))⟩,
      ⟨some 8, none, .prim (.mov (.tmp 78))⟩])
    (.block 2 (.loop [1, 6, 9, 10, 11, 12, 13, 14, 15, 16, 17, 18, 19, 20, 21, 22, 23, 24, 25, 26, 27, 28, 29, 30, 31, 32, 33, 34, 35, 36, 37, 38, 39, 40, 41, 42, 43, 44, 45, 46, 47, 48, 49, 50, 51, 52, 53, 54, 55, 56, 57, 58, 59, 60, 61, 62, 63, 64, 65, 66, 67, 68, 69, 70, 71, 72, 73, 74, 75, 76, 77, 78, 79, 80, 81, 82, 83, 84, 85, 86, 87, 88, 89, 90, 91, 92, 93, 94, 95, 96, 97, 98, 99, 100, 101, 102, 103, 104, 105, 106, 107, 108, 109, 110, 111, 112, 113, 114, 115, 116, 117, 118, 119, 120, 121, 122, 123, 124, 125, 126, 127, 128] (.seq (.seq (.ops [⟨some 79, none, .prim (.mov (.tmp 8))⟩,
      ⟨some 80, none, .prim (.mov (.tmp 7))⟩,
      ⟨some 81, none, .prim (.convi .i64 (.tmp 80))⟩,
      ⟨some 82, none, .prim (.bin false .leq (.tmp 79) (.tmp 81))⟩])
    (.cond (.tmp 82)
    .skip
    (.exit 2)))
    (.seq (.block 3 (.ops [⟨some 85, none, .prim (.mov (.tmp 8))⟩,
      ⟨some 86, none, .prim (.bin false .quo (.tmp 85) (.const (Go.Value.int Go.IntKind.i64 64)))⟩,
      ⟨some 87, none, .prim (.mov (.tmp 8))⟩,
      ⟨some 88, none, .prim (.bin false .quo (.tmp 87) (.const (Go.Value.int Go.IntKind.i64 64)))⟩,
      ⟨some 89, none, .prim (.iadra 1 4 (.tmp 4) (.tmp 88))⟩,
      ⟨some 90, none, .prim (.load 1 false (.tmp 89))⟩,
      ⟨some 91, none, .prim (.mov (.tmp 8))⟩,
      ⟨some 92, none, .prim (.bin false .rem (.tmp 91) (.const (Go.Value.int Go.IntKind.i64 64)))⟩,
      ⟨some 93, none, .prim (.convi .u64 (.tmp 92))⟩,
      ⟨some 94, none, .prim (.bin false .shl (.const (Go.Value.int Go.IntKind.u64 1)) (.tmp 93))⟩,
      ⟨some 95, none, .prim (.bin false .or (.tmp 90) (.tmp 94))⟩,
      ⟨some 96, none, .prim (.iadra 1 4 (.tmp 4) (.tmp 86))⟩,
      ⟨none, none, .prim (.store 1 (.tmp 96) (.tmp 95))⟩]))
    (.ops [⟨some 83, none, .prim (.mov (.tmp 8))⟩,
      ⟨some 84, none, .prim (.bin false .add (.tmp 83) (.const (Go.Value.int Go.IntKind.i64 1)))⟩,
      ⟨some 8, none, .prim (.mov (.tmp 84))⟩]))))))
    (.ops [⟨some 97, none, .prim (.mov (.tmp 5))⟩,
      ⟨some 98, none, .prim (.bin false .add (.tmp 97) (.const (Go.Value.int Go.IntKind.i64 1)))⟩,
      ⟨some 5, none, .prim (.mov (.tmp 98))⟩]))))))))))
    (.seq (.seq (.ops [⟨some 99, none, .prim (.mov (.tmp 0))⟩,
      ⟨some 100, none, .call (.func 38) [(.tmp 99)]⟩,
      ⟨some 101, none, .prim (.un .not (.tmp 100))⟩,
      ⟨some 102, none, .prim (.mov (.tmp 101))⟩,
      ⟨some 103, (some (102, false)), .prim (.mov (.tmp 5))⟩,
      ⟨some 104, (some (102, false)), .prim (.bin false .eql (.tmp 103) (.const (Go.Value.int Go.IntKind.i64 0)))⟩,
      ⟨some 105, none, .prim (.pick (.tmp 102) (.const (Go.Value.bool Bool.true)) (.tmp 104))⟩])
    (.cond (.tmp 105)
    (.seq (.ops [⟨some 106, none, .prim (.mov (.tmp 0))⟩,
      ⟨some 107, none, .call (.func 53) [(.tmp 106)]⟩])
    (.seq (.ops [⟨some 108, none, .prim (.build [.pl (.int .i64 0), .pl (.int .u64 0), .pl (.int .u64 0), .pl (.int .u64 0), .pl (.int .u64 0), .nils] [])⟩,
      ⟨none, none, .prim (.store 6 (.tmp 2) (.tmp 108))⟩])
    .ret))
    .skip))
    (.seq (.ops [⟨some 109, none, .prim (.mov (.tmp 0))⟩,
      ⟨some 110, none, .prim (.nilc (.tmp 109))⟩,
      ⟨some 111, none, .prim (.fadr 1 (.tmp 110))⟩,
      ⟨some 112, none, .prim (.load 1 false (.tmp 111))⟩,
      ⟨some 113, none, .prim (.bin false .add (.tmp 112) (.const (Go.Value.int Go.IntKind.i64 1)))⟩,
      ⟨some 114, none, .prim (.nilc (.tmp 109))⟩,
      ⟨some 115, none, .prim (.fadr 1 (.tmp 114))⟩,
      ⟨none, none, .prim (.store 1 (.tmp 115) (.tmp 113))⟩])
    (.seq (.seq (.ops [⟨some 116, none, .prim (.mov (.tmp 3))⟩])
    (.cond (.tmp 116)
    (.seq (.ops [⟨some 9, none, .prim (.mov (.const (Go.Value.int Go.IntKind.i64 0)))⟩])
    (.block 4 (.loop [0, 1, 3, 5, 6, 7, 8, 10, 11, 12, 13, 14, 15, 16, 17, 18, 19, 20, 21, 22, 23, 24, 25, 26, 27, 28, 29, 30, 31, 32, 33, 34, 35, 36, 37, 38, 39, 40, 41, 42, 43, 44, 45, 46, 47, 48, 49, 50, 51, 52, 53, 54, 55, 56, 57, 58, 59, 60, 61, 62, 63, 64, 65, 66, 67, 68, 69, 70, 71, 72, 73, 74, 75, 76, 77, 78, 79, 80, 81, 82, 83, 84, 85, 86, 87, 88, 89, 90, 91, 92, 93, 94, 95, 96, 97, 98, 99, 100, 101, 102, 103, 104, 105, 106, 107, 108, 109, 110, 111, 112, 113, 114, 115, 116, 117, 118, 119, 120, 121, 122, 123, 124, 125, 126, 127, 128] (.seq (.seq (.ops [⟨some 117, none, .prim (.mov (.tmp 9))⟩,
      ⟨some 118, none, .prim (.bin false .lss (.tmp 117) (.const (Go.Value.int Go.IntKind.i64 4)))⟩])
    (.cond (.tmp 118)
    .skip
    (.exit 4)))
    (.seq (.block 5 (.ops [⟨some 121, none, .prim (.mov (.tmp 9))⟩,
      ⟨some 122, none, .prim (.mov (.tmp 9))⟩,
      ⟨some 123, none, .prim (.iadra 1 4 (.tmp 4) (.tmp 122))⟩,
      ⟨some 124, none, .prim (.load 1 false (.tmp 123))⟩,
      ⟨some 125, none, .prim (.un .xor (.tmp 124))⟩,
      ⟨some 126, none, .prim (.iadra 1 4 (.tmp 4) (.tmp 121))⟩,
      ⟨none, none, .prim (.store 1 (.tmp 126) (.tmp 125))⟩]))
    (.ops [⟨some 119, none, .prim (.mov (.tmp 9))⟩,
      ⟨some 120, none, .prim (.bin false .add (.tmp 119) (.const (Go.Value.int Go.IntKind.i64 1)))⟩,
      ⟨some 9, none, .prim (.mov (.tmp 120))⟩]))))))
    .skip))
    (.seq (.ops [⟨some 127, none, .prim (.load 4 true (.tmp 4))⟩,
      ⟨some 128, none, .prim (.build [.pl (.int .i64 0), .pl (.int .u64 0), .pl (.int .u64 0), .pl (.int .u64 0), .pl (.int .u64 0), .nils] [(0, 1, (.const (Go.Value.int Go.IntKind.i64 1))), (1, 4, (.tmp 127))])⟩,
      ⟨none, none, .prim (.store 6 (.tmp 2) (.tmp 128))⟩])
    .ret))))))))))
def o55 : List Tmp := [2, 4]
def r55 : List RV := [.cell 2 6 true]
theorem t55 : Text Try.prog 55 o55 c55 r55 129 := ⟨⟨Try.f55, _, by kernel_rfl, by kernel_rfl, rfl, by kernel_rfl, by kernel_rfl, rfl⟩, by kernel_rfl⟩

/-- sordine/sordineref5.special -/
def c56 : ACode :=
  (.seq (.ops [⟨some 2, none, .prim (.mov (.const (Go.Value.bool Bool.false)))⟩])
    (.seq (.seq (.ops [⟨some 3, none, .prim (.mov (.tmp 0))⟩])
    (.block 0 (.seq (.seq (.ops [⟨some 5, none, .prim (.bin false .eql (.tmp 3) (.const (Go.Value.int Go.IntKind.u8 124)))⟩,
      ⟨some 4, none, .prim (.mov (.tmp 5))⟩])
    (.cond (.tmp 4)
    .skip
    (.seq (.ops [⟨some 6, none, .prim (.bin false .eql (.tmp 3) (.const (Go.Value.int Go.IntKind.u8 42)))⟩,
      ⟨some 4, none, .prim (.mov (.tmp 6))⟩])
    (.cond (.tmp 4)
    .skip
    (.seq (.ops [⟨some 7, none, .prim (.bin false .eql (.tmp 3) (.const (Go.Value.int Go.IntKind.u8 43)))⟩,
      ⟨some 4, none, .prim (.mov (.tmp 7))⟩])
    (.cond (.tmp 4)
    .skip
    (.seq (.ops [⟨some 8, none, .prim (.bin false .eql (.tmp 3) (.const (Go.Value.int Go.IntKind.u8 63)))⟩,
      ⟨some 4, none, .prim (.mov (.tmp 8))⟩])
    (.cond (.tmp 4)
    .skip
    (.seq (.ops [⟨some 9, none, .prim (.bin false .eql (.tmp 3) (.const (Go.Value.int Go.IntKind.u8 40)))⟩,
      ⟨some 4, none, .prim (.mov (.tmp 9))⟩])
    (.cond (.tmp 4)
    .skip
    (.seq (.ops [⟨some 10, none, .prim (.bin false .eql (.tmp 3) (.const (Go.Value.int Go.IntKind.u8 41)))⟩,
      ⟨some 4, none, .prim (.mov (.tmp 10))⟩])
    (.cond (.tmp 4)
    .skip
    (.seq (.ops [⟨some 11, none, .prim (.bin false .eql (.tmp 3) (.const (Go.Value.int Go.IntKind.u8 91)))⟩,
      ⟨some 4, none, .prim (.mov (.tmp 11))⟩])
    (.cond (.tmp 4)
    .skip
    (.seq (.ops [⟨some 12, none, .prim (.bin false .eql (.tmp 3) (.const (Go.Value.int Go.IntKind.u8 93)))⟩,
      ⟨some 4, none, .prim (.mov (.tmp 12))⟩])
    (.cond (.tmp 4)
    .skip
    (.seq (.ops [⟨some 13, none, .prim (.bin false .eql (.tmp 3) (.const (Go.Value.int Go.IntKind.u8 46)))⟩,
      ⟨some 4, none, .prim (.mov (.tmp 13))⟩])
    (.cond (.tmp 4)
    .skip
    (.ops [⟨some 14, none, .prim (.bin false .eql (.tmp 3) (.const (Go.Value.int Go.IntKind.u8 92)))⟩,
      ⟨some 4, none, .prim (.mov (.tmp 14))⟩])))))))))))))))))))
    (.cond (.tmp 4)
    (.seq (.ops [⟨some 2, none, .prim (.mov (.const (Go.Value.bool Bool.true)))⟩])
    .ret)
    .skip))))
    (.seq (.ops [⟨some 2, none, .prim (.mov (.const (Go.Value.bool Bool.false)))⟩])
    .ret)))
def o56 : List Tmp := []
def r56 : List RV := [.tmp 2]
theorem t56 : Text Try.prog 56 o56 c56 r56 15 := ⟨⟨Try.f56, _, by kernel_rfl, by kernel_rfl, rfl, by kernel_rfl, by kernel_rfl, rfl⟩, by kernel_rfl⟩

/-- (*sordine/rex.parser).member -/
def c57 : ACode :=
  (.seq (.ops [⟨some 2, none, .prim (.mov (.const (Go.Value.int Go.IntKind.u8 0)))⟩])
    (.seq (.ops [⟨some 4, none, .prim (.mov (.tmp 0))⟩,
      ⟨some 5, none, .call (.func 46) [(.tmp 4)]⟩,
      ⟨some 3, none, .prim (.mov (.tmp 5))⟩])
    (.seq (.seq (.ops [⟨some 6, none, .prim (.mov (.tmp 3))⟩,
      ⟨some 7, none, .prim (.bin false .eql (.tmp 6) (.const (Go.Value.int Go.IntKind.u8 92)))⟩])
    (.cond (.tmp 7)
    (.seq (.ops [⟨some 8, none, .prim (.mov (.tmp 0))⟩,
      ⟨some 9, none, .call (.func 50) [(.tmp 8)]⟩,
      ⟨some 2, none, .prim (.mov (.tmp 9))⟩])
    .ret)
    .skip))
    (.seq (.ops [⟨some 10, none, .prim (.mov (.tmp 0))⟩,
      ⟨some 11, none, .prim (.mov (.tmp 0))⟩,
      ⟨some 12, none, .prim (.nilc (.tmp 11))⟩,
      ⟨some 13, none, .prim (.fadr 2 (.tmp 12))⟩,
      ⟨some 14, none, .prim (.load 1 false (.tmp 13))⟩,
      ⟨some 15, none, .prim (.mov (.tmp 14))⟩,
      ⟨some 16, (some (15, false)), .prim (.mov (.tmp 3))⟩,
      ⟨some 17, (some (15, false)), .call (.func 51) [(.const (Go.Value.string (ByteArray.mk #[92, 93, 91, 94, 45]))), (.tmp 16)]⟩,
      ⟨some 18, (some (15, false)), .prim (.bin false .geq (.tmp 17) (.const (Go.Value.int Go.IntKind.i64 0)))⟩,
      ⟨some 19, none, .prim (.pick (.tmp 15) (.const (Go.Value.bool Bool.true)) (.tmp 18))⟩,
      ⟨some 20, none, .prim (.nilc (.tmp 10))⟩,
      ⟨some 21, none, .prim (.fadr 2 (.tmp 20))⟩,
      ⟨none, none, .prim (.store 1 (.tmp 21) (.tmp 19))⟩])
    (.seq (.ops [⟨some 22, none, .prim (.mov (.tmp 3))⟩,
      ⟨some 2, none, .prim (.mov (.tmp 22))⟩])
    .ret)))))
def o57 : List Tmp := []
def r57 : List RV := [.tmp 2]
theorem t57 : Text Try.prog 57 o57 c57 r57 23 := ⟨⟨Try.f57, _, by kernel_rfl, by kernel_rfl, rfl, by kernel_rfl, by kernel_rfl, rfl⟩, by kernel_rfl⟩

/-- internal/stringslite.IndexByte -/
def c58 : ACode :=
  (.seq (.ops [⟨some 4, none, .prim (.mov (.const (Go.Value.int Go.IntKind.i64 0)))⟩])
    (.seq (.ops [⟨some 5, none, .prim (.mov (.tmp 0))⟩,
      ⟨some 6, none, .prim (.mov (.tmp 1))⟩,
      ⟨some 7, none, .call (.func 60) [(.tmp 5), (.tmp 6)]⟩,
      ⟨some 4, none, .prim (.mov (.tmp 7))⟩])
    .ret))
def o58 : List Tmp := []
def r58 : List RV := [.tmp 4]
theorem t58 : Text Try.prog 58 o58 c58 r58 8 := ⟨⟨Try.f58, _, by kernel_rfl, by kernel_rfl, rfl, by kernel_rfl, by kernel_rfl, rfl⟩, by kernel_rfl⟩

/-- (*sordine/sordineref5.parser).member -/
def c59 : ACode :=
  (.seq (.ops [⟨some 2, none, .prim (.mov (.const (Go.Value.int Go.IntKind.u8 0)))⟩])
    (.seq (.seq (.ops [⟨some 4, none, .prim (.mov (.tmp 0))⟩,
      ⟨some 5, none, .call (.func 38) [(.tmp 4)]⟩,
      ⟨some 6, none, .prim (.un .not (.tmp 5))⟩])
    (.cond (.tmp 6)
    (.seq (.ops [⟨some 7, none, .prim (.mov (.tmp 0))⟩,
      ⟨some 8, none, .call (.func 53) [(.tmp 7)]⟩])
    (.seq (.ops [⟨some 2, none, .prim (.mov (.const (Go.Value.int Go.IntKind.u8 0)))⟩])
    .ret))
    .skip))
    (.seq (.draw [⟨⟨some 9, none, .prim (.mov (.tmp 0))⟩, [], false, 0, 0⟩,
      ⟨⟨some 10, none, .prim (.nilc (.tmp 9))⟩, [0], false, 0, 0⟩,
      ⟨⟨some 11, none, .prim (.fadr 0 (.tmp 10))⟩, [0, 1], false, 0, 0⟩,
      ⟨⟨some 12, none, .prim (.load 1 false (.tmp 11))⟩, [0, 1, 2], false, 0, 0⟩,
      ⟨⟨some 13, none, .prim (.mov (.tmp 0))⟩, [], false, 0, 0⟩,
      ⟨⟨some 14, none, .prim (.nilc (.tmp 13))⟩, [4], false, 0, 0⟩,
      ⟨⟨some 15, none, .prim (.fadr 1 (.tmp 14))⟩, [4, 5], false, 0, 0⟩,
      ⟨⟨some 16, none, .prim (.load 1 false (.tmp 15))⟩, [4, 5, 6], false, 0, 0⟩,
      ⟨⟨some 17, none, .prim (.idxs (.tmp 12) (.tmp 16))⟩, [0, 1, 2, 3, 4, 5, 6, 7], false, 0, 0⟩,
      ⟨⟨some 3, none, .prim (.mov (.tmp 17))⟩, [0, 1, 2, 3, 4, 5, 6, 7, 8], false, 0, 0⟩])
    (.seq (.ops [⟨some 18, none, .prim (.mov (.tmp 0))⟩,
      ⟨some 19, none, .prim (.nilc (.tmp 18))⟩,
      ⟨some 20, none, .prim (.fadr 1 (.tmp 19))⟩,
      ⟨some 21, none, .prim (.load 1 false (.tmp 20))⟩,
      ⟨some 22, none, .prim (.bin false .add (.tmp 21) (.const (Go.Value.int Go.IntKind.i64 1)))⟩,
      ⟨some 23, none, .prim (.nilc (.tmp 18))⟩,
      ⟨some 24, none, .prim (.fadr 1 (.tmp 23))⟩,
      ⟨none, none, .prim (.store 1 (.tmp 24) (.tmp 22))⟩])
    (.seq (.seq (.ops [⟨some 25, none, .prim (.mov (.tmp 3))⟩,
      ⟨some 26, none, .prim (.bin false .eql (.tmp 25) (.const (Go.Value.int Go.IntKind.u8 92)))⟩])
    (.cond (.tmp 26)
    (.seq (.seq (.draw [⟨⟨some 27, none, .prim (.mov (.tmp 0))⟩, [], false, 0, 0⟩,
      ⟨⟨some 28, none, .call (.func 38) [(.tmp 27)]⟩, [0], true, 0, 0⟩,
      ⟨⟨some 29, none, .prim (.un .not (.tmp 28))⟩, [0, 1], false, 1, 1⟩,
      ⟨⟨some 30, none, .prim (.mov (.tmp 29))⟩, [0, 1, 2], false, 1, 1⟩,
      ⟨⟨some 31, (some (30, false)), .prim (.mov (.tmp 0))⟩, [0, 1, 2, 3], false, 1, 1⟩,
      ⟨⟨some 32, (some (30, false)), .prim (.nilc (.tmp 31))⟩, [0, 1, 2, 3, 4], false, 1, 1⟩,
      ⟨⟨some 33, (some (30, false)), .prim (.fadr 0 (.tmp 32))⟩, [0, 1, 2, 3, 4, 5], false, 1, 1⟩,
      ⟨⟨some 34, (some (30, false)), .prim (.load 1 false (.tmp 33))⟩, [0, 1, 2, 3, 4, 5, 6], false, 1, 1⟩,
      ⟨⟨some 35, (some (30, false)), .prim (.mov (.tmp 0))⟩, [0, 1, 2, 3], false, 1, 1⟩,
      ⟨⟨some 36, (some (30, false)), .prim (.nilc (.tmp 35))⟩, [0, 1, 2, 3, 8], false, 1, 1⟩,
      ⟨⟨some 37, (some (30, false)), .prim (.fadr 1 (.tmp 36))⟩, [0, 1, 2, 3, 8, 9], false, 1, 1⟩,
      ⟨⟨some 38, (some (30, false)), .prim (.load 1 false (.tmp 37))⟩, [0, 1, 2, 3, 8, 9, 10], false, 1, 1⟩,
      ⟨⟨some 39, (some (30, false)), .prim (.idxs (.tmp 34) (.tmp 38))⟩, [0, 1, 2, 3, 4, 5, 6, 7, 8, 9, 10, 11], false, 1, 1⟩,
      ⟨⟨some 40, (some (30, false)), .call (.func 52) [(.tmp 39)]⟩, [0, 1, 2, 3, 4, 5, 6, 7, 8, 9, 10, 11, 12], true, 0, 0⟩,
      ⟨⟨some 41, (some (30, false)), .prim (.un .not (.tmp 40))⟩, [0, 1, 2, 3, 4, 5, 6, 7, 8, 9, 10, 11, 12, 13], false, 2, 2⟩,
      ⟨⟨some 42, none, .prim (.pick (.tmp 30) (.const (Go.Value.bool Bool.true)) (.tmp 41))⟩, [0, 1, 2, 3, 4, 5, 6, 7, 8, 9, 10, 11, 12, 13, 14], false, 2, 2⟩])
    (.cond (.tmp 42)
    (.seq (.ops [⟨some 43, none, .prim (.mov (.tmp 0))⟩,
      ⟨some 44, none, .call (.func 53) [(.tmp 43)]⟩])
    (.seq (.ops [⟨some 2, none, .prim (.mov (.const (Go.Value.int Go.IntKind.u8 0)))⟩])
    .ret))
    .skip))
    (.seq (.ops [⟨some 45, none, .prim (.mov (.tmp 0))⟩,
      ⟨some 46, none, .prim (.nilc (.tmp 45))⟩,
      ⟨some 47, none, .prim (.fadr 1 (.tmp 46))⟩,
      ⟨some 48, none, .prim (.load 1 false (.tmp 47))⟩,
      ⟨some 49, none, .prim (.bin false .add (.tmp 48) (.const (Go.Value.int Go.IntKind.i64 1)))⟩,
      ⟨some 50, none, .prim (.nilc (.tmp 45))⟩,
      ⟨some 51, none, .prim (.fadr 1 (.tmp 50))⟩,
      ⟨none, none, .prim (.store 1 (.tmp 51) (.tmp 49))⟩])
    (.seq (.draw [⟨⟨some 52, none, .prim (.mov (.tmp 0))⟩, [], false, 0, 0⟩,
      ⟨⟨some 53, none, .prim (.nilc (.tmp 52))⟩, [0], false, 0, 0⟩,
      ⟨⟨some 54, none, .prim (.fadr 0 (.tmp 53))⟩, [0, 1], false, 0, 0⟩,
      ⟨⟨some 55, none, .prim (.load 1 false (.tmp 54))⟩, [0, 1, 2], false, 0, 0⟩,
      ⟨⟨some 56, none, .prim (.mov (.tmp 0))⟩, [], false, 0, 0⟩,
      ⟨⟨some 57, none, .prim (.nilc (.tmp 56))⟩, [4], false, 0, 0⟩,
      ⟨⟨some 58, none, .prim (.fadr 1 (.tmp 57))⟩, [4, 5], false, 0, 0⟩,
      ⟨⟨some 59, none, .prim (.load 1 false (.tmp 58))⟩, [4, 5, 6], false, 0, 0⟩,
      ⟨⟨some 60, none, .prim (.bin false .sub (.tmp 59) (.const (Go.Value.int Go.IntKind.i64 1)))⟩, [4, 5, 6, 7], false, 0, 0⟩,
      ⟨⟨some 61, none, .prim (.idxs (.tmp 55) (.tmp 60))⟩, [0, 1, 2, 3, 4, 5, 6, 7, 8], false, 0, 0⟩,
      ⟨⟨some 2, none, .prim (.mov (.tmp 61))⟩, [0, 1, 2, 3, 4, 5, 6, 7, 8, 9], false, 0, 0⟩])
    .ret)))
    .skip))
    (.seq (.seq (.ops [⟨some 62, none, .prim (.mov (.tmp 3))⟩,
      ⟨some 63, none, .prim (.bin false .eql (.tmp 62) (.const (Go.Value.int Go.IntKind.u8 93)))⟩,
      ⟨some 64, none, .prim (.mov (.tmp 63))⟩,
      ⟨some 65, (some (64, false)), .prim (.mov (.tmp 3))⟩,
      ⟨some 66, (some (64, false)), .prim (.bin false .eql (.tmp 65) (.const (Go.Value.int Go.IntKind.u8 91)))⟩,
      ⟨some 67, none, .prim (.pick (.tmp 64) (.const (Go.Value.bool Bool.true)) (.tmp 66))⟩,
      ⟨some 68, none, .prim (.mov (.tmp 67))⟩,
      ⟨some 69, (some (68, false)), .prim (.mov (.tmp 3))⟩,
      ⟨some 70, (some (68, false)), .prim (.bin false .eql (.tmp 69) (.const (Go.Value.int Go.IntKind.u8 94)))⟩,
      ⟨some 71, none, .prim (.pick (.tmp 68) (.const (Go.Value.bool Bool.true)) (.tmp 70))⟩,
      ⟨some 72, none, .prim (.mov (.tmp 71))⟩,
      ⟨some 73, (some (72, false)), .prim (.mov (.tmp 3))⟩,
      ⟨some 74, (some (72, false)), .prim (.bin false .eql (.tmp 73) (.const (Go.Value.int Go.IntKind.u8 45)))⟩,
      ⟨some 75, none, .prim (.pick (.tmp 72) (.const (Go.Value.bool Bool.true)) (.tmp 74))⟩])
    (.cond (.tmp 75)
    (.ops [⟨some 76, none, .prim (.mov (.tmp 0))⟩,
      ⟨some 77, none, .call (.func 53) [(.tmp 76)]⟩])
    .skip))
    (.seq (.ops [⟨some 78, none, .prim (.mov (.tmp 3))⟩,
      ⟨some 2, none, .prim (.mov (.tmp 78))⟩])
    .ret)))))))
def o59 : List Tmp := []
def r59 : List RV := [.tmp 2]
theorem t59 : Text Try.prog 59 o59 c59 r59 79 := ⟨⟨Try.f59, _, by kernel_rfl, by kernel_rfl, rfl, by kernel_rfl, by kernel_rfl, rfl⟩, by kernel_rfl⟩

end Go.Proofs.Ytoiageeecdgleaa
