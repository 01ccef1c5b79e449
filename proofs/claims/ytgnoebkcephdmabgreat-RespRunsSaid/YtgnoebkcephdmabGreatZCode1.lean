/- What the functions do, over abstract values: printed by a program, checked by the kernel. No condition. -/
import Derived.Test.YtgnoebkcephdmabGreatProg
import Derived.Test.YtgnoebkcephdmabGreatAbSpec
namespace Go.Proofs.YtgnoebkcephdmabGreat
open Go Go.Ab
set_option maxRecDepth 100000

/-- gosem.cut.init -/
def c2 : ACode :=
  (.ops [⟨some 0, none, .call (.func 1) []⟩])
def o2 : List Tmp := []
def r2 : List RV := []
theorem t2 : Text Tryz.prog 2 o2 c2 r2 1 := ⟨⟨Tryz.f2, _, by kernel_rfl, by kernel_rfl, rfl, by kernel_rfl, by kernel_rfl, rfl⟩, by kernel_rfl⟩

/-- sordine/sordinelaw21.RespRuns -/
def c3 : ACode :=
  (.seq (.ops [⟨some 0, none, .prim (.mov (.const (Go.Value.bool Bool.false)))⟩])
    (.seq (.ops [⟨some 6, none, .prim (.bsl false 1 false 1 [.pl (.int .u8 0)] [(0, 1, (.const (Go.Value.int Go.IntKind.u8 6)))])⟩,
      ⟨some 7, none, .call (.func 4) [(.tmp 6)]⟩,
      ⟨some 5, none, .prim (.mov (.tmp 7))⟩,
      ⟨some 8, none, .prim (.extr 0 (.tmp 5))⟩,
      ⟨some 9, none, .prim (.extr 1 (.tmp 5))⟩,
      ⟨some 1, none, .fresh 40 1 (.tmp 8)⟩,
      ⟨some 2, none, .prim (.mov (.tmp 9))⟩])
    (.seq (.ops [⟨some 11, none, .prim (.bsl false 1 false 1 [.pl (.int .u8 0)] [(0, 1, (.const (Go.Value.int Go.IntKind.u8 0)))])⟩,
      ⟨some 12, none, .call (.func 4) [(.tmp 11)]⟩,
      ⟨some 10, none, .prim (.mov (.tmp 12))⟩,
      ⟨some 13, none, .prim (.extr 0 (.tmp 10))⟩,
      ⟨some 14, none, .prim (.extr 1 (.tmp 10))⟩,
      ⟨some 3, none, .fresh 40 3 (.tmp 13)⟩,
      ⟨some 4, none, .prim (.mov (.tmp 14))⟩])
    (.seq (.ops [⟨some 15, none, .prim (.build [.pl (.int .i64 0), .pl (.int .i64 0), .pl (.int .i64 0), .nils, .nils, .nils, .nils, .pl (.int .u8 0), .pl (.int .u8 0), .pl (.int .u8 0), .pl (.int .u8 0), .pl (.int .u8 0), .pl (.int .u8 0), .pl (.int .u8 0), .pl (.int .u8 0), .pl (.int .u8 0), .pl (.int .u8 0), .pl (.int .u8 0), .pl (.int .u8 0), .pl (.int .u8 0), .pl (.int .u8 0), .pl (.int .u8 0), .pl (.int .u8 0), .pl (.int .u8 0), .pl (.int .u8 0), .pl (.int .u8 0), .pl (.int .u8 0), .pl (.int .u8 0), .pl (.int .u8 0), .pl (.int .u8 0), .pl (.int .u8 0), .pl (.int .u8 0), .pl (.int .u8 0), .pl (.int .u8 0), .pl (.int .u8 0), .pl (.int .u8 0), .pl (.int .u8 0), .pl (.int .u8 0), .pl (.int .u8 0), .pl (.int .u64 0)] [(0, 1, (.const (Go.Value.int Go.IntKind.i64 6)))])⟩,
      ⟨some 16, none, .call (.func 5) [(.tmp 15)]⟩,
      ⟨some 17, none, .prim (.b2s (.tmp 16))⟩,
      ⟨some 18, none, .prim (.bin false .eql (.tmp 17) (.const (Go.Value.string (ByteArray.mk #[6]))))⟩,
      ⟨some 19, none, .prim (.mov (.tmp 18))⟩,
      ⟨some 20, (some (19, true)), .prim (.build [.pl (.int .i64 0), .pl (.int .i64 0), .pl (.int .i64 0), .nils, .nils, .nils, .nils, .pl (.int .u8 0), .pl (.int .u8 0), .pl (.int .u8 0), .pl (.int .u8 0), .pl (.int .u8 0), .pl (.int .u8 0), .pl (.int .u8 0), .pl (.int .u8 0), .pl (.int .u8 0), .pl (.int .u8 0), .pl (.int .u8 0), .pl (.int .u8 0), .pl (.int .u8 0), .pl (.int .u8 0), .pl (.int .u8 0), .pl (.int .u8 0), .pl (.int .u8 0), .pl (.int .u8 0), .pl (.int .u8 0), .pl (.int .u8 0), .pl (.int .u8 0), .pl (.int .u8 0), .pl (.int .u8 0), .pl (.int .u8 0), .pl (.int .u8 0), .pl (.int .u8 0), .pl (.int .u8 0), .pl (.int .u8 0), .pl (.int .u8 0), .pl (.int .u8 0), .pl (.int .u8 0), .pl (.int .u8 0), .pl (.int .u64 0)] [(39, 1, (.const (Go.Value.int Go.IntKind.u64 300)))])⟩,
      ⟨some 21, (some (19, true)), .call (.func 5) [(.tmp 20)]⟩,
      ⟨some 22, (some (19, true)), .prim (.b2s (.tmp 21))⟩,
      ⟨some 23, (some (19, true)), .prim (.bin false .eql (.tmp 22) (.const (Go.Value.string (ByteArray.mk #[0, 0, 172, 2]))))⟩,
      ⟨some 24, none, .prim (.pick (.tmp 19) (.tmp 23) (.const (Go.Value.bool Bool.false)))⟩,
      ⟨some 25, none, .prim (.mov (.tmp 24))⟩,
      ⟨some 26, (some (25, true)), .prim (.mov (.tmp 2))⟩,
      ⟨some 27, none, .prim (.pick (.tmp 25) (.tmp 26) (.const (Go.Value.bool Bool.false)))⟩,
      ⟨some 28, none, .prim (.mov (.tmp 27))⟩,
      ⟨some 29, (some (28, true)), .prim (.fadr 0 (.tmp 1))⟩,
      ⟨some 30, (some (28, true)), .prim (.load 1 false (.tmp 29))⟩,
      ⟨some 31, (some (28, true)), .prim (.bin false .eql (.tmp 30) (.const (Go.Value.int Go.IntKind.i64 6)))⟩,
      ⟨some 32, none, .prim (.pick (.tmp 28) (.tmp 31) (.const (Go.Value.bool Bool.false)))⟩,
      ⟨some 33, none, .prim (.mov (.tmp 32))⟩,
      ⟨some 34, (some (33, true)), .prim (.mov (.tmp 4))⟩,
      ⟨some 35, (some (33, true)), .prim (.un .not (.tmp 34))⟩,
      ⟨some 36, none, .prim (.pick (.tmp 33) (.tmp 35) (.const (Go.Value.bool Bool.false)))⟩,
      ⟨some 0, none, .prim (.mov (.tmp 36))⟩])
    .ret))))
def o3 : List Tmp := []
def r3 : List RV := [.tmp 0]
theorem t3 : Text Tryz.prog 3 o3 c3 r3 37 := ⟨⟨Tryz.f3, _, by kernel_rfl, by kernel_rfl, rfl, by kernel_rfl, by kernel_rfl, rfl⟩, by kernel_rfl⟩

/-- sordine/resp.Read -/
def c4 : ACode :=
  (.seq (.ops [⟨some 2, none, .prim (.allocm [.pl (.int .i64 0), .pl (.int .i64 0), .pl (.int .i64 0), .nils, .nils, .nils, .nils, .pl (.int .u8 0), .pl (.int .u8 0), .pl (.int .u8 0), .pl (.int .u8 0), .pl (.int .u8 0), .pl (.int .u8 0), .pl (.int .u8 0), .pl (.int .u8 0), .pl (.int .u8 0), .pl (.int .u8 0), .pl (.int .u8 0), .pl (.int .u8 0), .pl (.int .u8 0), .pl (.int .u8 0), .pl (.int .u8 0), .pl (.int .u8 0), .pl (.int .u8 0), .pl (.int .u8 0), .pl (.int .u8 0), .pl (.int .u8 0), .pl (.int .u8 0), .pl (.int .u8 0), .pl (.int .u8 0), .pl (.int .u8 0), .pl (.int .u8 0), .pl (.int .u8 0), .pl (.int .u8 0), .pl (.int .u8 0), .pl (.int .u8 0), .pl (.int .u8 0), .pl (.int .u8 0), .pl (.int .u8 0), .pl (.int .u64 0)])⟩,
      ⟨some 3, none, .prim (.mov (.const (Go.Value.bool Bool.false)))⟩])
    (.seq (.ops [⟨some 9, none, .prim (.mov (.tmp 0))⟩,
      ⟨some 10, none, .call (.func 6) [(.tmp 9)]⟩,
      ⟨some 4, none, .prim (.mov (.tmp 10))⟩])
    (.seq (.ops [⟨some 11, none, .prim (.build [.pl (.int .i64 0), .pl (.int .i64 0), .pl (.int .i64 0), .nils, .nils, .nils, .nils, .pl (.int .u8 0), .pl (.int .u8 0), .pl (.int .u8 0), .pl (.int .u8 0), .pl (.int .u8 0), .pl (.int .u8 0), .pl (.int .u8 0), .pl (.int .u8 0), .pl (.int .u8 0), .pl (.int .u8 0), .pl (.int .u8 0), .pl (.int .u8 0), .pl (.int .u8 0), .pl (.int .u8 0), .pl (.int .u8 0), .pl (.int .u8 0), .pl (.int .u8 0), .pl (.int .u8 0), .pl (.int .u8 0), .pl (.int .u8 0), .pl (.int .u8 0), .pl (.int .u8 0), .pl (.int .u8 0), .pl (.int .u8 0), .pl (.int .u8 0), .pl (.int .u8 0), .pl (.int .u8 0), .pl (.int .u8 0), .pl (.int .u8 0), .pl (.int .u8 0), .pl (.int .u8 0), .pl (.int .u8 0), .pl (.int .u64 0)] [])⟩,
      ⟨some 5, none, .prim (.allocm [.pl (.int .i64 0), .pl (.int .i64 0), .pl (.int .i64 0), .nils, .nils, .nils, .nils, .pl (.int .u8 0), .pl (.int .u8 0), .pl (.int .u8 0), .pl (.int .u8 0), .pl (.int .u8 0), .pl (.int .u8 0), .pl (.int .u8 0), .pl (.int .u8 0), .pl (.int .u8 0), .pl (.int .u8 0), .pl (.int .u8 0), .pl (.int .u8 0), .pl (.int .u8 0), .pl (.int .u8 0), .pl (.int .u8 0), .pl (.int .u8 0), .pl (.int .u8 0), .pl (.int .u8 0), .pl (.int .u8 0), .pl (.int .u8 0), .pl (.int .u8 0), .pl (.int .u8 0), .pl (.int .u8 0), .pl (.int .u8 0), .pl (.int .u8 0), .pl (.int .u8 0), .pl (.int .u8 0), .pl (.int .u8 0), .pl (.int .u8 0), .pl (.int .u8 0), .pl (.int .u8 0), .pl (.int .u8 0), .pl (.int .u64 0)])⟩,
      ⟨none, none, .prim (.store 40 (.tmp 5) (.tmp 11))⟩])
    (.seq (.ops [⟨some 12, none, .prim (.mov (.tmp 4))⟩,
      ⟨some 13, none, .call (.func 7) [(.tmp 12)]⟩,
      ⟨some 14, none, .prim (.convi .i64 (.tmp 13))⟩,
      ⟨some 6, none, .prim (.mov (.tmp 14))⟩])
    (.seq (.seq (.ops [⟨some 15, none, .prim (.mov (.tmp 6))⟩,
      ⟨some 16, none, .prim (.bin false .eql (.tmp 15) (.const (Go.Value.int Go.IntKind.i64 0)))⟩])
    (.cond (.tmp 16)
    (.ops [⟨some 17, none, .prim (.mov (.tmp 4))⟩,
      ⟨some 18, none, .prim (.mov (.tmp 0))⟩,
      ⟨some 19, none, .prim (.lenv (.tmp 18))⟩,
      ⟨some 20, none, .call (.func 8) [(.tmp 17), (.tmp 19)]⟩,
      ⟨none, none, .prim (.store 40 (.tmp 5) (.tmp 20))⟩])
    .skip))
    (.seq (.ops [⟨some 21, none, .prim (.mov (.tmp 6))⟩,
      ⟨some 22, none, .prim (.fadr 0 (.tmp 5))⟩,
      ⟨none, none, .prim (.store 1 (.tmp 22) (.tmp 21))⟩])
    (.seq (.seq (.ops [⟨some 24, none, .prim (.mov (.tmp 4))⟩,
      ⟨some 25, none, .call (.func 9) [(.tmp 24)]⟩,
      ⟨some 23, none, .prim (.mov (.tmp 25))⟩,
      ⟨some 26, none, .prim (.extr 0 (.tmp 23))⟩,
      ⟨some 27, none, .prim (.extr 1 (.tmp 23))⟩,
      ⟨some 7, none, .prim (.mov (.tmp 26))⟩,
      ⟨some 8, none, .prim (.mov (.tmp 27))⟩])
    (.seq (.ops [⟨some 28, none, .prim (.mov (.tmp 8))⟩,
      ⟨some 29, none, .prim (.un .not (.tmp 28))⟩,
      ⟨some 30, none, .prim (.mov (.tmp 29))⟩,
      ⟨some 31, (some (30, false)), .prim (.mov (.tmp 7))⟩,
      ⟨some 32, (some (30, false)), .prim (.mov (.tmp 0))⟩,
      ⟨some 33, (some (30, false)), .prim (.lenv (.tmp 32))⟩,
      ⟨some 34, (some (30, false)), .prim (.bin false .neq (.tmp 31) (.tmp 33))⟩,
      ⟨some 35, none, .prim (.pick (.tmp 30) (.const (Go.Value.bool Bool.true)) (.tmp 34))⟩,
      ⟨some 36, none, .prim (.mov (.tmp 35))⟩,
      ⟨some 37, (some (36, false)), .prim (.load 40 true (.tmp 5))⟩,
      ⟨some 38, (some (36, false)), .call (.func 10) [(.tmp 37)]⟩,
      ⟨some 39, (some (36, false)), .prim (.un .not (.tmp 38))⟩,
      ⟨some 40, none, .prim (.pick (.tmp 36) (.const (Go.Value.bool Bool.true)) (.tmp 39))⟩])
    (.cond (.tmp 40)
    (.seq (.ops [⟨some 41, none, .prim (.build [.pl (.int .i64 0), .pl (.int .i64 0), .pl (.int .i64 0), .nils, .nils, .nils, .nils, .pl (.int .u8 0), .pl (.int .u8 0), .pl (.int .u8 0), .pl (.int .u8 0), .pl (.int .u8 0), .pl (.int .u8 0), .pl (.int .u8 0), .pl (.int .u8 0), .pl (.int .u8 0), .pl (.int .u8 0), .pl (.int .u8 0), .pl (.int .u8 0), .pl (.int .u8 0), .pl (.int .u8 0), .pl (.int .u8 0), .pl (.int .u8 0), .pl (.int .u8 0), .pl (.int .u8 0), .pl (.int .u8 0), .pl (.int .u8 0), .pl (.int .u8 0), .pl (.int .u8 0), .pl (.int .u8 0), .pl (.int .u8 0), .pl (.int .u8 0), .pl (.int .u8 0), .pl (.int .u8 0), .pl (.int .u8 0), .pl (.int .u8 0), .pl (.int .u8 0), .pl (.int .u8 0), .pl (.int .u8 0), .pl (.int .u64 0)] [])⟩,
      ⟨none, none, .prim (.store 40 (.tmp 2) (.tmp 41))⟩,
      ⟨some 3, none, .prim (.mov (.const (Go.Value.bool Bool.false)))⟩])
    .ret)
    .skip)))
    (.seq (.ops [⟨some 42, none, .prim (.load 40 true (.tmp 5))⟩,
      ⟨none, none, .prim (.store 40 (.tmp 2) (.tmp 42))⟩,
      ⟨some 3, none, .prim (.mov (.const (Go.Value.bool Bool.true)))⟩])
    .ret))))))))
def o4 : List Tmp := [2, 5]
def r4 : List RV := [.cell 2 40 true, .tmp 3]
theorem t4 : Text Tryz.prog 4 o4 c4 r4 43 := ⟨⟨Tryz.f4, _, by kernel_rfl, by kernel_rfl, rfl, by kernel_rfl, by kernel_rfl, rfl⟩, by kernel_rfl⟩

/-- sordine/resp.Bytes -/
def c5 : ACode :=
  (.seq (.ops [⟨some 1, none, .prim (.boxr (.tmp 0))⟩,
      ⟨some 2, none, .prim (.mov (.const (Go.Value.slice Option.none 0 0)))⟩])
    (.seq (.seq (.ops [⟨some 7, none, .prim (.load 40 true (.tmp 1))⟩,
      ⟨some 8, none, .call (.func 10) [(.tmp 7)]⟩,
      ⟨some 9, none, .prim (.un .not (.tmp 8))⟩])
    (.cond (.tmp 9)
    (.seq (.ops [⟨some 2, none, .prim (.mov (.const (Go.Value.slice Option.none 0 0)))⟩])
    (.ghost (.shut 2) .ret))
    .skip))
    (.seq (.seq (.ops [⟨some 10, none, .prim (.fadr 0 (.tmp 1))⟩,
      ⟨some 11, none, .prim (.load 1 false (.tmp 10))⟩,
      ⟨some 12, none, .prim (.bin false .neq (.tmp 11) (.const (Go.Value.int Go.IntKind.i64 0)))⟩])
    (.cond (.tmp 12)
    (.seq (.ops [⟨some 13, none, .prim (.fadr 0 (.tmp 1))⟩,
      ⟨some 14, none, .prim (.load 1 false (.tmp 13))⟩,
      ⟨some 15, none, .prim (.convi .u8 (.tmp 14))⟩,
      ⟨some 16, none, .prim (.bsl false 1 false 1 [.pl (.int .u8 0)] [(0, 1, (.tmp 15))])⟩,
      ⟨some 2, none, .prim (.mov (.tmp 16))⟩])
    (.ghost (.shut 2) .ret))
    .skip))
    (.seq (.ops [⟨some 17, none, .prim (.fadr 0 (.tmp 1))⟩,
      ⟨some 18, none, .prim (.load 1 false (.tmp 17))⟩,
      ⟨some 19, none, .prim (.convi .u8 (.tmp 18))⟩,
      ⟨some 20, none, .prim (.fadr 1 (.tmp 1))⟩,
      ⟨some 21, none, .prim (.load 1 false (.tmp 20))⟩,
      ⟨some 22, none, .prim (.convi .u8 (.tmp 21))⟩,
      ⟨some 23, none, .prim (.bsl true 1 false 2 [.pl (.int .u8 0)] [(0, 1, (.tmp 19)), (1, 1, (.tmp 22))])⟩,
      ⟨some 3, none, .prim (.allocm [.nils])⟩,
      ⟨none, none, .prim (.store 1 (.tmp 3) (.tmp 23))⟩])
    (.seq (.ops [⟨some 25, none, .prim (.fadr 1 (.tmp 1))⟩,
      ⟨some 26, none, .prim (.load 1 false (.tmp 25))⟩,
      ⟨some 27, none, .call (.func 11) [(.tmp 26)]⟩,
      ⟨some 24, none, .prim (.mov (.tmp 27))⟩,
      ⟨some 28, none, .prim (.extr 0 (.tmp 24))⟩,
      ⟨some 29, none, .prim (.extr 1 (.tmp 24))⟩,
      ⟨some 4, none, .fresh 1 4 (.tmp 28)⟩,
      ⟨some 5, none, .prim (.mov (.tmp 29))⟩])
    (.seq (.ops [⟨some 30, none, .prim (.mkfn 12 [] [(.tmp 4), (.tmp 3)])⟩,
      ⟨some 6, none, .prim (.mov (.tmp 30))⟩])
    (.seq (.ops [⟨some 31, none, .prim (.mov (.tmp 6))⟩,
      ⟨some 32, none, .prim (.fadr 39 (.tmp 1))⟩,
      ⟨some 33, none, .prim (.load 1 false (.tmp 32))⟩,
      ⟨some 34, none, .call (.func 13) [(.tmp 33)]⟩,
      ⟨some 35, none, .call (.tmp 31) [(.const (Go.Value.int Go.IntKind.i64 1)), (.tmp 34)]⟩])
    (.seq (.ops [⟨some 36, none, .prim (.mov (.tmp 6))⟩,
      ⟨some 37, none, .prim (.fadr 2 (.tmp 1))⟩,
      ⟨some 38, none, .prim (.load 1 false (.tmp 37))⟩,
      ⟨some 39, none, .prim (.convi .u64 (.tmp 38))⟩,
      ⟨some 40, none, .call (.func 13) [(.tmp 39)]⟩,
      ⟨some 41, none, .call (.tmp 36) [(.const (Go.Value.int Go.IntKind.i64 2)), (.tmp 40)]⟩])
    (.seq (.ops [⟨some 42, none, .prim (.mov (.tmp 6))⟩,
      ⟨some 43, none, .prim (.fadr 3 (.tmp 1))⟩,
      ⟨some 44, none, .prim (.load 1 false (.tmp 43))⟩,
      ⟨some 45, none, .call (.func 14) [(.tmp 44)]⟩,
      ⟨some 46, none, .call (.tmp 42) [(.const (Go.Value.int Go.IntKind.i64 4)), (.tmp 45)]⟩])
    (.seq (.ops [⟨some 47, none, .prim (.mov (.tmp 6))⟩,
      ⟨some 48, none, .prim (.fadr 4 (.tmp 1))⟩,
      ⟨some 49, none, .prim (.load 1 false (.tmp 48))⟩,
      ⟨some 50, none, .call (.func 14) [(.tmp 49)]⟩,
      ⟨some 51, none, .call (.tmp 47) [(.const (Go.Value.int Go.IntKind.i64 8)), (.tmp 50)]⟩])
    (.seq (.ops [⟨some 52, none, .prim (.mov (.tmp 6))⟩,
      ⟨some 53, none, .prim (.fadr 5 (.tmp 1))⟩,
      ⟨some 54, none, .prim (.load 1 false (.tmp 53))⟩,
      ⟨some 55, none, .call (.func 15) [(.tmp 54)]⟩,
      ⟨some 56, none, .call (.tmp 52) [(.const (Go.Value.int Go.IntKind.i64 16)), (.tmp 55)]⟩])
    (.seq (.ops [⟨some 57, none, .prim (.mov (.tmp 6))⟩,
      ⟨some 58, none, .prim (.fadr 6 (.tmp 1))⟩,
      ⟨some 59, none, .prim (.load 1 false (.tmp 58))⟩,
      ⟨some 60, none, .prim (.b2s (.tmp 59))⟩,
      ⟨some 61, none, .call (.func 16) [(.tmp 60)]⟩,
      ⟨some 62, none, .call (.tmp 57) [(.const (Go.Value.int Go.IntKind.i64 32)), (.tmp 61)]⟩])
    (.seq (.ops [⟨some 63, none, .prim (.mov (.tmp 6))⟩,
      ⟨some 64, none, .prim (.fadr 7 (.tmp 1))⟩,
      ⟨some 65, none, .prim (.slca 32 (.tmp 64))⟩,
      ⟨some 66, none, .call (.tmp 63) [(.const (Go.Value.int Go.IntKind.i64 64)), (.tmp 65)]⟩])
    (.seq (.ops [⟨some 67, none, .prim (.load 1 false (.tmp 3))⟩,
      ⟨some 2, none, .prim (.mov (.tmp 67))⟩])
    (.ghost (.shut 2) .ret)))))))))))))))
def o5 : List Tmp := [3, 23]
def r5 : List RV := [.tmp 2]
theorem t5 : Text Tryz.prog 5 o5 c5 r5 68 := ⟨⟨Tryz.f5, _, by kernel_rfl, by kernel_rfl, rfl, by kernel_rfl, by kernel_rfl, rfl⟩, by kernel_rfl⟩

/-- sordine/peel.New -/
def c6 : ACode :=
  (.seq (.ops [⟨some 2, none, .prim (.mov (.const (Go.Value.pointer Option.none)))⟩])
    (.seq (.ops [⟨some 3, none, .prim (.mov (.tmp 0))⟩,
      ⟨some 4, none, .prim (.build [.nils, .pl (.int .i64 0), .pl (.bool false)] [(0, 1, (.tmp 3))])⟩,
      ⟨some 5, none, .prim (.boxm (.tmp 4))⟩,
      ⟨some 2, none, .prim (.mov (.tmp 5))⟩])
    .ret))
def o6 : List Tmp := [5]
def r6 : List RV := [.tmp 2]
theorem t6 : Text Tryz.prog 6 o6 c6 r6 6 := ⟨⟨Tryz.f6, _, by kernel_rfl, by kernel_rfl, rfl, by kernel_rfl, by kernel_rfl, rfl⟩, by kernel_rfl⟩

/-- (*sordine/peel.Reader).Byte -/
def c7 : ACode :=
  (.seq (.ops [⟨some 2, none, .prim (.mov (.const (Go.Value.int Go.IntKind.u8 0)))⟩])
    (.seq (.ops [⟨some 4, none, .prim (.mov (.tmp 0))⟩,
      ⟨some 5, none, .call (.func 17) [(.tmp 4)]⟩,
      ⟨some 3, none, .prim (.mov (.tmp 5))⟩])
    (.seq (.seq (.ops [⟨some 6, none, .prim (.mov (.tmp 0))⟩,
      ⟨some 7, none, .prim (.mov (.tmp 3))⟩,
      ⟨some 8, none, .prim (.lenv (.tmp 7))⟩,
      ⟨some 9, none, .prim (.bin false .gtr (.tmp 8) (.const (Go.Value.int Go.IntKind.i64 0)))⟩,
      ⟨some 10, none, .call (.func 18) [(.tmp 6), (.const (Go.Value.int Go.IntKind.i64 1)), (.tmp 9)]⟩,
      ⟨some 11, none, .prim (.un .not (.tmp 10))⟩])
    (.cond (.tmp 11)
    (.seq (.ops [⟨some 2, none, .prim (.mov (.const (Go.Value.int Go.IntKind.u8 0)))⟩])
    .ret)
    .skip))
    (.seq (.ops [⟨some 12, none, .prim (.mov (.tmp 3))⟩,
      ⟨some 13, none, .prim (.iadrs 1 (.tmp 12) (.const (Go.Value.int Go.IntKind.i64 0)))⟩,
      ⟨some 14, none, .prim (.load 1 false (.tmp 13))⟩,
      ⟨some 2, none, .prim (.mov (.tmp 14))⟩])
    .ret))))
def o7 : List Tmp := []
def r7 : List RV := [.tmp 2]
theorem t7 : Text Tryz.prog 7 o7 c7 r7 15 := ⟨⟨Tryz.f7, _, by kernel_rfl, by kernel_rfl, rfl, by kernel_rfl, by kernel_rfl, rfl⟩, by kernel_rfl⟩

/-- sordine/resp.read -/
def c8 : ACode :=
  (.seq (.ops [⟨some 4, none, .prim (.allocm [.pl (.int .i64 0), .pl (.int .i64 0), .pl (.int .i64 0), .nils, .nils, .nils, .nils, .pl (.int .u8 0), .pl (.int .u8 0), .pl (.int .u8 0), .pl (.int .u8 0), .pl (.int .u8 0), .pl (.int .u8 0), .pl (.int .u8 0), .pl (.int .u8 0), .pl (.int .u8 0), .pl (.int .u8 0), .pl (.int .u8 0), .pl (.int .u8 0), .pl (.int .u8 0), .pl (.int .u8 0), .pl (.int .u8 0), .pl (.int .u8 0), .pl (.int .u8 0), .pl (.int .u8 0), .pl (.int .u8 0), .pl (.int .u8 0), .pl (.int .u8 0), .pl (.int .u8 0), .pl (.int .u8 0), .pl (.int .u8 0), .pl (.int .u8 0), .pl (.int .u8 0), .pl (.int .u8 0), .pl (.int .u8 0), .pl (.int .u8 0), .pl (.int .u8 0), .pl (.int .u8 0), .pl (.int .u8 0), .pl (.int .u64 0)])⟩])
    (.seq (.ops [⟨some 8, none, .prim (.mov (.tmp 0))⟩,
      ⟨some 9, none, .call (.func 7) [(.tmp 8)]⟩,
      ⟨some 10, none, .prim (.convi .i64 (.tmp 9))⟩,
      ⟨some 11, none, .prim (.build [.pl (.int .i64 0), .pl (.int .i64 0), .pl (.int .i64 0), .nils, .nils, .nils, .nils, .pl (.int .u8 0), .pl (.int .u8 0), .pl (.int .u8 0), .pl (.int .u8 0), .pl (.int .u8 0), .pl (.int .u8 0), .pl (.int .u8 0), .pl (.int .u8 0), .pl (.int .u8 0), .pl (.int .u8 0), .pl (.int .u8 0), .pl (.int .u8 0), .pl (.int .u8 0), .pl (.int .u8 0), .pl (.int .u8 0), .pl (.int .u8 0), .pl (.int .u8 0), .pl (.int .u8 0), .pl (.int .u8 0), .pl (.int .u8 0), .pl (.int .u8 0), .pl (.int .u8 0), .pl (.int .u8 0), .pl (.int .u8 0), .pl (.int .u8 0), .pl (.int .u8 0), .pl (.int .u8 0), .pl (.int .u8 0), .pl (.int .u8 0), .pl (.int .u8 0), .pl (.int .u8 0), .pl (.int .u8 0), .pl (.int .u64 0)] [(1, 1, (.tmp 10))])⟩,
      ⟨some 5, none, .prim (.allocm [.pl (.int .i64 0), .pl (.int .i64 0), .pl (.int .i64 0), .nils, .nils, .nils, .nils, .pl (.int .u8 0), .pl (.int .u8 0), .pl (.int .u8 0), .pl (.int .u8 0), .pl (.int .u8 0), .pl (.int .u8 0), .pl (.int .u8 0), .pl (.int .u8 0), .pl (.int .u8 0), .pl (.int .u8 0), .pl (.int .u8 0), .pl (.int .u8 0), .pl (.int .u8 0), .pl (.int .u8 0), .pl (.int .u8 0), .pl (.int .u8 0), .pl (.int .u8 0), .pl (.int .u8 0), .pl (.int .u8 0), .pl (.int .u8 0), .pl (.int .u8 0), .pl (.int .u8 0), .pl (.int .u8 0), .pl (.int .u8 0), .pl (.int .u8 0), .pl (.int .u8 0), .pl (.int .u8 0), .pl (.int .u8 0), .pl (.int .u8 0), .pl (.int .u8 0), .pl (.int .u8 0), .pl (.int .u8 0), .pl (.int .u64 0)])⟩,
      ⟨none, none, .prim (.store 40 (.tmp 5) (.tmp 11))⟩])
    (.seq (.ops [⟨some 13, none, .prim (.fadr 1 (.tmp 5))⟩,
      ⟨some 14, none, .prim (.load 1 false (.tmp 13))⟩,
      ⟨some 15, none, .call (.func 11) [(.tmp 14)]⟩,
      ⟨some 12, none, .prim (.mov (.tmp 15))⟩,
      ⟨some 16, none, .prim (.extr 0 (.tmp 12))⟩,
      ⟨some 17, none, .prim (.extr 1 (.tmp 12))⟩,
      ⟨some 6, none, .prim (.mov (.tmp 16))⟩,
      ⟨some 7, none, .prim (.mov (.tmp 17))⟩])
    (.seq (.ops [⟨some 18, none, .prim (.mov (.tmp 0))⟩,
      ⟨some 19, none, .prim (.mov (.tmp 7))⟩,
      ⟨some 20, none, .call (.func 19) [(.tmp 18), (.tmp 19)]⟩])
    (.seq (.seq (.ops [⟨some 21, none, .prim (.mov (.tmp 6))⟩,
      ⟨some 22, none, .prim (.bin false .and (.tmp 21) (.const (Go.Value.int Go.IntKind.i64 1)))⟩,
      ⟨some 23, none, .prim (.bin false .gtr (.tmp 22) (.const (Go.Value.int Go.IntKind.i64 0)))⟩])
    (.cond (.tmp 23)
    (.ops [⟨some 24, none, .prim (.mov (.tmp 0))⟩,
      ⟨some 25, none, .call (.func 20) [(.tmp 24), (.const (Go.Value.int Go.IntKind.u64 1099511627776))]⟩,
      ⟨some 26, none, .prim (.fadr 39 (.tmp 5))⟩,
      ⟨none, none, .prim (.store 1 (.tmp 26) (.tmp 25))⟩])
    .skip))
    (.seq (.seq (.ops [⟨some 27, none, .prim (.mov (.tmp 6))⟩,
      ⟨some 28, none, .prim (.bin false .and (.tmp 27) (.const (Go.Value.int Go.IntKind.i64 2)))⟩,
      ⟨some 29, none, .prim (.bin false .gtr (.tmp 28) (.const (Go.Value.int Go.IntKind.i64 0)))⟩])
    (.cond (.tmp 29)
    (.ops [⟨some 30, none, .prim (.mov (.tmp 0))⟩,
      ⟨some 31, none, .call (.func 20) [(.tmp 30), (.const (Go.Value.int Go.IntKind.u64 2147483647))]⟩,
      ⟨some 32, none, .prim (.convi .i64 (.tmp 31))⟩,
      ⟨some 33, none, .prim (.fadr 2 (.tmp 5))⟩,
      ⟨none, none, .prim (.store 1 (.tmp 33) (.tmp 32))⟩])
    .skip))
    (.seq (.seq (.ops [⟨some 34, none, .prim (.mov (.tmp 6))⟩,
      ⟨some 35, none, .prim (.bin false .and (.tmp 34) (.const (Go.Value.int Go.IntKind.i64 4)))⟩,
      ⟨some 36, none, .prim (.bin false .gtr (.tmp 35) (.const (Go.Value.int Go.IntKind.i64 0)))⟩])
    (.cond (.tmp 36)
    (.ops [⟨some 37, none, .prim (.mov (.tmp 0))⟩,
      ⟨some 38, none, .call (.func 21) [(.tmp 37), (.const (Go.Value.int Go.IntKind.u64 16))]⟩,
      ⟨some 39, none, .prim (.fadr 3 (.tmp 5))⟩,
      ⟨none, none, .prim (.store 1 (.tmp 39) (.tmp 38))⟩])
    .skip))
    (.seq (.seq (.ops [⟨some 40, none, .prim (.mov (.tmp 6))⟩,
      ⟨some 41, none, .prim (.bin false .and (.tmp 40) (.const (Go.Value.int Go.IntKind.i64 8)))⟩,
      ⟨some 42, none, .prim (.bin false .gtr (.tmp 41) (.const (Go.Value.int Go.IntKind.i64 0)))⟩])
    (.cond (.tmp 42)
    (.ops [⟨some 43, none, .prim (.mov (.tmp 0))⟩,
      ⟨some 44, none, .call (.func 21) [(.tmp 43), (.const (Go.Value.int Go.IntKind.u64 16))]⟩,
      ⟨some 45, none, .prim (.fadr 4 (.tmp 5))⟩,
      ⟨none, none, .prim (.store 1 (.tmp 45) (.tmp 44))⟩])
    .skip))
    (.seq (.seq (.ops [⟨some 46, none, .prim (.mov (.tmp 6))⟩,
      ⟨some 47, none, .prim (.bin false .and (.tmp 46) (.const (Go.Value.int Go.IntKind.i64 16)))⟩,
      ⟨some 48, none, .prim (.bin false .gtr (.tmp 47) (.const (Go.Value.int Go.IntKind.i64 0)))⟩])
    (.cond (.tmp 48)
    (.ops [⟨some 49, none, .prim (.mov (.tmp 0))⟩,
      ⟨some 50, none, .call (.func 22) [(.tmp 49)]⟩,
      ⟨some 51, none, .prim (.fadr 5 (.tmp 5))⟩,
      ⟨none, none, .prim (.store 1 (.tmp 51) (.tmp 50))⟩])
    .skip))
    (.seq (.seq (.ops [⟨some 52, none, .prim (.mov (.tmp 6))⟩,
      ⟨some 53, none, .prim (.bin false .and (.tmp 52) (.const (Go.Value.int Go.IntKind.i64 32)))⟩,
      ⟨some 54, none, .prim (.bin false .gtr (.tmp 53) (.const (Go.Value.int Go.IntKind.i64 0)))⟩])
    (.cond (.tmp 54)
    (.ops [⟨some 55, none, .prim (.mov (.tmp 0))⟩,
      ⟨some 56, none, .prim (.mov (.tmp 1))⟩,
      ⟨some 57, none, .call (.func 23) [(.tmp 55), (.tmp 56)]⟩,
      ⟨some 58, none, .prim (.s2b (.tmp 57))⟩,
      ⟨some 59, none, .prim (.fadr 6 (.tmp 5))⟩,
      ⟨none, none, .prim (.store 1 (.tmp 59) (.tmp 58))⟩])
    .skip))
    (.seq (.seq (.ops [⟨some 60, none, .prim (.mov (.tmp 6))⟩,
      ⟨some 61, none, .prim (.bin false .and (.tmp 60) (.const (Go.Value.int Go.IntKind.i64 64)))⟩,
      ⟨some 62, none, .prim (.bin false .gtr (.tmp 61) (.const (Go.Value.int Go.IntKind.i64 0)))⟩])
    (.cond (.tmp 62)
    (.draw [⟨⟨some 63, none, .prim (.fadr 7 (.tmp 5))⟩, [], false, 0, 1⟩,
      ⟨⟨some 64, none, .prim (.slca 32 (.tmp 63))⟩, [0], false, 0, 1⟩,
      ⟨⟨some 65, none, .prim (.mov (.tmp 0))⟩, [], false, 0, 0⟩,
      ⟨⟨some 66, none, .call (.func 24) [(.tmp 65), (.const (Go.Value.int Go.IntKind.i64 32))]⟩, [2], true, 0, 0⟩,
      ⟨⟨some 67, none, .prim (.copy (.tmp 64) (.tmp 66))⟩, [0, 1, 2, 3], true, 0, 0⟩])
    .skip))
    (.seq (.ops [⟨some 68, none, .prim (.load 40 true (.tmp 5))⟩,
      ⟨none, none, .prim (.store 40 (.tmp 4) (.tmp 68))⟩])
    .ret))))))))))))
def o8 : List Tmp := [4, 5]
def r8 : List RV := [.cell 4 40 true]
theorem t8 : Text Tryz.prog 8 o8 c8 r8 69 := ⟨⟨Tryz.f8, _, by kernel_rfl, by kernel_rfl, rfl, by kernel_rfl, by kernel_rfl, rfl⟩, by kernel_rfl⟩

/-- (*sordine/peel.Reader).End -/
def c9 : ACode :=
  (.seq (.ops [⟨some 2, none, .prim (.mov (.const (Go.Value.int Go.IntKind.i64 0)))⟩,
      ⟨some 3, none, .prim (.mov (.const (Go.Value.bool Bool.false)))⟩])
    (.seq (.seq (.ops [⟨some 4, none, .prim (.mov (.tmp 0))⟩,
      ⟨some 5, none, .prim (.nilc (.tmp 4))⟩,
      ⟨some 6, none, .prim (.fadr 2 (.tmp 5))⟩,
      ⟨some 7, none, .prim (.load 1 false (.tmp 6))⟩])
    (.cond (.tmp 7)
    (.seq (.ops [⟨some 2, none, .prim (.mov (.const (Go.Value.int Go.IntKind.i64 0)))⟩,
      ⟨some 3, none, .prim (.mov (.const (Go.Value.bool Bool.false)))⟩])
    .ret)
    .skip))
    (.seq (.ops [⟨some 8, none, .prim (.mov (.tmp 0))⟩,
      ⟨some 9, none, .prim (.nilc (.tmp 8))⟩,
      ⟨some 10, none, .prim (.fadr 1 (.tmp 9))⟩,
      ⟨some 11, none, .prim (.load 1 false (.tmp 10))⟩,
      ⟨some 2, none, .prim (.mov (.tmp 11))⟩,
      ⟨some 3, none, .prim (.mov (.const (Go.Value.bool Bool.true)))⟩])
    .ret)))
def o9 : List Tmp := []
def r9 : List RV := [.tmp 2, .tmp 3]
theorem t9 : Text Tryz.prog 9 o9 c9 r9 12 := ⟨⟨Tryz.f9, _, by kernel_rfl, by kernel_rfl, rfl, by kernel_rfl, by kernel_rfl, rfl⟩, by kernel_rfl⟩

/-- sordine/resp.Is -/
def c10 : ACode :=
  (.seq (.ops [⟨some 1, none, .prim (.boxr (.tmp 0))⟩,
      ⟨some 2, none, .prim (.mov (.const (Go.Value.bool Bool.false)))⟩])
    (.seq (.seq (.ops [⟨some 6, none, .prim (.fadr 0 (.tmp 1))⟩,
      ⟨some 7, none, .prim (.load 1 false (.tmp 6))⟩,
      ⟨some 8, none, .prim (.bin false .neq (.tmp 7) (.const (Go.Value.int Go.IntKind.i64 0)))⟩])
    (.cond (.tmp 8)
    (.seq (.ops [⟨some 9, none, .prim (.fadr 0 (.tmp 1))⟩,
      ⟨some 10, none, .prim (.load 1 false (.tmp 9))⟩,
      ⟨some 11, none, .prim (.bin false .gtr (.tmp 10) (.const (Go.Value.int Go.IntKind.i64 0)))⟩,
      ⟨some 12, none, .prim (.mov (.tmp 11))⟩,
      ⟨some 13, (some (12, true)), .prim (.fadr 0 (.tmp 1))⟩,
      ⟨some 14, (some (12, true)), .prim (.load 1 false (.tmp 13))⟩,
      ⟨some 15, (some (12, true)), .prim (.bin false .leq (.tmp 14) (.const (Go.Value.int Go.IntKind.i64 11)))⟩,
      ⟨some 16, none, .prim (.pick (.tmp 12) (.tmp 15) (.const (Go.Value.bool Bool.false)))⟩,
      ⟨some 17, none, .prim (.mov (.tmp 16))⟩,
      ⟨some 18, (some (17, true)), .prim (.fadr 1 (.tmp 1))⟩,
      ⟨some 19, (some (17, true)), .prim (.load 1 false (.tmp 18))⟩,
      ⟨some 20, (some (17, true)), .prim (.bin false .eql (.tmp 19) (.const (Go.Value.int Go.IntKind.i64 0)))⟩,
      ⟨some 21, none, .prim (.pick (.tmp 17) (.tmp 20) (.const (Go.Value.bool Bool.false)))⟩,
      ⟨some 22, none, .prim (.mov (.tmp 21))⟩,
      ⟨some 23, (some (22, true)), .prim (.load 40 true (.tmp 1))⟩,
      ⟨some 24, (some (22, true)), .call (.func 25) [(.tmp 23), (.const (Go.Value.int Go.IntKind.i64 0))]⟩,
      ⟨some 25, none, .prim (.pick (.tmp 22) (.tmp 24) (.const (Go.Value.bool Bool.false)))⟩,
      ⟨some 2, none, .prim (.mov (.tmp 25))⟩])
    .ret)
    .skip))
    (.seq (.ops [⟨some 27, none, .prim (.fadr 1 (.tmp 1))⟩,
      ⟨some 28, none, .prim (.load 1 false (.tmp 27))⟩,
      ⟨some 29, none, .call (.func 11) [(.tmp 28)]⟩,
      ⟨some 26, none, .prim (.mov (.tmp 29))⟩,
      ⟨some 30, none, .prim (.extr 0 (.tmp 26))⟩,
      ⟨some 31, none, .prim (.extr 1 (.tmp 26))⟩,
      ⟨some 3, none, .prim (.mov (.tmp 30))⟩,
      ⟨some 4, none, .prim (.mov (.tmp 31))⟩])
    (.seq (.seq (.ops [⟨some 32, none, .prim (.mov (.tmp 4))⟩,
      ⟨some 33, none, .prim (.un .not (.tmp 32))⟩,
      ⟨some 34, none, .prim (.mov (.tmp 33))⟩,
      ⟨some 35, (some (34, false)), .prim (.load 40 true (.tmp 1))⟩,
      ⟨some 36, (some (34, false)), .prim (.mov (.tmp 3))⟩,
      ⟨some 37, (some (34, false)), .call (.func 25) [(.tmp 35), (.tmp 36)]⟩,
      ⟨some 38, (some (34, false)), .prim (.un .not (.tmp 37))⟩,
      ⟨some 39, none, .prim (.pick (.tmp 34) (.const (Go.Value.bool Bool.true)) (.tmp 38))⟩,
      ⟨some 40, none, .prim (.mov (.tmp 39))⟩,
      ⟨some 41, (some (40, false)), .prim (.fadr 39 (.tmp 1))⟩,
      ⟨some 42, (some (40, false)), .prim (.load 1 false (.tmp 41))⟩,
      ⟨some 43, (some (40, false)), .prim (.bin false .gtr (.tmp 42) (.const (Go.Value.int Go.IntKind.u64 1099511627776)))⟩,
      ⟨some 44, none, .prim (.pick (.tmp 40) (.const (Go.Value.bool Bool.true)) (.tmp 43))⟩,
      ⟨some 45, none, .prim (.mov (.tmp 44))⟩,
      ⟨some 46, (some (45, false)), .prim (.mov (.tmp 3))⟩,
      ⟨some 47, (some (45, false)), .prim (.bin false .and (.tmp 46) (.const (Go.Value.int Go.IntKind.i64 2)))⟩,
      ⟨some 48, (some (45, false)), .prim (.bin false .gtr (.tmp 47) (.const (Go.Value.int Go.IntKind.i64 0)))⟩,
      ⟨some 49, (some (45, false)), .prim (.mov (.tmp 48))⟩,
      ⟨some 50, (some (49, true)), .prim (.fadr 2 (.tmp 1))⟩,
      ⟨some 51, (some (49, true)), .prim (.load 1 false (.tmp 50))⟩,
      ⟨some 52, (some (49, true)), .call (.func 26) [(.tmp 51)]⟩,
      ⟨some 53, (some (49, true)), .prim (.un .not (.tmp 52))⟩,
      ⟨some 54, (some (45, false)), .prim (.pick (.tmp 49) (.tmp 53) (.const (Go.Value.bool Bool.false)))⟩,
      ⟨some 55, none, .prim (.pick (.tmp 45) (.const (Go.Value.bool Bool.true)) (.tmp 54))⟩])
    (.cond (.tmp 55)
    (.seq (.ops [⟨some 2, none, .prim (.mov (.const (Go.Value.bool Bool.false)))⟩])
    .ret)
    .skip))
    (.seq (.ops [⟨some 5, none, .prim (.mov (.const (Go.Value.int Go.IntKind.i64 16)))⟩])
    (.seq (.seq (.ops [⟨some 56, none, .prim (.fadr 1 (.tmp 1))⟩,
      ⟨some 57, none, .prim (.load 1 false (.tmp 56))⟩,
      ⟨some 58, none, .prim (.bin false .eql (.tmp 57) (.const (Go.Value.int Go.IntKind.i64 15)))⟩])
    (.cond (.tmp 58)
    (.ops [⟨some 5, none, .prim (.mov (.const (Go.Value.int Go.IntKind.i64 12)))⟩])
    .skip))
    (.seq (.ops [⟨some 59, none, .prim (.fadr 3 (.tmp 1))⟩,
      ⟨some 60, none, .prim (.load 1 false (.tmp 59))⟩,
      ⟨some 61, none, .prim (.mov (.tmp 5))⟩,
      ⟨some 62, none, .prim (.fadr 1 (.tmp 1))⟩,
      ⟨some 63, none, .prim (.load 1 false (.tmp 62))⟩,
      ⟨some 64, none, .prim (.bin false .neq (.tmp 63) (.const (Go.Value.int Go.IntKind.i64 14)))⟩,
      ⟨some 65, none, .call (.func 27) [(.tmp 60), (.tmp 61), (.tmp 64)]⟩,
      ⟨some 66, none, .prim (.mov (.tmp 65))⟩,
      ⟨some 67, (some (66, true)), .prim (.fadr 4 (.tmp 1))⟩,
      ⟨some 68, (some (66, true)), .prim (.load 1 false (.tmp 67))⟩,
      ⟨some 69, (some (66, true)), .call (.func 27) [(.tmp 68), (.const (Go.Value.int Go.IntKind.i64 16)), (.const (Go.Value.bool Bool.true))]⟩,
      ⟨some 70, none, .prim (.pick (.tmp 66) (.tmp 69) (.const (Go.Value.bool Bool.false)))⟩,
      ⟨some 71, none, .prim (.mov (.tmp 70))⟩,
      ⟨some 72, (some (71, true)), .prim (.fadr 5 (.tmp 1))⟩,
      ⟨some 73, (some (71, true)), .prim (.load 1 false (.tmp 72))⟩,
      ⟨some 74, (some (71, true)), .call (.func 28) [(.tmp 73)]⟩,
      ⟨some 75, none, .prim (.pick (.tmp 71) (.tmp 74) (.const (Go.Value.bool Bool.false)))⟩,
      ⟨some 2, none, .prim (.mov (.tmp 75))⟩])
    .ret)))))))
def o10 : List Tmp := []
def r10 : List RV := [.tmp 2]
theorem t10 : Text Tryz.prog 10 o10 c10 r10 76 := ⟨⟨Tryz.f10, _, by kernel_rfl, by kernel_rfl, rfl, by kernel_rfl, by kernel_rfl, rfl⟩, by kernel_rfl⟩

/-- sordine/resp.fields -/
def c11 : ACode :=
  (.seq (.ops [⟨some 2, none, .prim (.mov (.const (Go.Value.int Go.IntKind.i64 0)))⟩,
      ⟨some 3, none, .prim (.mov (.const (Go.Value.bool Bool.false)))⟩])
    (.seq (.seq (.ops [⟨some 4, none, .prim (.mov (.tmp 0))⟩])
    (.block 0 (.seq (.ops [⟨some 6, none, .prim (.bin false .eql (.tmp 4) (.const (Go.Value.int Go.IntKind.i64 0)))⟩,
      ⟨some 5, none, .prim (.mov (.tmp 6))⟩])
    (.cond (.tmp 5)
    (.seq (.ops [⟨some 2, none, .prim (.mov (.const (Go.Value.int Go.IntKind.i64 1)))⟩,
      ⟨some 3, none, .prim (.mov (.const (Go.Value.bool Bool.true)))⟩])
    .ret)
    (.seq (.seq (.ops [⟨some 8, none, .prim (.bin false .eql (.tmp 4) (.const (Go.Value.int Go.IntKind.i64 1)))⟩,
      ⟨some 7, none, .prim (.mov (.tmp 8))⟩])
    (.cond (.tmp 7)
    .skip
    (.seq (.ops [⟨some 9, none, .prim (.bin false .eql (.tmp 4) (.const (Go.Value.int Go.IntKind.i64 5)))⟩,
      ⟨some 7, none, .prim (.mov (.tmp 9))⟩])
    (.cond (.tmp 7)
    .skip
    (.seq (.ops [⟨some 10, none, .prim (.bin false .eql (.tmp 4) (.const (Go.Value.int Go.IntKind.i64 9)))⟩,
      ⟨some 7, none, .prim (.mov (.tmp 10))⟩])
    (.cond (.tmp 7)
    .skip
    (.ops [⟨some 11, none, .prim (.bin false .eql (.tmp 4) (.const (Go.Value.int Go.IntKind.i64 11)))⟩,
      ⟨some 7, none, .prim (.mov (.tmp 11))⟩])))))))
    (.cond (.tmp 7)
    (.seq (.ops [⟨some 2, none, .prim (.mov (.const (Go.Value.int Go.IntKind.i64 2)))⟩,
      ⟨some 3, none, .prim (.mov (.const (Go.Value.bool Bool.true)))⟩])
    .ret)
    (.seq (.seq (.ops [⟨some 13, none, .prim (.bin false .eql (.tmp 4) (.const (Go.Value.int Go.IntKind.i64 2)))⟩,
      ⟨some 12, none, .prim (.mov (.tmp 13))⟩])
    (.cond (.tmp 12)
    .skip
    (.seq (.ops [⟨some 14, none, .prim (.bin false .eql (.tmp 4) (.const (Go.Value.int Go.IntKind.i64 3)))⟩,
      ⟨some 12, none, .prim (.mov (.tmp 14))⟩])
    (.cond (.tmp 12)
    .skip
    (.seq (.ops [⟨some 15, none, .prim (.bin false .eql (.tmp 4) (.const (Go.Value.int Go.IntKind.i64 4)))⟩,
      ⟨some 12, none, .prim (.mov (.tmp 15))⟩])
    (.cond (.tmp 12)
    .skip
    (.seq (.ops [⟨some 16, none, .prim (.bin false .eql (.tmp 4) (.const (Go.Value.int Go.IntKind.i64 6)))⟩,
      ⟨some 12, none, .prim (.mov (.tmp 16))⟩])
    (.cond (.tmp 12)
    .skip
    (.seq (.ops [⟨some 17, none, .prim (.bin false .eql (.tmp 4) (.const (Go.Value.int Go.IntKind.i64 7)))⟩,
      ⟨some 12, none, .prim (.mov (.tmp 17))⟩])
    (.cond (.tmp 12)
    .skip
    (.seq (.ops [⟨some 18, none, .prim (.bin false .eql (.tmp 4) (.const (Go.Value.int Go.IntKind.i64 10)))⟩,
      ⟨some 12, none, .prim (.mov (.tmp 18))⟩])
    (.cond (.tmp 12)
    .skip
    (.ops [⟨some 19, none, .prim (.bin false .eql (.tmp 4) (.const (Go.Value.int Go.IntKind.i64 12)))⟩,
      ⟨some 12, none, .prim (.mov (.tmp 19))⟩])))))))))))))
    (.cond (.tmp 12)
    (.seq (.ops [⟨some 2, none, .prim (.mov (.const (Go.Value.int Go.IntKind.i64 0)))⟩,
      ⟨some 3, none, .prim (.mov (.const (Go.Value.bool Bool.true)))⟩])
    .ret)
    (.seq (.ops [⟨some 21, none, .prim (.bin false .eql (.tmp 4) (.const (Go.Value.int Go.IntKind.i64 8)))⟩,
      ⟨some 20, none, .prim (.mov (.tmp 21))⟩])
    (.cond (.tmp 20)
    (.seq (.ops [⟨some 2, none, .prim (.mov (.const (Go.Value.int Go.IntKind.i64 16)))⟩,
      ⟨some 3, none, .prim (.mov (.const (Go.Value.bool Bool.true)))⟩])
    .ret)
    (.seq (.seq (.ops [⟨some 23, none, .prim (.bin false .eql (.tmp 4) (.const (Go.Value.int Go.IntKind.i64 13)))⟩,
      ⟨some 22, none, .prim (.mov (.tmp 23))⟩])
    (.cond (.tmp 22)
    .skip
    (.ops [⟨some 24, none, .prim (.bin false .eql (.tmp 4) (.const (Go.Value.int Go.IntKind.i64 14)))⟩,
      ⟨some 22, none, .prim (.mov (.tmp 24))⟩])))
    (.cond (.tmp 22)
    (.seq (.ops [⟨some 2, none, .prim (.mov (.const (Go.Value.int Go.IntKind.i64 4)))⟩,
      ⟨some 3, none, .prim (.mov (.const (Go.Value.bool Bool.true)))⟩])
    .ret)
    (.seq (.ops [⟨some 26, none, .prim (.bin false .eql (.tmp 4) (.const (Go.Value.int Go.IntKind.i64 15)))⟩,
      ⟨some 25, none, .prim (.mov (.tmp 26))⟩])
    (.cond (.tmp 25)
    (.seq (.ops [⟨some 2, none, .prim (.mov (.const (Go.Value.int Go.IntKind.i64 12)))⟩,
      ⟨some 3, none, .prim (.mov (.const (Go.Value.bool Bool.true)))⟩])
    .ret)
    (.seq (.ops [⟨some 28, none, .prim (.bin false .eql (.tmp 4) (.const (Go.Value.int Go.IntKind.i64 16)))⟩,
      ⟨some 27, none, .prim (.mov (.tmp 28))⟩])
    (.cond (.tmp 27)
    (.seq (.ops [⟨some 2, none, .prim (.mov (.const (Go.Value.int Go.IntKind.i64 32)))⟩,
      ⟨some 3, none, .prim (.mov (.const (Go.Value.bool Bool.true)))⟩])
    .ret)
    (.seq (.ops [⟨some 30, none, .prim (.bin false .eql (.tmp 4) (.const (Go.Value.int Go.IntKind.i64 17)))⟩,
      ⟨some 29, none, .prim (.mov (.tmp 30))⟩])
    (.cond (.tmp 29)
    (.seq (.ops [⟨some 2, none, .prim (.mov (.const (Go.Value.int Go.IntKind.i64 64)))⟩,
      ⟨some 3, none, .prim (.mov (.const (Go.Value.bool Bool.true)))⟩])
    .ret)
    .skip))))))))))))))))))
    (.seq (.ops [⟨some 2, none, .prim (.mov (.const (Go.Value.int Go.IntKind.i64 0)))⟩,
      ⟨some 3, none, .prim (.mov (.const (Go.Value.bool Bool.false)))⟩])
    .ret)))
def o11 : List Tmp := []
def r11 : List RV := [.tmp 2, .tmp 3]
theorem t11 : Text Tryz.prog 11 o11 c11 r11 31 := ⟨⟨Tryz.f11, _, by kernel_rfl, by kernel_rfl, rfl, by kernel_rfl, by kernel_rfl, rfl⟩, by kernel_rfl⟩

/-- sordine/resp.Bytes$1 -/
def c12 : ACode :=
  (.seq (.ops [⟨some 6, none, .prim (.load 1 false (.tmp 2))⟩,
      ⟨some 7, none, .prim (.mov (.tmp 0))⟩,
      ⟨some 8, none, .prim (.bin false .and (.tmp 6) (.tmp 7))⟩,
      ⟨some 9, none, .prim (.bin false .gtr (.tmp 8) (.const (Go.Value.int Go.IntKind.i64 0)))⟩])
    (.cond (.tmp 9)
    (.ops [⟨some 10, none, .prim (.load 1 false (.tmp 3))⟩,
      ⟨some 11, none, .prim (.mov (.tmp 1))⟩,
      ⟨some 12, none, .prim (.app 1 (.tmp 10) (.tmp 11))⟩,
      ⟨none, none, .prim (.store 1 (.tmp 3) (.tmp 12))⟩])
    .skip))
def o12 : List Tmp := []
def r12 : List RV := []
theorem t12 : Text Tryz.prog 12 o12 c12 r12 13 := ⟨⟨Tryz.f12, _, by kernel_rfl, by kernel_rfl, rfl, by kernel_rfl, by kernel_rfl, rfl⟩, by kernel_rfl⟩

/-- sordine/vint.Put -/
def c13 : ACode :=
  (.seq (.ops [⟨some 2, none, .prim (.mov (.const (Go.Value.slice Option.none 0 0)))⟩])
    (.seq (.ops [⟨some 3, none, .prim (.mov (.const (Go.Value.slice Option.none 0 0)))⟩])
    (.seq (.block 0 (.loop [1, 2, 4, 5, 6, 7, 8, 9, 10, 11, 12, 13, 14, 15, 16, 17, 18] (.seq (.seq (.ops [⟨some 4, none, .prim (.mov (.tmp 0))⟩,
      ⟨some 5, none, .prim (.bin false .geq (.tmp 4) (.const (Go.Value.int Go.IntKind.u64 128)))⟩])
    (.cond (.tmp 5)
    .skip
    (.exit 0)))
    (.block 1 (.seq (.ops [⟨some 6, none, .prim (.mov (.tmp 3))⟩,
      ⟨some 7, none, .prim (.mov (.tmp 0))⟩,
      ⟨some 8, none, .prim (.convi .u8 (.tmp 7))⟩,
      ⟨some 9, none, .prim (.bin false .or (.tmp 8) (.const (Go.Value.int Go.IntKind.u8 128)))⟩,
      ⟨some 10, none, .prim (.bsl false 1 false 1 [.pl (.int .u8 0)] [(0, 1, (.tmp 9))])⟩,
      ⟨some 11, none, .prim (.app 1 (.tmp 6) (.tmp 10))⟩,
      ⟨some 3, none, .prim (.mov (.tmp 11))⟩])
    (.ops [⟨some 12, none, .prim (.mov (.tmp 0))⟩,
      ⟨some 13, none, .prim (.bin false .shr (.tmp 12) (.const (Go.Value.int Go.IntKind.u64 7)))⟩,
      ⟨some 0, none, .prim (.mov (.tmp 13))⟩]))))))
    (.seq (.ops [⟨some 14, none, .prim (.mov (.tmp 3))⟩,
      ⟨some 15, none, .prim (.mov (.tmp 0))⟩,
      ⟨some 16, none, .prim (.convi .u8 (.tmp 15))⟩,
      ⟨some 17, none, .prim (.bsl false 1 false 1 [.pl (.int .u8 0)] [(0, 1, (.tmp 16))])⟩,
      ⟨some 18, none, .prim (.app 1 (.tmp 14) (.tmp 17))⟩,
      ⟨some 2, none, .prim (.mov (.tmp 18))⟩])
    .ret))))
def o13 : List Tmp := []
def r13 : List RV := [.tmp 2]
theorem t13 : Text Tryz.prog 13 o13 c13 r13 19 := ⟨⟨Tryz.f13, _, by kernel_rfl, by kernel_rfl, rfl, by kernel_rfl, by kernel_rfl, rfl⟩, by kernel_rfl⟩

/-- sordine/resp.putNumbers -/
def c14 : ACode :=
  (.seq (.ops [⟨some 2, none, .prim (.mov (.const (Go.Value.slice Option.none 0 0)))⟩])
    (.seq (.ops [⟨some 6, none, .prim (.mov (.tmp 0))⟩,
      ⟨some 7, none, .prim (.lenv (.tmp 6))⟩,
      ⟨some 8, none, .prim (.convi .u64 (.tmp 7))⟩,
      ⟨some 9, none, .call (.func 13) [(.tmp 8)]⟩,
      ⟨some 3, none, .prim (.mov (.tmp 9))⟩])
    (.seq (.seq (.ops [⟨some 10, none, .prim (.mov (.tmp 0))⟩,
      ⟨some 11, none, .prim (.lenv (.tmp 10))⟩,
      ⟨some 12, none, .prim (.mov (.const (Go.Value.int Go.IntKind.i64 0)))⟩])
    (.block 0 (.loop [0, 1, 2, 4, 5, 6, 7, 8, 9, 13, 14, 15, 16, 17, 18, 19, 20, 21, 22] (.seq (.ops [⟨some 13, none, .prim (.bin false .lss (.tmp 12) (.tmp 11))⟩])
    (.seq (.cond (.tmp 13)
    .skip
    (.exit 0))
    (.seq (.block 1 (.seq (.ops [⟨some 14, none, .prim (.iadrs 1 (.tmp 10) (.tmp 12))⟩,
      ⟨some 15, none, .prim (.load 1 false (.tmp 14))⟩,
      ⟨some 5, none, .prim (.mov (.tmp 15))⟩])
    (.ops [⟨some 16, none, .prim (.mov (.tmp 3))⟩,
      ⟨some 17, none, .prim (.mov (.tmp 5))⟩,
      ⟨some 18, none, .prim (.convi .u64 (.tmp 17))⟩,
      ⟨some 19, none, .call (.func 13) [(.tmp 18)]⟩,
      ⟨some 20, none, .prim (.app 1 (.tmp 16) (.tmp 19))⟩,
      ⟨some 3, none, .prim (.mov (.tmp 20))⟩])))
    (.ops [⟨some 21, none, .prim (.bin false .add (.tmp 12) (.const (Go.Value.int Go.IntKind.i64 1)))⟩,
      ⟨some 12, none, .prim (.mov (.tmp 21))⟩])))))))
    (.seq (.ops [⟨some 22, none, .prim (.mov (.tmp 3))⟩,
      ⟨some 2, none, .prim (.mov (.tmp 22))⟩])
    (.ghost (.shut 2) .ret)))))
def o14 : List Tmp := []
def r14 : List RV := [.tmp 2]
theorem t14 : Text Tryz.prog 14 o14 c14 r14 23 := ⟨⟨Tryz.f14, _, by kernel_rfl, by kernel_rfl, rfl, by kernel_rfl, by kernel_rfl, rfl⟩, by kernel_rfl⟩

/-- sordine/resp.putSilences -/
def c15 : ACode :=
  (.seq (.ops [⟨some 2, none, .prim (.mov (.const (Go.Value.slice Option.none 0 0)))⟩])
    (.seq (.ops [⟨some 6, none, .prim (.mov (.tmp 0))⟩,
      ⟨some 7, none, .prim (.lenv (.tmp 6))⟩,
      ⟨some 8, none, .prim (.convi .u64 (.tmp 7))⟩,
      ⟨some 9, none, .call (.func 13) [(.tmp 8)]⟩,
      ⟨some 3, none, .prim (.mov (.tmp 9))⟩])
    (.seq (.seq (.ops [⟨some 10, none, .prim (.mov (.tmp 0))⟩,
      ⟨some 11, none, .prim (.lenv (.tmp 10))⟩,
      ⟨some 12, none, .prim (.mov (.const (Go.Value.int Go.IntKind.i64 0)))⟩])
    (.block 0 (.loop [0, 1, 2, 4, 5, 6, 7, 8, 9, 13, 14, 15, 16, 17, 18, 19, 20, 21, 22, 23, 24, 25, 26, 27, 28, 29, 30, 31, 32, 33, 34, 35, 36, 37, 38, 39, 40, 41, 42, 43] (.seq (.ops [⟨some 13, none, .prim (.bin false .lss (.tmp 12) (.tmp 11))⟩])
    (.seq (.cond (.tmp 13)
    .skip
    (.exit 0))
    (.seq (.block 1 (.seq (.ops [⟨some 14, none, .prim (.iadrs 8 (.tmp 10) (.tmp 12))⟩,
      ⟨some 15, none, .prim (.load 8 true (.tmp 14))⟩,
      ⟨some 5, none, .fresh 8 5 (.tmp 15)⟩])
    (.seq (.draw [⟨⟨some 16, none, .prim (.mov (.tmp 3))⟩, [], false, 0, 1⟩,
      ⟨⟨some 17, none, .prim (.fadr 0 (.tmp 5))⟩, [], false, 0, 0⟩,
      ⟨⟨some 18, none, .prim (.load 1 false (.tmp 17))⟩, [1], false, 0, 0⟩,
      ⟨⟨some 19, none, .prim (.convi .u64 (.tmp 18))⟩, [1, 2], false, 0, 0⟩,
      ⟨⟨some 20, none, .call (.func 13) [(.tmp 19)]⟩, [1, 2, 3], true, 0, 0⟩,
      ⟨⟨some 21, none, .prim (.app 1 (.tmp 16) (.tmp 20))⟩, [0, 1, 2, 3, 4], true, 0, 0⟩,
      ⟨⟨some 22, none, .prim (.fadr 1 (.tmp 5))⟩, [], false, 0, 2⟩,
      ⟨⟨some 23, none, .prim (.load 1 false (.tmp 22))⟩, [6], false, 0, 2⟩,
      ⟨⟨some 24, none, .prim (.convi .u8 (.tmp 23))⟩, [6, 7], false, 0, 2⟩,
      ⟨⟨some 25, none, .prim (.bsl false 1 false 1 [.pl (.int .u8 0)] [(0, 1, (.tmp 24))])⟩, [6, 7, 8], false, 0, 2⟩,
      ⟨⟨some 26, none, .prim (.app 1 (.tmp 21) (.tmp 25))⟩, [0, 1, 2, 3, 4, 5, 6, 7, 8, 9], true, 0, 0⟩,
      ⟨⟨some 3, none, .prim (.mov (.tmp 26))⟩, [0, 1, 2, 3, 4, 5, 6, 7, 8, 9, 10], false, 3, 3⟩])
    (.draw [⟨⟨some 27, none, .prim (.mov (.tmp 3))⟩, [], false, 0, 4⟩,
      ⟨⟨some 28, none, .prim (.fadr 2 (.tmp 5))⟩, [], false, 0, 0⟩,
      ⟨⟨some 29, none, .prim (.load 1 false (.tmp 28))⟩, [1], false, 0, 0⟩,
      ⟨⟨some 30, none, .call (.func 13) [(.tmp 29)]⟩, [1, 2], true, 0, 0⟩,
      ⟨⟨some 31, none, .prim (.fadr 3 (.tmp 5))⟩, [], false, 0, 1⟩,
      ⟨⟨some 32, none, .prim (.load 1 false (.tmp 31))⟩, [4], false, 0, 1⟩,
      ⟨⟨some 33, none, .call (.func 13) [(.tmp 32)]⟩, [1, 2, 3, 4, 5], true, 0, 0⟩,
      ⟨⟨some 34, none, .prim (.fadr 4 (.tmp 5))⟩, [], false, 0, 2⟩,
      ⟨⟨some 35, none, .prim (.load 1 false (.tmp 34))⟩, [7], false, 0, 2⟩,
      ⟨⟨some 36, none, .call (.func 30) [(.tmp 35)]⟩, [1, 2, 3, 4, 5, 6, 7, 8], true, 0, 0⟩,
      ⟨⟨some 37, none, .prim (.fadr 5 (.tmp 5))⟩, [], false, 0, 3⟩,
      ⟨⟨some 38, none, .prim (.load 3 true (.tmp 37))⟩, [10], false, 0, 3⟩,
      ⟨⟨some 39, none, .call (.func 31) [(.tmp 38)]⟩, [1, 2, 3, 4, 5, 6, 7, 8, 9, 10, 11], true, 0, 0⟩,
      ⟨⟨some 40, none, .prim (.bsl false 1 false 5 [.nils] [(0, 1, (.tmp 27)), (1, 1, (.tmp 30)), (2, 1, (.tmp 33)), (3, 1, (.tmp 36)), (4, 1, (.tmp 39))])⟩, [0, 1, 2, 3, 4, 5, 6, 7, 8, 9, 10, 11, 12], false, 4, 4⟩,
      ⟨⟨some 41, none, .call (.func 29) [(.tmp 40)]⟩, [0, 1, 2, 3, 4, 5, 6, 7, 8, 9, 10, 11, 12, 13], true, 0, 0⟩,
      ⟨⟨some 3, none, .prim (.mov (.tmp 41))⟩, [0, 1, 2, 3, 4, 5, 6, 7, 8, 9, 10, 11, 12, 13, 14], false, 5, 5⟩]))))
    (.ops [⟨some 42, none, .prim (.bin false .add (.tmp 12) (.const (Go.Value.int Go.IntKind.i64 1)))⟩,
      ⟨some 12, none, .prim (.mov (.tmp 42))⟩])))))))
    (.seq (.ops [⟨some 43, none, .prim (.mov (.tmp 3))⟩,
      ⟨some 2, none, .prim (.mov (.tmp 43))⟩])
    (.ghost (.shut 2) .ret)))))
def o15 : List Tmp := []
def r15 : List RV := [.tmp 2]
theorem t15 : Text Tryz.prog 15 o15 c15 r15 44 := ⟨⟨Tryz.f15, _, by kernel_rfl, by kernel_rfl, rfl, by kernel_rfl, by kernel_rfl, rfl⟩, by kernel_rfl⟩

/-- sordine/vint.PutText -/
def c16 : ACode :=
  (.seq (.ops [⟨some 2, none, .prim (.mov (.const (Go.Value.slice Option.none 0 0)))⟩])
    (.seq (.ops [⟨some 3, none, .prim (.mov (.tmp 0))⟩,
      ⟨some 4, none, .prim (.lens (.tmp 3))⟩,
      ⟨some 5, none, .prim (.convi .u64 (.tmp 4))⟩,
      ⟨some 6, none, .call (.func 13) [(.tmp 5)]⟩,
      ⟨some 7, none, .prim (.mov (.tmp 0))⟩,
      ⟨some 8, none, .prim (.app 1 (.tmp 6) (.tmp 7))⟩,
      ⟨some 2, none, .prim (.mov (.tmp 8))⟩])
    (.ghost (.shut 2) .ret)))
def o16 : List Tmp := []
def r16 : List RV := [.tmp 2]
theorem t16 : Text Tryz.prog 16 o16 c16 r16 9 := ⟨⟨Tryz.f16, _, by kernel_rfl, by kernel_rfl, rfl, by kernel_rfl, by kernel_rfl, rfl⟩, by kernel_rfl⟩

/-- (*sordine/peel.Reader).rest -/
def c17 : ACode :=
  (.seq (.ops [⟨some 2, none, .prim (.mov (.const (Go.Value.slice Option.none 0 0)))⟩])
    (.seq (.draw [⟨⟨some 3, none, .prim (.mov (.tmp 0))⟩, [], false, 0, 0⟩,
      ⟨⟨some 4, none, .prim (.nilc (.tmp 3))⟩, [0], false, 0, 0⟩,
      ⟨⟨some 5, none, .prim (.fadr 0 (.tmp 4))⟩, [0, 1], false, 0, 0⟩,
      ⟨⟨some 6, none, .prim (.load 1 false (.tmp 5))⟩, [0, 1, 2], false, 0, 0⟩,
      ⟨⟨some 7, none, .prim (.mov (.tmp 0))⟩, [], false, 0, 0⟩,
      ⟨⟨some 8, none, .prim (.nilc (.tmp 7))⟩, [4], false, 0, 0⟩,
      ⟨⟨some 9, none, .prim (.fadr 1 (.tmp 8))⟩, [4, 5], false, 0, 0⟩,
      ⟨⟨some 10, none, .prim (.load 1 false (.tmp 9))⟩, [4, 5, 6], false, 0, 0⟩,
      ⟨⟨some 11, none, .prim (.slcv 1 (.tmp 6) (some (.tmp 10)) none)⟩, [0, 1, 2, 3, 4, 5, 6, 7], false, 0, 0⟩,
      ⟨⟨some 2, none, .prim (.mov (.tmp 11))⟩, [0, 1, 2, 3, 4, 5, 6, 7, 8], false, 0, 0⟩])
    (.ghost (.shut 2) .ret)))
def o17 : List Tmp := []
def r17 : List RV := [.tmp 2]
theorem t17 : Text Tryz.prog 17 o17 c17 r17 12 := ⟨⟨Tryz.f17, _, by kernel_rfl, by kernel_rfl, rfl, by kernel_rfl, by kernel_rfl, rfl⟩, by kernel_rfl⟩

/-- (*sordine/peel.Reader).took -/
def c18 : ACode :=
  (.seq (.ops [⟨some 6, none, .prim (.mov (.const (Go.Value.bool Bool.false)))⟩])
    (.seq (.ops [⟨some 7, none, .prim (.mov (.tmp 0))⟩,
      ⟨some 8, none, .prim (.mov (.tmp 0))⟩,
      ⟨some 9, none, .prim (.nilc (.tmp 8))⟩,
      ⟨some 10, none, .prim (.fadr 2 (.tmp 9))⟩,
      ⟨some 11, none, .prim (.load 1 false (.tmp 10))⟩,
      ⟨some 12, none, .prim (.mov (.tmp 11))⟩,
      ⟨some 13, (some (12, false)), .prim (.mov (.tmp 2))⟩,
      ⟨some 14, (some (12, false)), .prim (.un .not (.tmp 13))⟩,
      ⟨some 15, none, .prim (.pick (.tmp 12) (.const (Go.Value.bool Bool.true)) (.tmp 14))⟩,
      ⟨some 16, none, .prim (.nilc (.tmp 7))⟩,
      ⟨some 17, none, .prim (.fadr 2 (.tmp 16))⟩,
      ⟨none, none, .prim (.store 1 (.tmp 17) (.tmp 15))⟩])
    (.seq (.seq (.ops [⟨some 18, none, .prim (.mov (.tmp 0))⟩,
      ⟨some 19, none, .prim (.nilc (.tmp 18))⟩,
      ⟨some 20, none, .prim (.fadr 2 (.tmp 19))⟩,
      ⟨some 21, none, .prim (.load 1 false (.tmp 20))⟩,
      ⟨some 22, none, .prim (.un .not (.tmp 21))⟩])
    (.cond (.tmp 22)
    (.ops [⟨some 23, none, .prim (.mov (.tmp 0))⟩,
      ⟨some 24, none, .prim (.nilc (.tmp 23))⟩,
      ⟨some 25, none, .prim (.fadr 1 (.tmp 24))⟩,
      ⟨some 26, none, .prim (.load 1 false (.tmp 25))⟩,
      ⟨some 27, none, .prim (.mov (.tmp 1))⟩,
      ⟨some 28, none, .prim (.bin false .add (.tmp 26) (.tmp 27))⟩,
      ⟨some 29, none, .prim (.nilc (.tmp 23))⟩,
      ⟨some 30, none, .prim (.fadr 1 (.tmp 29))⟩,
      ⟨none, none, .prim (.store 1 (.tmp 30) (.tmp 28))⟩])
    .skip))
    (.seq (.ops [⟨some 31, none, .prim (.mov (.tmp 0))⟩,
      ⟨some 32, none, .prim (.nilc (.tmp 31))⟩,
      ⟨some 33, none, .prim (.fadr 2 (.tmp 32))⟩,
      ⟨some 34, none, .prim (.load 1 false (.tmp 33))⟩,
      ⟨some 35, none, .prim (.un .not (.tmp 34))⟩,
      ⟨some 6, none, .prim (.mov (.tmp 35))⟩])
    .ret))))
def o18 : List Tmp := []
def r18 : List RV := [.tmp 6]
theorem t18 : Text Tryz.prog 18 o18 c18 r18 36 := ⟨⟨Tryz.f18, _, by kernel_rfl, by kernel_rfl, rfl, by kernel_rfl, by kernel_rfl, rfl⟩, by kernel_rfl⟩

/-- (*sordine/peel.Reader).Refuse -/
def c19 : ACode :=
  (.ops [⟨some 4, none, .prim (.mov (.tmp 0))⟩,
      ⟨some 5, none, .prim (.mov (.tmp 1))⟩,
      ⟨some 6, none, .call (.func 18) [(.tmp 4), (.const (Go.Value.int Go.IntKind.i64 0)), (.tmp 5)]⟩])
def o19 : List Tmp := []
def r19 : List RV := []
theorem t19 : Text Tryz.prog 19 o19 c19 r19 7 := ⟨⟨Tryz.f19, _, by kernel_rfl, by kernel_rfl, rfl, by kernel_rfl, by kernel_rfl, rfl⟩, by kernel_rfl⟩

/-- (*sordine/peel.Reader).Num -/
def c20 : ACode :=
  (.seq (.ops [⟨some 4, none, .prim (.mov (.const (Go.Value.int Go.IntKind.u64 0)))⟩])
    (.seq (.ops [⟨some 9, none, .prim (.mov (.tmp 0))⟩,
      ⟨some 10, none, .call (.func 17) [(.tmp 9)]⟩,
      ⟨some 11, none, .call (.func 32) [(.tmp 10)]⟩,
      ⟨some 8, none, .prim (.mov (.tmp 11))⟩,
      ⟨some 12, none, .prim (.extr 0 (.tmp 8))⟩,
      ⟨some 13, none, .prim (.extr 1 (.tmp 8))⟩,
      ⟨some 14, none, .prim (.extr 2 (.tmp 8))⟩,
      ⟨some 5, none, .prim (.mov (.tmp 12))⟩,
      ⟨some 6, none, .prim (.mov (.tmp 13))⟩,
      ⟨some 7, none, .prim (.mov (.tmp 14))⟩])
    (.seq (.seq (.ops [⟨some 15, none, .prim (.mov (.tmp 0))⟩,
      ⟨some 16, none, .prim (.mov (.tmp 6))⟩,
      ⟨some 17, none, .prim (.mov (.tmp 7))⟩,
      ⟨some 18, none, .prim (.mov (.tmp 17))⟩,
      ⟨some 19, (some (18, true)), .prim (.mov (.tmp 5))⟩,
      ⟨some 20, (some (18, true)), .prim (.mov (.tmp 1))⟩,
      ⟨some 21, (some (18, true)), .prim (.bin false .leq (.tmp 19) (.tmp 20))⟩,
      ⟨some 22, none, .prim (.pick (.tmp 18) (.tmp 21) (.const (Go.Value.bool Bool.false)))⟩,
      ⟨some 23, none, .call (.func 18) [(.tmp 15), (.tmp 16), (.tmp 22)]⟩,
      ⟨some 24, none, .prim (.un .not (.tmp 23))⟩])
    (.cond (.tmp 24)
    (.seq (.ops [⟨some 4, none, .prim (.mov (.const (Go.Value.int Go.IntKind.u64 0)))⟩])
    .ret)
    .skip))
    (.seq (.ops [⟨some 25, none, .prim (.mov (.tmp 5))⟩,
      ⟨some 4, none, .prim (.mov (.tmp 25))⟩])
    .ret))))
def o20 : List Tmp := []
def r20 : List RV := [.tmp 4]
theorem t20 : Text Tryz.prog 20 o20 c20 r20 26 := ⟨⟨Tryz.f20, _, by kernel_rfl, by kernel_rfl, rfl, by kernel_rfl, by kernel_rfl, rfl⟩, by kernel_rfl⟩

/-- sordine/resp.readNumbers -/
def c21 : ACode :=
  (.seq (.ops [⟨some 4, none, .prim (.mov (.const (Go.Value.slice Option.none 0 0)))⟩])
    (.seq (.ops [⟨some 5, none, .prim (.mov (.const (Go.Value.slice Option.none 0 0)))⟩])
    (.seq (.seq (.ops [⟨some 6, none, .prim (.mov (.tmp 0))⟩,
      ⟨some 7, none, .prim (.mov (.tmp 1))⟩,
      ⟨some 8, none, .call (.func 20) [(.tmp 6), (.tmp 7)]⟩,
      ⟨some 9, none, .prim (.mov (.const (Go.Value.int Go.IntKind.u64 0)))⟩])
    (.block 0 (.loop [1, 2, 3, 4, 6, 7, 10, 11, 12, 13, 14, 15, 16, 17, 18] (.seq (.ops [⟨some 10, none, .prim (.bin false .lss (.tmp 9) (.tmp 8))⟩])
    (.seq (.cond (.tmp 10)
    .skip
    (.exit 0))
    (.seq (.block 1 (.ops [⟨some 11, none, .prim (.mov (.tmp 5))⟩,
      ⟨some 12, none, .prim (.mov (.tmp 0))⟩,
      ⟨some 13, none, .call (.func 20) [(.tmp 12), (.const (Go.Value.int Go.IntKind.u64 2147483647))]⟩,
      ⟨some 14, none, .prim (.convi .i64 (.tmp 13))⟩,
      ⟨some 15, none, .prim (.bsl false 1 false 1 [.pl (.int .i64 0)] [(0, 1, (.tmp 14))])⟩,
      ⟨some 16, none, .prim (.app 1 (.tmp 11) (.tmp 15))⟩,
      ⟨some 5, none, .prim (.mov (.tmp 16))⟩]))
    (.ops [⟨some 17, none, .prim (.bin false .add (.tmp 9) (.const (Go.Value.int Go.IntKind.u64 1)))⟩,
      ⟨some 9, none, .prim (.mov (.tmp 17))⟩])))))))
    (.seq (.ops [⟨some 18, none, .prim (.mov (.tmp 5))⟩,
      ⟨some 4, none, .prim (.mov (.tmp 18))⟩])
    .ret))))
def o21 : List Tmp := []
def r21 : List RV := [.tmp 4]
theorem t21 : Text Tryz.prog 21 o21 c21 r21 19 := ⟨⟨Tryz.f21, _, by kernel_rfl, by kernel_rfl, rfl, by kernel_rfl, by kernel_rfl, rfl⟩, by kernel_rfl⟩

/-- sordine/resp.readSilences -/
def c22 : ACode :=
  (.seq (.ops [⟨some 2, none, .prim (.mov (.const (Go.Value.slice Option.none 0 0)))⟩])
    (.seq (.ops [⟨some 3, none, .prim (.mov (.const (Go.Value.slice Option.none 0 0)))⟩])
    (.seq (.seq (.ops [⟨some 5, none, .prim (.mov (.tmp 0))⟩,
      ⟨some 6, none, .call (.func 20) [(.tmp 5), (.const (Go.Value.int Go.IntKind.u64 12))]⟩,
      ⟨some 7, none, .prim (.mov (.const (Go.Value.int Go.IntKind.u64 0)))⟩])
    (.block 0 (.loop [1, 2, 4, 5, 8, 9, 10, 11, 12, 13, 14, 15, 16, 17, 18, 19, 20, 21, 22, 23, 24, 25, 26, 27, 28, 29, 30, 31] (.seq (.ops [⟨some 8, none, .prim (.bin false .lss (.tmp 7) (.tmp 6))⟩])
    (.seq (.cond (.tmp 8)
    .skip
    (.exit 0))
    (.seq (.block 1 (.seq (.ops [⟨some 9, none, .prim (.mov (.tmp 0))⟩,
      ⟨some 10, none, .call (.func 20) [(.tmp 9), (.const (Go.Value.int Go.IntKind.u64 2147483647))]⟩,
      ⟨some 11, none, .prim (.convi .i64 (.tmp 10))⟩,
      ⟨some 12, none, .prim (.mov (.tmp 0))⟩,
      ⟨some 13, none, .call (.func 7) [(.tmp 12)]⟩,
      ⟨some 14, none, .prim (.convi .i64 (.tmp 13))⟩,
      ⟨some 15, none, .prim (.mov (.tmp 0))⟩,
      ⟨some 16, none, .call (.func 20) [(.tmp 15), (.const (Go.Value.int Go.IntKind.u64 1099511627776))]⟩,
      ⟨some 17, none, .prim (.mov (.tmp 0))⟩,
      ⟨some 18, none, .call (.func 20) [(.tmp 17), (.const (Go.Value.int Go.IntKind.u64 1099511627776))]⟩,
      ⟨some 19, none, .prim (.build [.pl (.int .i64 0), .pl (.int .i64 0), .pl (.int .u64 0), .pl (.int .u64 0), .nils, .pl (.bool false), .pl (.float .f64 0), .pl (.float .f64 0)] [(0, 1, (.tmp 11)), (1, 1, (.tmp 14)), (2, 1, (.tmp 16)), (3, 1, (.tmp 18))])⟩,
      ⟨some 4, none, .prim (.allocm [.pl (.int .i64 0), .pl (.int .i64 0), .pl (.int .u64 0), .pl (.int .u64 0), .nils, .pl (.bool false), .pl (.float .f64 0), .pl (.float .f64 0)])⟩,
      ⟨none, none, .prim (.store 8 (.tmp 4) (.tmp 19))⟩])
    (.seq (.ops [⟨some 20, none, .prim (.mov (.tmp 0))⟩,
      ⟨some 21, none, .call (.func 33) [(.tmp 20), (.func 34)]⟩,
      ⟨some 22, none, .prim (.mov (.tmp 0))⟩,
      ⟨some 23, none, .call (.func 35) [(.tmp 22), (.func 36)]⟩,
      ⟨some 24, none, .prim (.fadr 4 (.tmp 4))⟩,
      ⟨none, none, .prim (.store 1 (.tmp 24) (.tmp 21))⟩,
      ⟨some 25, none, .prim (.fadr 5 (.tmp 4))⟩,
      ⟨none, none, .prim (.store 3 (.tmp 25) (.tmp 23))⟩])
    (.ops [⟨some 26, none, .prim (.mov (.tmp 3))⟩,
      ⟨some 27, none, .prim (.load 8 true (.tmp 4))⟩,
      ⟨some 28, none, .prim (.bsl false 8 true 1 [.pl (.int .i64 0), .pl (.int .i64 0), .pl (.int .u64 0), .pl (.int .u64 0), .nils, .pl (.bool false), .pl (.float .f64 0), .pl (.float .f64 0)] [(0, 8, (.tmp 27))])⟩,
      ⟨some 29, none, .prim (.app 8 (.tmp 26) (.tmp 28))⟩,
      ⟨some 3, none, .prim (.mov (.tmp 29))⟩]))))
    (.ops [⟨some 30, none, .prim (.bin false .add (.tmp 7) (.const (Go.Value.int Go.IntKind.u64 1)))⟩,
      ⟨some 7, none, .prim (.mov (.tmp 30))⟩])))))))
    (.seq (.ops [⟨some 31, none, .prim (.mov (.tmp 3))⟩,
      ⟨some 2, none, .prim (.mov (.tmp 31))⟩])
    .ret))))
def o22 : List Tmp := [4]
def r22 : List RV := [.tmp 2]
theorem t22 : Text Tryz.prog 22 o22 c22 r22 32 := ⟨⟨Tryz.f22, _, by kernel_rfl, by kernel_rfl, rfl, by kernel_rfl, by kernel_rfl, rfl⟩, by kernel_rfl⟩

/-- (*sordine/peel.Reader).Text -/
def c23 : ACode :=
  (.seq (.ops [⟨some 4, none, .prim (.mov (.const (Go.Value.string (ByteArray.mk #[]))))⟩])
    (.seq (.ops [⟨some 9, none, .prim (.mov (.tmp 0))⟩,
      ⟨some 10, none, .call (.func 17) [(.tmp 9)]⟩,
      ⟨some 11, none, .prim (.mov (.tmp 1))⟩,
      ⟨some 12, none, .call (.func 37) [(.tmp 10), (.tmp 11)]⟩,
      ⟨some 8, none, .prim (.mov (.tmp 12))⟩,
      ⟨some 13, none, .prim (.extr 0 (.tmp 8))⟩,
      ⟨some 14, none, .prim (.extr 1 (.tmp 8))⟩,
      ⟨some 15, none, .prim (.extr 2 (.tmp 8))⟩,
      ⟨some 5, none, .prim (.mov (.tmp 13))⟩,
      ⟨some 6, none, .prim (.mov (.tmp 14))⟩,
      ⟨some 7, none, .prim (.mov (.tmp 15))⟩])
    (.seq (.seq (.ops [⟨some 16, none, .prim (.mov (.tmp 0))⟩,
      ⟨some 17, none, .prim (.mov (.tmp 6))⟩,
      ⟨some 18, none, .prim (.mov (.tmp 7))⟩,
      ⟨some 19, none, .call (.func 18) [(.tmp 16), (.tmp 17), (.tmp 18)]⟩,
      ⟨some 20, none, .prim (.un .not (.tmp 19))⟩])
    (.cond (.tmp 20)
    (.seq (.ops [⟨some 4, none, .prim (.mov (.const (Go.Value.string (ByteArray.mk #[]))))⟩])
    .ret)
    .skip))
    (.seq (.ops [⟨some 21, none, .prim (.mov (.tmp 5))⟩,
      ⟨some 4, none, .prim (.mov (.tmp 21))⟩])
    .ret))))
def o23 : List Tmp := []
def r23 : List RV := [.tmp 4]
theorem t23 : Text Tryz.prog 23 o23 c23 r23 22 := ⟨⟨Tryz.f23, _, by kernel_rfl, by kernel_rfl, rfl, by kernel_rfl, by kernel_rfl, rfl⟩, by kernel_rfl⟩

/-- (*sordine/peel.Reader).Bytes -/
def c24 : ACode :=
  (.seq (.ops [⟨some 4, none, .prim (.mov (.const (Go.Value.slice Option.none 0 0)))⟩])
    (.seq (.ops [⟨some 6, none, .prim (.mov (.tmp 0))⟩,
      ⟨some 7, none, .call (.func 17) [(.tmp 6)]⟩,
      ⟨some 5, none, .prim (.mov (.tmp 7))⟩])
    (.seq (.seq (.ops [⟨some 8, none, .prim (.mov (.tmp 0))⟩,
      ⟨some 9, none, .prim (.mov (.tmp 1))⟩,
      ⟨some 10, none, .prim (.mov (.tmp 1))⟩,
      ⟨some 11, none, .prim (.bin false .geq (.tmp 10) (.const (Go.Value.int Go.IntKind.i64 0)))⟩,
      ⟨some 12, none, .prim (.mov (.tmp 11))⟩,
      ⟨some 13, (some (12, true)), .prim (.mov (.tmp 1))⟩,
      ⟨some 14, (some (12, true)), .prim (.mov (.tmp 5))⟩,
      ⟨some 15, (some (12, true)), .prim (.lenv (.tmp 14))⟩,
      ⟨some 16, (some (12, true)), .prim (.bin false .leq (.tmp 13) (.tmp 15))⟩,
      ⟨some 17, none, .prim (.pick (.tmp 12) (.tmp 16) (.const (Go.Value.bool Bool.false)))⟩,
      ⟨some 18, none, .call (.func 18) [(.tmp 8), (.tmp 9), (.tmp 17)]⟩,
      ⟨some 19, none, .prim (.un .not (.tmp 18))⟩])
    (.cond (.tmp 19)
    (.seq (.ops [⟨some 4, none, .prim (.mov (.const (Go.Value.slice Option.none 0 0)))⟩])
    .ret)
    .skip))
    (.seq (.ops [⟨some 20, none, .prim (.mov (.tmp 5))⟩,
      ⟨some 21, none, .prim (.mov (.tmp 1))⟩,
      ⟨some 22, none, .prim (.slcv 1 (.tmp 20) none (some (.tmp 21)))⟩,
      ⟨some 23, none, .prim (.app 1 (.const (Go.Value.slice Option.none 0 0)) (.tmp 22))⟩,
      ⟨some 4, none, .prim (.mov (.tmp 23))⟩])
    .ret))))
def o24 : List Tmp := []
def r24 : List RV := [.tmp 4]
theorem t24 : Text Tryz.prog 24 o24 c24 r24 24 := ⟨⟨Tryz.f24, _, by kernel_rfl, by kernel_rfl, rfl, by kernel_rfl, by kernel_rfl, rfl⟩, by kernel_rfl⟩

/-- sordine/resp.zero -/
def c25 : ACode :=
  (.seq (.ops [⟨some 2, none, .prim (.boxr (.tmp 0))⟩,
      ⟨some 4, none, .prim (.mov (.const (Go.Value.bool Bool.false)))⟩])
    (.seq (.ops [⟨some 5, none, .prim (.mov (.tmp 1))⟩,
      ⟨some 6, none, .prim (.bin false .and (.tmp 5) (.const (Go.Value.int Go.IntKind.i64 1)))⟩,
      ⟨some 7, none, .prim (.bin false .gtr (.tmp 6) (.const (Go.Value.int Go.IntKind.i64 0)))⟩,
      ⟨some 8, none, .prim (.mov (.tmp 7))⟩,
      ⟨some 9, (some (8, false)), .prim (.fadr 39 (.tmp 2))⟩,
      ⟨some 10, (some (8, false)), .prim (.load 1 false (.tmp 9))⟩,
      ⟨some 11, (some (8, false)), .prim (.bin false .eql (.tmp 10) (.const (Go.Value.int Go.IntKind.u64 0)))⟩,
      ⟨some 12, none, .prim (.pick (.tmp 8) (.const (Go.Value.bool Bool.true)) (.tmp 11))⟩,
      ⟨some 13, none, .prim (.mov (.tmp 12))⟩,
      ⟨some 14, (some (13, true)), .prim (.mov (.tmp 1))⟩,
      ⟨some 15, (some (13, true)), .prim (.bin false .and (.tmp 14) (.const (Go.Value.int Go.IntKind.i64 2)))⟩,
      ⟨some 16, (some (13, true)), .prim (.bin false .gtr (.tmp 15) (.const (Go.Value.int Go.IntKind.i64 0)))⟩,
      ⟨some 17, (some (13, true)), .prim (.mov (.tmp 16))⟩,
      ⟨some 18, (some (17, false)), .prim (.fadr 2 (.tmp 2))⟩,
      ⟨some 19, (some (17, false)), .prim (.load 1 false (.tmp 18))⟩,
      ⟨some 20, (some (17, false)), .prim (.bin false .eql (.tmp 19) (.const (Go.Value.int Go.IntKind.i64 0)))⟩,
      ⟨some 21, (some (13, true)), .prim (.pick (.tmp 17) (.const (Go.Value.bool Bool.true)) (.tmp 20))⟩,
      ⟨some 22, none, .prim (.pick (.tmp 13) (.tmp 21) (.const (Go.Value.bool Bool.false)))⟩,
      ⟨some 23, none, .prim (.mov (.tmp 22))⟩,
      ⟨some 24, (some (23, true)), .prim (.mov (.tmp 1))⟩,
      ⟨some 25, (some (23, true)), .prim (.bin false .and (.tmp 24) (.const (Go.Value.int Go.IntKind.i64 4)))⟩,
      ⟨some 26, (some (23, true)), .prim (.bin false .gtr (.tmp 25) (.const (Go.Value.int Go.IntKind.i64 0)))⟩,
      ⟨some 27, (some (23, true)), .prim (.mov (.tmp 26))⟩,
      ⟨some 28, (some (27, false)), .prim (.fadr 3 (.tmp 2))⟩,
      ⟨some 29, (some (27, false)), .prim (.load 1 false (.tmp 28))⟩,
      ⟨some 30, (some (27, false)), .prim (.lenv (.tmp 29))⟩,
      ⟨some 31, (some (27, false)), .prim (.bin false .eql (.tmp 30) (.const (Go.Value.int Go.IntKind.i64 0)))⟩,
      ⟨some 32, (some (23, true)), .prim (.pick (.tmp 27) (.const (Go.Value.bool Bool.true)) (.tmp 31))⟩,
      ⟨some 33, none, .prim (.pick (.tmp 23) (.tmp 32) (.const (Go.Value.bool Bool.false)))⟩,
      ⟨some 34, none, .prim (.mov (.tmp 33))⟩,
      ⟨some 35, (some (34, true)), .prim (.mov (.tmp 1))⟩,
      ⟨some 36, (some (34, true)), .prim (.bin false .and (.tmp 35) (.const (Go.Value.int Go.IntKind.i64 8)))⟩,
      ⟨some 37, (some (34, true)), .prim (.bin false .gtr (.tmp 36) (.const (Go.Value.int Go.IntKind.i64 0)))⟩,
      ⟨some 38, (some (34, true)), .prim (.mov (.tmp 37))⟩,
      ⟨some 39, (some (38, false)), .prim (.fadr 4 (.tmp 2))⟩,
      ⟨some 40, (some (38, false)), .prim (.load 1 false (.tmp 39))⟩,
      ⟨some 41, (some (38, false)), .prim (.lenv (.tmp 40))⟩,
      ⟨some 42, (some (38, false)), .prim (.bin false .eql (.tmp 41) (.const (Go.Value.int Go.IntKind.i64 0)))⟩,
      ⟨some 43, (some (34, true)), .prim (.pick (.tmp 38) (.const (Go.Value.bool Bool.true)) (.tmp 42))⟩,
      ⟨some 44, none, .prim (.pick (.tmp 34) (.tmp 43) (.const (Go.Value.bool Bool.false)))⟩,
      ⟨some 45, none, .prim (.mov (.tmp 44))⟩,
      ⟨some 46, (some (45, true)), .prim (.mov (.tmp 1))⟩,
      ⟨some 47, (some (45, true)), .prim (.bin false .and (.tmp 46) (.const (Go.Value.int Go.IntKind.i64 16)))⟩,
      ⟨some 48, (some (45, true)), .prim (.bin false .gtr (.tmp 47) (.const (Go.Value.int Go.IntKind.i64 0)))⟩,
      ⟨some 49, (some (45, true)), .prim (.mov (.tmp 48))⟩,
      ⟨some 50, (some (49, false)), .prim (.fadr 5 (.tmp 2))⟩,
      ⟨some 51, (some (49, false)), .prim (.load 1 false (.tmp 50))⟩,
      ⟨some 52, (some (49, false)), .prim (.lenv (.tmp 51))⟩,
      ⟨some 53, (some (49, false)), .prim (.bin false .eql (.tmp 52) (.const (Go.Value.int Go.IntKind.i64 0)))⟩,
      ⟨some 54, (some (45, true)), .prim (.pick (.tmp 49) (.const (Go.Value.bool Bool.true)) (.tmp 53))⟩,
      ⟨some 55, none, .prim (.pick (.tmp 45) (.tmp 54) (.const (Go.Value.bool Bool.false)))⟩,
      ⟨some 56, none, .prim (.mov (.tmp 55))⟩,
      ⟨some 57, (some (56, true)), .prim (.mov (.tmp 1))⟩,
      ⟨some 58, (some (56, true)), .prim (.bin false .and (.tmp 57) (.const (Go.Value.int Go.IntKind.i64 32)))⟩,
      ⟨some 59, (some (56, true)), .prim (.bin false .gtr (.tmp 58) (.const (Go.Value.int Go.IntKind.i64 0)))⟩,
      ⟨some 60, (some (56, true)), .prim (.mov (.tmp 59))⟩,
      ⟨some 61, (some (60, false)), .prim (.fadr 6 (.tmp 2))⟩,
      ⟨some 62, (some (60, false)), .prim (.load 1 false (.tmp 61))⟩,
      ⟨some 63, (some (60, false)), .prim (.lenv (.tmp 62))⟩,
      ⟨some 64, (some (60, false)), .prim (.bin false .eql (.tmp 63) (.const (Go.Value.int Go.IntKind.i64 0)))⟩,
      ⟨some 65, (some (56, true)), .prim (.pick (.tmp 60) (.const (Go.Value.bool Bool.true)) (.tmp 64))⟩,
      ⟨some 66, none, .prim (.pick (.tmp 56) (.tmp 65) (.const (Go.Value.bool Bool.false)))⟩,
      ⟨some 67, none, .prim (.mov (.tmp 66))⟩,
      ⟨some 68, (some (67, true)), .prim (.mov (.tmp 1))⟩,
      ⟨some 69, (some (67, true)), .prim (.bin false .and (.tmp 68) (.const (Go.Value.int Go.IntKind.i64 64)))⟩,
      ⟨some 70, (some (67, true)), .prim (.bin false .gtr (.tmp 69) (.const (Go.Value.int Go.IntKind.i64 0)))⟩,
      ⟨some 71, (some (67, true)), .prim (.mov (.tmp 70))⟩,
      ⟨some 72, (some (71, false)), .prim (.fadr 7 (.tmp 2))⟩,
      ⟨some 73, (some (71, false)), .prim (.load 32 true (.tmp 72))⟩,
      ⟨some 74, (some (71, false)), .prim (.build [.pl (.int .u8 0), .pl (.int .u8 0), .pl (.int .u8 0), .pl (.int .u8 0), .pl (.int .u8 0), .pl (.int .u8 0), .pl (.int .u8 0), .pl (.int .u8 0), .pl (.int .u8 0), .pl (.int .u8 0), .pl (.int .u8 0), .pl (.int .u8 0), .pl (.int .u8 0), .pl (.int .u8 0), .pl (.int .u8 0), .pl (.int .u8 0), .pl (.int .u8 0), .pl (.int .u8 0), .pl (.int .u8 0), .pl (.int .u8 0), .pl (.int .u8 0), .pl (.int .u8 0), .pl (.int .u8 0), .pl (.int .u8 0), .pl (.int .u8 0), .pl (.int .u8 0), .pl (.int .u8 0), .pl (.int .u8 0), .pl (.int .u8 0), .pl (.int .u8 0), .pl (.int .u8 0), .pl (.int .u8 0)] [])⟩,
      ⟨some 75, (some (71, false)), .prim (.eqa false [.int, .int, .int, .int, .int, .int, .int, .int, .int, .int, .int, .int, .int, .int, .int, .int, .int, .int, .int, .int, .int, .int, .int, .int, .int, .int, .int, .int, .int, .int, .int, .int] (.tmp 73) (.tmp 74))⟩,
      ⟨some 76, (some (67, true)), .prim (.pick (.tmp 71) (.const (Go.Value.bool Bool.true)) (.tmp 75))⟩,
      ⟨some 77, none, .prim (.pick (.tmp 67) (.tmp 76) (.const (Go.Value.bool Bool.false)))⟩,
      ⟨some 4, none, .prim (.mov (.tmp 77))⟩])
    .ret))
def o25 : List Tmp := []
def r25 : List RV := [.tmp 4]
theorem t25 : Text Tryz.prog 25 o25 c25 r25 78 := ⟨⟨Tryz.f25, _, by kernel_rfl, by kernel_rfl, rfl, by kernel_rfl, by kernel_rfl, rfl⟩, by kernel_rfl⟩

/-- sordine/resp.number -/
def c26 : ACode :=
  (.seq (.ops [⟨some 2, none, .prim (.mov (.const (Go.Value.bool Bool.false)))⟩])
    (.seq (.ops [⟨some 3, none, .prim (.mov (.tmp 0))⟩,
      ⟨some 4, none, .prim (.bin false .geq (.tmp 3) (.const (Go.Value.int Go.IntKind.i64 1)))⟩,
      ⟨some 5, none, .prim (.mov (.tmp 4))⟩,
      ⟨some 6, (some (5, true)), .prim (.mov (.tmp 0))⟩,
      ⟨some 7, (some (5, true)), .prim (.bin false .leq (.tmp 6) (.const (Go.Value.int Go.IntKind.i64 2147483647)))⟩,
      ⟨some 8, none, .prim (.pick (.tmp 5) (.tmp 7) (.const (Go.Value.bool Bool.false)))⟩,
      ⟨some 2, none, .prim (.mov (.tmp 8))⟩])
    .ret))
def o26 : List Tmp := []
def r26 : List RV := [.tmp 2]
theorem t26 : Text Tryz.prog 26 o26 c26 r26 9 := ⟨⟨Tryz.f26, _, by kernel_rfl, by kernel_rfl, rfl, by kernel_rfl, by kernel_rfl, rfl⟩, by kernel_rfl⟩

/-- sordine/resp.numbers -/
def c27 : ACode :=
  (.seq (.ops [⟨some 6, none, .prim (.mov (.const (Go.Value.bool Bool.false)))⟩])
    (.seq (.seq (.ops [⟨some 7, none, .prim (.mov (.tmp 0))⟩,
      ⟨some 8, none, .call (.func 38) [(.tmp 7), (.func 39)]⟩,
      ⟨some 9, none, .prim (.mov (.tmp 8))⟩,
      ⟨some 10, (some (9, false)), .prim (.mov (.tmp 0))⟩,
      ⟨some 11, (some (9, false)), .prim (.lenv (.tmp 10))⟩,
      ⟨some 12, (some (9, false)), .prim (.mov (.tmp 1))⟩,
      ⟨some 13, (some (9, false)), .prim (.bin false .gtr (.tmp 11) (.tmp 12))⟩,
      ⟨some 14, none, .prim (.pick (.tmp 9) (.const (Go.Value.bool Bool.true)) (.tmp 13))⟩])
    (.cond (.tmp 14)
    (.seq (.ops [⟨some 6, none, .prim (.mov (.const (Go.Value.bool Bool.false)))⟩])
    .ret)
    .skip))
    (.seq (.ops [⟨some 15, none, .prim (.mov (.tmp 0))⟩,
      ⟨some 16, none, .call (.func 40) [(.tmp 15)]⟩,
      ⟨some 17, none, .prim (.mov (.tmp 16))⟩,
      ⟨some 18, (some (17, false)), .prim (.mov (.tmp 2))⟩,
      ⟨some 19, (some (17, false)), .prim (.un .not (.tmp 18))⟩,
      ⟨some 20, (some (17, false)), .prim (.mov (.tmp 19))⟩,
      ⟨some 21, (some (20, true)), .prim (.mov (.tmp 0))⟩,
      ⟨some 22, (some (20, true)), .call (.func 41) [(.tmp 21)]⟩,
      ⟨some 23, (some (20, true)), .prim (.lenv (.tmp 22))⟩,
      ⟨some 24, (some (20, true)), .prim (.mov (.tmp 0))⟩,
      ⟨some 25, (some (20, true)), .prim (.lenv (.tmp 24))⟩,
      ⟨some 26, (some (20, true)), .prim (.bin false .eql (.tmp 23) (.tmp 25))⟩,
      ⟨some 27, (some (17, false)), .prim (.pick (.tmp 20) (.tmp 26) (.const (Go.Value.bool Bool.false)))⟩,
      ⟨some 28, none, .prim (.pick (.tmp 17) (.const (Go.Value.bool Bool.true)) (.tmp 27))⟩,
      ⟨some 6, none, .prim (.mov (.tmp 28))⟩])
    .ret)))
def o27 : List Tmp := []
def r27 : List RV := [.tmp 6]
theorem t27 : Text Tryz.prog 27 o27 c27 r27 29 := ⟨⟨Tryz.f27, _, by kernel_rfl, by kernel_rfl, rfl, by kernel_rfl, by kernel_rfl, rfl⟩, by kernel_rfl⟩

/-- sordine/resp.silences -/
def c28 : ACode :=
  (.seq (.ops [⟨some 2, none, .prim (.mov (.const (Go.Value.bool Bool.false)))⟩])
    (.seq (.seq (.ops [⟨some 5, none, .prim (.mov (.tmp 0))⟩,
      ⟨some 6, none, .prim (.lenv (.tmp 5))⟩,
      ⟨some 7, none, .prim (.bin false .gtr (.tmp 6) (.const (Go.Value.int Go.IntKind.i64 12)))⟩])
    (.cond (.tmp 7)
    (.seq (.ops [⟨some 2, none, .prim (.mov (.const (Go.Value.bool Bool.false)))⟩])
    .ret)
    .skip))
    (.seq (.seq (.ops [⟨some 8, none, .prim (.mov (.tmp 0))⟩,
      ⟨some 9, none, .prim (.lenv (.tmp 8))⟩,
      ⟨some 10, none, .prim (.mov (.const (Go.Value.int Go.IntKind.i64 0)))⟩])
    (.block 0 (.loop [1, 2, 3, 4, 5, 6, 7, 11, 12, 13, 14, 15, 16, 17, 18, 19, 20, 21, 22, 23, 24, 25, 26, 27, 28, 29, 30, 31, 32, 33] (.seq (.ops [⟨some 11, none, .prim (.bin false .lss (.tmp 10) (.tmp 9))⟩])
    (.seq (.cond (.tmp 11)
    .skip
    (.exit 0))
    (.seq (.block 1 (.seq (.ops [⟨some 12, none, .prim (.mov (.tmp 10))⟩,
      ⟨some 13, none, .prim (.iadrs 8 (.tmp 8) (.tmp 10))⟩,
      ⟨some 14, none, .prim (.load 8 true (.tmp 13))⟩,
      ⟨some 4, none, .prim (.allocm [.pl (.int .i64 0), .pl (.int .i64 0), .pl (.int .u64 0), .pl (.int .u64 0), .nils, .pl (.bool false), .pl (.float .f64 0), .pl (.float .f64 0)])⟩,
      ⟨some 3, none, .prim (.mov (.tmp 12))⟩,
      ⟨none, none, .prim (.store 8 (.tmp 4) (.tmp 14))⟩])
    (.seq (.draw [⟨⟨some 15, none, .prim (.load 8 true (.tmp 4))⟩, [], false, 0, 0⟩,
      ⟨⟨some 16, none, .call (.func 42) [(.tmp 15)]⟩, [0], true, 0, 0⟩,
      ⟨⟨some 17, none, .prim (.un .not (.tmp 16))⟩, [0, 1], false, 1, 1⟩,
      ⟨⟨some 18, none, .prim (.mov (.tmp 17))⟩, [0, 1, 2], false, 1, 1⟩,
      ⟨⟨some 19, (some (18, false)), .prim (.mov (.tmp 3))⟩, [0, 1, 2, 3], false, 1, 1⟩,
      ⟨⟨some 20, (some (18, false)), .prim (.bin false .gtr (.tmp 19) (.const (Go.Value.int Go.IntKind.i64 0)))⟩, [0, 1, 2, 3, 4], false, 1, 1⟩,
      ⟨⟨some 21, (some (18, false)), .prim (.mov (.tmp 20))⟩, [0, 1, 2, 3, 4, 5], false, 1, 1⟩,
      ⟨⟨some 22, (some (21, true)), .prim (.fadr 0 (.tmp 4))⟩, [0, 1, 2, 3, 4, 5, 6], false, 1, 1⟩,
      ⟨⟨some 23, (some (21, true)), .prim (.load 1 false (.tmp 22))⟩, [0, 1, 2, 3, 4, 5, 6, 7], false, 1, 1⟩,
      ⟨⟨some 24, (some (21, true)), .prim (.mov (.tmp 0))⟩, [0, 1, 2, 3, 4, 5, 6], false, 1, 1⟩,
      ⟨⟨some 25, (some (21, true)), .prim (.mov (.tmp 3))⟩, [0, 1, 2, 3, 4, 5, 6], false, 1, 1⟩,
      ⟨⟨some 26, (some (21, true)), .prim (.bin false .sub (.tmp 25) (.const (Go.Value.int Go.IntKind.i64 1)))⟩, [0, 1, 2, 3, 4, 5, 6, 10], false, 1, 1⟩,
      ⟨⟨some 27, (some (21, true)), .prim (.iadrs 8 (.tmp 24) (.tmp 26))⟩, [0, 1, 2, 3, 4, 5, 6, 9, 10, 11], false, 1, 1⟩,
      ⟨⟨some 28, (some (21, true)), .prim (.fadr 0 (.tmp 27))⟩, [0, 1, 2, 3, 4, 5, 6, 9, 10, 11, 12], false, 1, 1⟩,
      ⟨⟨some 29, (some (21, true)), .prim (.load 1 false (.tmp 28))⟩, [0, 1, 2, 3, 4, 5, 6, 9, 10, 11, 12, 13], false, 1, 1⟩,
      ⟨⟨some 30, (some (21, true)), .prim (.bin false .leq (.tmp 23) (.tmp 29))⟩, [0, 1, 2, 3, 4, 5, 6, 7, 8, 9, 10, 11, 12, 13, 14], false, 1, 1⟩,
      ⟨⟨some 31, (some (18, false)), .prim (.pick (.tmp 21) (.tmp 30) (.const (Go.Value.bool Bool.false)))⟩, [0, 1, 2, 3, 4, 5, 6, 7, 8, 9, 10, 11, 12, 13, 14, 15], false, 1, 1⟩,
      ⟨⟨some 32, none, .prim (.pick (.tmp 18) (.const (Go.Value.bool Bool.true)) (.tmp 31))⟩, [0, 1, 2, 3, 4, 5, 6, 7, 8, 9, 10, 11, 12, 13, 14, 15, 16], false, 1, 1⟩])
    (.cond (.tmp 32)
    (.seq (.ops [⟨some 2, none, .prim (.mov (.const (Go.Value.bool Bool.false)))⟩])
    .ret)
    .skip))))
    (.ops [⟨some 33, none, .prim (.bin false .add (.tmp 10) (.const (Go.Value.int Go.IntKind.i64 1)))⟩,
      ⟨some 10, none, .prim (.mov (.tmp 33))⟩])))))))
    (.seq (.ops [⟨some 2, none, .prim (.mov (.const (Go.Value.bool Bool.true)))⟩])
    .ret))))
def o28 : List Tmp := [4]
def r28 : List RV := [.tmp 2]
theorem t28 : Text Tryz.prog 28 o28 c28 r28 34 := ⟨⟨Tryz.f28, _, by kernel_rfl, by kernel_rfl, rfl, by kernel_rfl, by kernel_rfl, rfl⟩, by kernel_rfl⟩

/-- slices.Concat[[]byte,byte] -/
def c29 : ACode :=
  (.seq (.ops [⟨some 2, none, .prim (.mov (.const (Go.Value.slice Option.none 0 0)))⟩])
    (.seq (.ops [⟨some 3, none, .prim (.mov (.const (Go.Value.int Go.IntKind.i64 0)))⟩])
    (.seq (.seq (.ops [⟨some 9, none, .prim (.mov (.tmp 0))⟩,
      ⟨some 10, none, .prim (.lenv (.tmp 9))⟩,
      ⟨some 11, none, .prim (.mov (.const (Go.Value.int Go.IntKind.i64 0)))⟩])
    (.block 0 (.loop [1, 2, 4, 5, 6, 7, 8, 12, 13, 14, 15, 16, 17, 18, 19, 20, 21, 22, 23, 24, 25, 26, 27, 28, 29, 30, 31, 32, 33, 34, 35] (.seq (.ops [⟨some 12, none, .prim (.bin false .lss (.tmp 11) (.tmp 10))⟩])
    (.seq (.cond (.tmp 12)
    .skip
    (.exit 0))
    (.seq (.block 1 (.seq (.ops [⟨some 13, none, .prim (.iadrs 1 (.tmp 9) (.tmp 11))⟩,
      ⟨some 14, none, .prim (.load 1 false (.tmp 13))⟩,
      ⟨some 5, none, .prim (.mov (.tmp 14))⟩])
    (.seq (.ops [⟨some 15, none, .prim (.mov (.tmp 3))⟩,
      ⟨some 16, none, .prim (.mov (.tmp 5))⟩,
      ⟨some 17, none, .prim (.lenv (.tmp 16))⟩,
      ⟨some 18, none, .prim (.bin false .add (.tmp 15) (.tmp 17))⟩,
      ⟨some 3, none, .prim (.mov (.tmp 18))⟩])
    (.seq (.ops [⟨some 19, none, .prim (.mov (.tmp 3))⟩,
      ⟨some 20, none, .prim (.bin false .lss (.tmp 19) (.const (Go.Value.int Go.IntKind.i64 0)))⟩])
    (.cond (.tmp 20)
    (.ops [⟨some 21, none, .prim (.bad)⟩,
      ⟨none, none, .prim (.bad)⟩])
    .skip)))))
    (.ops [⟨some 22, none, .prim (.bin false .add (.tmp 11) (.const (Go.Value.int Go.IntKind.i64 1)))⟩,
      ⟨some 11, none, .prim (.mov (.tmp 22))⟩])))))))
    (.seq (.ops [⟨some 23, none, .prim (.mov (.tmp 3))⟩,
      ⟨some 24, none, .call (.func 43) [(.const (Go.Value.slice Option.none 0 0)), (.tmp 23)]⟩,
      ⟨some 6, none, .prim (.mov (.tmp 24))⟩])
    (.seq (.seq (.ops [⟨some 25, none, .prim (.mov (.tmp 0))⟩,
      ⟨some 26, none, .prim (.lenv (.tmp 25))⟩,
      ⟨some 27, none, .prim (.mov (.const (Go.Value.int Go.IntKind.i64 0)))⟩])
    (.block 2 (.loop [0, 1, 2, 3, 4, 5, 7, 8, 9, 10, 11, 12, 13, 14, 15, 16, 17, 18, 19, 20, 21, 22, 23, 24, 28, 29, 30, 31, 32, 33, 34, 35] (.seq (.ops [⟨some 28, none, .prim (.bin false .lss (.tmp 27) (.tmp 26))⟩])
    (.seq (.cond (.tmp 28)
    .skip
    (.exit 2))
    (.seq (.block 3 (.seq (.ops [⟨some 29, none, .prim (.iadrs 1 (.tmp 25) (.tmp 27))⟩,
      ⟨some 30, none, .prim (.load 1 false (.tmp 29))⟩,
      ⟨some 8, none, .prim (.mov (.tmp 30))⟩])
    (.ops [⟨some 31, none, .prim (.mov (.tmp 6))⟩,
      ⟨some 32, none, .prim (.mov (.tmp 8))⟩,
      ⟨some 33, none, .prim (.app 1 (.tmp 31) (.tmp 32))⟩,
      ⟨some 6, none, .prim (.mov (.tmp 33))⟩])))
    (.ops [⟨some 34, none, .prim (.bin false .add (.tmp 27) (.const (Go.Value.int Go.IntKind.i64 1)))⟩,
      ⟨some 27, none, .prim (.mov (.tmp 34))⟩])))))))
    (.seq (.ops [⟨some 35, none, .prim (.mov (.tmp 6))⟩,
      ⟨some 2, none, .prim (.mov (.tmp 35))⟩])
    .ret))))))
def o29 : List Tmp := []
def r29 : List RV := [.tmp 2]
theorem t29 : Text Tryz.prog 29 o29 c29 r29 36 := ⟨⟨Tryz.f29, _, by kernel_rfl, by kernel_rfl, rfl, by kernel_rfl, by kernel_rfl, rfl⟩, by kernel_rfl⟩

/-- sordine/match.Bytes -/
def c30 : ACode :=
  (.seq (.ops [⟨some 2, none, .prim (.mov (.const (Go.Value.slice Option.none 0 0)))⟩])
    (.seq (.seq (.ops [⟨some 6, none, .prim (.mov (.tmp 0))⟩,
      ⟨some 7, none, .call (.func 44) [(.tmp 6)]⟩,
      ⟨some 8, none, .prim (.un .not (.tmp 7))⟩])
    (.cond (.tmp 8)
    (.seq (.ops [⟨some 2, none, .prim (.mov (.const (Go.Value.slice Option.none 0 0)))⟩])
    (.ghost (.shut 2) .ret))
    .skip))
    (.seq (.ops [⟨some 9, none, .prim (.mov (.tmp 0))⟩,
      ⟨some 10, none, .prim (.lenv (.tmp 9))⟩,
      ⟨some 11, none, .prim (.convi .u64 (.tmp 10))⟩,
      ⟨some 12, none, .call (.func 13) [(.tmp 11)]⟩,
      ⟨some 3, none, .prim (.mov (.tmp 12))⟩])
    (.seq (.seq (.ops [⟨some 13, none, .prim (.mov (.tmp 0))⟩,
      ⟨some 14, none, .prim (.lenv (.tmp 13))⟩,
      ⟨some 15, none, .prim (.mov (.const (Go.Value.int Go.IntKind.i64 0)))⟩])
    (.block 0 (.loop [0, 1, 2, 4, 5, 6, 7, 8, 9, 10, 11, 12, 16, 17, 18, 19, 20, 21, 22, 23, 24, 25, 26, 27, 28, 29, 30, 31, 32, 33, 34, 35, 36] (.seq (.ops [⟨some 16, none, .prim (.bin false .lss (.tmp 15) (.tmp 14))⟩])
    (.seq (.cond (.tmp 16)
    .skip
    (.exit 0))
    (.seq (.block 1 (.seq (.ops [⟨some 17, none, .prim (.iadrs 3 (.tmp 13) (.tmp 15))⟩,
      ⟨some 18, none, .prim (.load 3 true (.tmp 17))⟩,
      ⟨some 5, none, .fresh 3 5 (.tmp 18)⟩])
    (.seq (.ops [⟨some 19, none, .prim (.mov (.tmp 3))⟩,
      ⟨some 20, none, .prim (.fadr 0 (.tmp 5))⟩,
      ⟨some 21, none, .prim (.load 1 false (.tmp 20))⟩,
      ⟨some 22, none, .prim (.convi .u8 (.tmp 21))⟩,
      ⟨some 23, none, .prim (.bsl false 1 false 1 [.pl (.int .u8 0)] [(0, 1, (.tmp 22))])⟩,
      ⟨some 24, none, .prim (.app 1 (.tmp 19) (.tmp 23))⟩,
      ⟨some 3, none, .prim (.mov (.tmp 24))⟩])
    (.seq (.ops [⟨some 25, none, .prim (.mov (.tmp 3))⟩,
      ⟨some 26, none, .prim (.fadr 1 (.tmp 5))⟩,
      ⟨some 27, none, .prim (.load 1 false (.tmp 26))⟩,
      ⟨some 28, none, .call (.func 16) [(.tmp 27)]⟩,
      ⟨some 29, none, .prim (.app 1 (.tmp 25) (.tmp 28))⟩,
      ⟨some 3, none, .prim (.mov (.tmp 29))⟩])
    (.ops [⟨some 30, none, .prim (.mov (.tmp 3))⟩,
      ⟨some 31, none, .prim (.fadr 2 (.tmp 5))⟩,
      ⟨some 32, none, .prim (.load 1 false (.tmp 31))⟩,
      ⟨some 33, none, .call (.func 16) [(.tmp 32)]⟩,
      ⟨some 34, none, .prim (.app 1 (.tmp 30) (.tmp 33))⟩,
      ⟨some 3, none, .prim (.mov (.tmp 34))⟩])))))
    (.ops [⟨some 35, none, .prim (.bin false .add (.tmp 15) (.const (Go.Value.int Go.IntKind.i64 1)))⟩,
      ⟨some 15, none, .prim (.mov (.tmp 35))⟩])))))))
    (.seq (.ops [⟨some 36, none, .prim (.mov (.tmp 3))⟩,
      ⟨some 2, none, .prim (.mov (.tmp 36))⟩])
    (.ghost (.shut 2) .ret))))))
def o30 : List Tmp := []
def r30 : List RV := [.tmp 2]
theorem t30 : Text Tryz.prog 30 o30 c30 r30 37 := ⟨⟨Tryz.f30, _, by kernel_rfl, by kernel_rfl, rfl, by kernel_rfl, by kernel_rfl, rfl⟩, by kernel_rfl⟩

/-- sordine/rule.PutBand -/
def c31 : ACode :=
  (.seq (.ops [⟨some 1, none, .prim (.boxr (.tmp 0))⟩,
      ⟨some 2, none, .prim (.mov (.const (Go.Value.slice Option.none 0 0)))⟩])
    (.seq (.seq (.ops [⟨some 3, none, .prim (.fadr 0 (.tmp 1))⟩,
      ⟨some 4, none, .prim (.load 1 false (.tmp 3))⟩])
    (.cond (.tmp 4)
    (.seq (.ops [⟨some 5, none, .prim (.bsl false 1 false 1 [.pl (.int .u8 0)] [(0, 1, (.const (Go.Value.int Go.IntKind.u8 1)))])⟩,
      ⟨some 2, none, .prim (.mov (.tmp 5))⟩])
    (.ghost (.shut 2) .ret))
    .skip))
    (.seq (.draw [⟨⟨some 6, none, .prim (.bsl false 1 false 1 [.pl (.int .u8 0)] [(0, 1, (.const (Go.Value.int Go.IntKind.u8 0)))])⟩, [], false, 0, 4⟩,
      ⟨⟨some 7, none, .prim (.fadr 1 (.tmp 1))⟩, [], false, 0, 0⟩,
      ⟨⟨some 8, none, .prim (.load 1 false (.tmp 7))⟩, [1], false, 0, 0⟩,
      ⟨⟨some 9, none, .call (.func 46) [(.tmp 8)]⟩, [1, 2], true, 0, 0⟩,
      ⟨⟨some 10, none, .call (.func 45) [(.tmp 9)]⟩, [1, 2, 3], true, 0, 0⟩,
      ⟨⟨some 11, none, .prim (.fadr 2 (.tmp 1))⟩, [], false, 0, 2⟩,
      ⟨⟨some 12, none, .prim (.load 1 false (.tmp 11))⟩, [5], false, 0, 2⟩,
      ⟨⟨some 13, none, .call (.func 46) [(.tmp 12)]⟩, [1, 2, 3, 4, 5, 6], true, 0, 0⟩,
      ⟨⟨some 14, none, .call (.func 45) [(.tmp 13)]⟩, [1, 2, 3, 4, 5, 6, 7], true, 0, 0⟩,
      ⟨⟨some 15, none, .prim (.bsl false 1 false 3 [.nils] [(0, 1, (.tmp 6)), (1, 1, (.tmp 10)), (2, 1, (.tmp 14))])⟩, [0, 1, 2, 3, 4, 5, 6, 7, 8], false, 4, 4⟩,
      ⟨⟨some 16, none, .call (.func 29) [(.tmp 15)]⟩, [0, 1, 2, 3, 4, 5, 6, 7, 8, 9], true, 0, 0⟩,
      ⟨⟨some 2, none, .prim (.mov (.tmp 16))⟩, [0, 1, 2, 3, 4, 5, 6, 7, 8, 9, 10], false, 5, 5⟩])
    (.ghost (.shut 2) .ret))))
def o31 : List Tmp := []
def r31 : List RV := [.tmp 2]
theorem t31 : Text Tryz.prog 31 o31 c31 r31 17 := ⟨⟨Tryz.f31, _, by kernel_rfl, by kernel_rfl, rfl, by kernel_rfl, by kernel_rfl, rfl⟩, by kernel_rfl⟩

/-- sordine/vint.Get -/
def c32 : ACode :=
  (.seq (.ops [⟨some 2, none, .prim (.mov (.const (Go.Value.int Go.IntKind.u64 0)))⟩,
      ⟨some 3, none, .prim (.mov (.const (Go.Value.int Go.IntKind.i64 0)))⟩,
      ⟨some 4, none, .prim (.mov (.const (Go.Value.bool Bool.false)))⟩])
    (.seq (.ops [⟨some 5, none, .prim (.mov (.const (Go.Value.int Go.IntKind.u64 0)))⟩])
    (.seq (.seq (.ops [⟨some 8, none, .prim (.mov (.tmp 0))⟩,
      ⟨some 9, none, .prim (.lenv (.tmp 8))⟩,
      ⟨some 10, none, .prim (.mov (.const (Go.Value.int Go.IntKind.i64 0)))⟩])
    (.block 0 (.loop [0, 1, 2, 3, 4, 6, 7, 11, 12, 13, 14, 15, 16, 17, 18, 19, 20, 21, 22, 23, 24, 25, 26, 27, 28, 29, 30, 31, 32, 33, 34, 35, 36, 37, 38, 39, 40, 41, 42] (.seq (.ops [⟨some 11, none, .prim (.bin false .lss (.tmp 10) (.tmp 9))⟩])
    (.seq (.cond (.tmp 11)
    .skip
    (.exit 0))
    (.seq (.block 1 (.seq (.ops [⟨some 12, none, .prim (.mov (.tmp 10))⟩,
      ⟨some 13, none, .prim (.iadrs 1 (.tmp 8) (.tmp 10))⟩,
      ⟨some 14, none, .prim (.load 1 false (.tmp 13))⟩,
      ⟨some 6, none, .prim (.mov (.tmp 12))⟩,
      ⟨some 7, none, .prim (.mov (.tmp 14))⟩])
    (.seq (.seq (.ops [⟨some 15, none, .prim (.mov (.tmp 6))⟩,
      ⟨some 16, none, .prim (.bin false .eql (.tmp 15) (.const (Go.Value.int Go.IntKind.i64 9)))⟩,
      ⟨some 17, none, .prim (.mov (.tmp 16))⟩,
      ⟨some 18, (some (17, true)), .prim (.mov (.tmp 7))⟩,
      ⟨some 19, (some (17, true)), .prim (.bin false .gtr (.tmp 18) (.const (Go.Value.int Go.IntKind.u8 1)))⟩,
      ⟨some 20, none, .prim (.pick (.tmp 17) (.tmp 19) (.const (Go.Value.bool Bool.false)))⟩,
      ⟨some 21, none, .prim (.mov (.tmp 20))⟩,
      ⟨some 22, (some (21, false)), .prim (.mov (.tmp 6))⟩,
      ⟨some 23, (some (21, false)), .prim (.bin false .gtr (.tmp 22) (.const (Go.Value.int Go.IntKind.i64 0)))⟩,
      ⟨some 24, (some (21, false)), .prim (.mov (.tmp 23))⟩,
      ⟨some 25, (some (24, true)), .prim (.mov (.tmp 7))⟩,
      ⟨some 26, (some (24, true)), .prim (.bin false .eql (.tmp 25) (.const (Go.Value.int Go.IntKind.u8 0)))⟩,
      ⟨some 27, (some (21, false)), .prim (.pick (.tmp 24) (.tmp 26) (.const (Go.Value.bool Bool.false)))⟩,
      ⟨some 28, none, .prim (.pick (.tmp 21) (.const (Go.Value.bool Bool.true)) (.tmp 27))⟩])
    (.cond (.tmp 28)
    (.exit 0)
    .skip))
    (.seq (.ops [⟨some 29, none, .prim (.mov (.tmp 5))⟩,
      ⟨some 30, none, .prim (.mov (.tmp 7))⟩,
      ⟨some 31, none, .prim (.bin false .and (.tmp 30) (.const (Go.Value.int Go.IntKind.u8 127)))⟩,
      ⟨some 32, none, .prim (.convi .u64 (.tmp 31))⟩,
      ⟨some 33, none, .prim (.mov (.tmp 6))⟩,
      ⟨some 34, none, .prim (.bin false .mul (.const (Go.Value.int Go.IntKind.i64 7)) (.tmp 33))⟩,
      ⟨some 35, none, .prim (.bin false .shl (.tmp 32) (.tmp 34))⟩,
      ⟨some 36, none, .prim (.bin false .or (.tmp 29) (.tmp 35))⟩,
      ⟨some 5, none, .prim (.mov (.tmp 36))⟩])
    (.seq (.ops [⟨some 37, none, .prim (.mov (.tmp 7))⟩,
      ⟨some 38, none, .prim (.bin false .lss (.tmp 37) (.const (Go.Value.int Go.IntKind.u8 128)))⟩])
    (.cond (.tmp 38)
    (.seq (.ops [⟨some 39, none, .prim (.mov (.tmp 5))⟩,
      ⟨some 40, none, .prim (.mov (.tmp 6))⟩,
      ⟨some 41, none, .prim (.bin false .add (.tmp 40) (.const (Go.Value.int Go.IntKind.i64 1)))⟩,
      ⟨some 2, none, .prim (.mov (.tmp 39))⟩,
      ⟨some 3, none, .prim (.mov (.tmp 41))⟩,
      ⟨some 4, none, .prim (.mov (.const (Go.Value.bool Bool.true)))⟩])
    .ret)
    .skip))))))
    (.ops [⟨some 42, none, .prim (.bin false .add (.tmp 10) (.const (Go.Value.int Go.IntKind.i64 1)))⟩,
      ⟨some 10, none, .prim (.mov (.tmp 42))⟩])))))))
    (.seq (.ops [⟨some 2, none, .prim (.mov (.const (Go.Value.int Go.IntKind.u64 0)))⟩,
      ⟨some 3, none, .prim (.mov (.const (Go.Value.int Go.IntKind.i64 0)))⟩,
      ⟨some 4, none, .prim (.mov (.const (Go.Value.bool Bool.false)))⟩])
    .ret))))
def o32 : List Tmp := []
def r32 : List RV := [.tmp 2, .tmp 3, .tmp 4]
theorem t32 : Text Tryz.prog 32 o32 c32 r32 43 := ⟨⟨Tryz.f32, _, by kernel_rfl, by kernel_rfl, rfl, by kernel_rfl, by kernel_rfl, rfl⟩, by kernel_rfl⟩

/-- sordine/peel.Of[[]sordine/api.Matcher] -/
def c33 : ACode :=
  (.seq (.ops [⟨some 4, none, .prim (.mov (.const (Go.Value.slice Option.none 0 0)))⟩])
    (.seq (.ops [⟨some 10, none, .prim (.mov (.tmp 1))⟩,
      ⟨some 11, none, .prim (.mov (.tmp 0))⟩,
      ⟨some 12, none, .call (.func 17) [(.tmp 11)]⟩,
      ⟨some 13, none, .call (.tmp 10) [(.tmp 12)]⟩,
      ⟨some 9, none, .prim (.mov (.tmp 13))⟩,
      ⟨some 14, none, .prim (.extr 0 (.tmp 9))⟩,
      ⟨some 15, none, .prim (.extr 1 (.tmp 9))⟩,
      ⟨some 16, none, .prim (.extr 2 (.tmp 9))⟩,
      ⟨some 5, none, .prim (.mov (.tmp 14))⟩,
      ⟨some 6, none, .prim (.mov (.tmp 15))⟩,
      ⟨some 7, none, .prim (.mov (.tmp 16))⟩])
    (.seq (.seq (.ops [⟨some 17, none, .prim (.mov (.tmp 0))⟩,
      ⟨some 18, none, .prim (.mov (.tmp 6))⟩,
      ⟨some 19, none, .prim (.mov (.tmp 7))⟩,
      ⟨some 20, none, .call (.func 18) [(.tmp 17), (.tmp 18), (.tmp 19)]⟩,
      ⟨some 21, none, .prim (.un .not (.tmp 20))⟩])
    (.cond (.tmp 21)
    (.seq (.ops [⟨some 8, none, .prim (.mov (.const (Go.Value.slice Option.none 0 0)))⟩])
    (.seq (.ops [⟨some 22, none, .prim (.mov (.tmp 8))⟩,
      ⟨some 4, none, .prim (.mov (.tmp 22))⟩])
    .ret))
    .skip))
    (.seq (.ops [⟨some 23, none, .prim (.mov (.tmp 5))⟩,
      ⟨some 4, none, .prim (.mov (.tmp 23))⟩])
    .ret))))
def o33 : List Tmp := []
def r33 : List RV := [.tmp 4]
theorem t33 : Text Tryz.prog 33 o33 c33 r33 24 := ⟨⟨Tryz.f33, _, by kernel_rfl, by kernel_rfl, rfl, by kernel_rfl, by kernel_rfl, rfl⟩, by kernel_rfl⟩

/-- sordine/match.Read -/
def c34 : ACode :=
  (.seq (.ops [⟨some 2, none, .prim (.mov (.const (Go.Value.slice Option.none 0 0)))⟩,
      ⟨some 3, none, .prim (.mov (.const (Go.Value.int Go.IntKind.i64 0)))⟩,
      ⟨some 4, none, .prim (.mov (.const (Go.Value.bool Bool.false)))⟩])
    (.seq (.ops [⟨some 9, none, .prim (.mov (.tmp 0))⟩,
      ⟨some 10, none, .call (.func 6) [(.tmp 9)]⟩,
      ⟨some 5, none, .prim (.mov (.tmp 10))⟩])
    (.seq (.ops [⟨some 6, none, .prim (.mov (.const (Go.Value.slice Option.none 0 0)))⟩])
    (.seq (.seq (.ops [⟨some 11, none, .prim (.mov (.tmp 5))⟩,
      ⟨some 12, none, .call (.func 20) [(.tmp 11), (.const (Go.Value.int Go.IntKind.u64 5))]⟩,
      ⟨some 13, none, .prim (.mov (.const (Go.Value.int Go.IntKind.u64 0)))⟩])
    (.block 0 (.loop [0, 1, 2, 3, 4, 7, 8, 9, 10, 11, 14, 15, 16, 17, 18, 19, 20, 21, 22, 23, 24, 25, 26, 27, 28, 29, 30, 31, 32, 33, 34, 35, 36, 37, 38, 39] (.seq (.ops [⟨some 14, none, .prim (.bin false .lss (.tmp 13) (.tmp 12))⟩])
    (.seq (.cond (.tmp 14)
    .skip
    (.exit 0))
    (.seq (.block 1 (.ops [⟨some 15, none, .prim (.mov (.tmp 6))⟩,
      ⟨some 16, none, .prim (.mov (.tmp 5))⟩,
      ⟨some 17, none, .call (.func 7) [(.tmp 16)]⟩,
      ⟨some 18, none, .prim (.convi .i64 (.tmp 17))⟩,
      ⟨some 19, none, .prim (.mov (.tmp 5))⟩,
      ⟨some 20, none, .call (.func 23) [(.tmp 19), (.const (Go.Value.int Go.IntKind.i64 12))]⟩,
      ⟨some 21, none, .prim (.mov (.tmp 5))⟩,
      ⟨some 22, none, .call (.func 23) [(.tmp 21), (.const (Go.Value.int Go.IntKind.i64 40))]⟩,
      ⟨some 23, none, .prim (.build [.pl (.int .i64 0), .pl (.string .empty), .pl (.string .empty)] [(0, 1, (.tmp 18)), (1, 1, (.tmp 20)), (2, 1, (.tmp 22))])⟩,
      ⟨some 24, none, .prim (.bsl false 3 true 1 [.pl (.int .i64 0), .pl (.string .empty), .pl (.string .empty)] [(0, 3, (.tmp 23))])⟩,
      ⟨some 25, none, .prim (.app 3 (.tmp 15) (.tmp 24))⟩,
      ⟨some 6, none, .prim (.mov (.tmp 25))⟩]))
    (.ops [⟨some 26, none, .prim (.bin false .add (.tmp 13) (.const (Go.Value.int Go.IntKind.u64 1)))⟩,
      ⟨some 13, none, .prim (.mov (.tmp 26))⟩])))))))
    (.seq (.ops [⟨some 27, none, .prim (.mov (.tmp 5))⟩,
      ⟨some 28, none, .prim (.mov (.tmp 6))⟩,
      ⟨some 29, none, .call (.func 44) [(.tmp 28)]⟩,
      ⟨some 30, none, .call (.func 19) [(.tmp 27), (.tmp 29)]⟩])
    (.seq (.ops [⟨some 32, none, .prim (.mov (.tmp 5))⟩,
      ⟨some 33, none, .call (.func 9) [(.tmp 32)]⟩,
      ⟨some 31, none, .prim (.mov (.tmp 33))⟩,
      ⟨some 34, none, .prim (.extr 0 (.tmp 31))⟩,
      ⟨some 35, none, .prim (.extr 1 (.tmp 31))⟩,
      ⟨some 7, none, .prim (.mov (.tmp 34))⟩,
      ⟨some 8, none, .prim (.mov (.tmp 35))⟩])
    (.seq (.seq (.ops [⟨some 36, none, .prim (.mov (.tmp 8))⟩,
      ⟨some 37, none, .prim (.un .not (.tmp 36))⟩])
    (.cond (.tmp 37)
    (.seq (.ops [⟨some 2, none, .prim (.mov (.const (Go.Value.slice Option.none 0 0)))⟩,
      ⟨some 3, none, .prim (.mov (.const (Go.Value.int Go.IntKind.i64 0)))⟩,
      ⟨some 4, none, .prim (.mov (.const (Go.Value.bool Bool.false)))⟩])
    (.ghost (.shut 2) .ret))
    .skip))
    (.seq (.ops [⟨some 38, none, .prim (.mov (.tmp 6))⟩,
      ⟨some 39, none, .prim (.mov (.tmp 7))⟩,
      ⟨some 2, none, .prim (.mov (.tmp 38))⟩,
      ⟨some 3, none, .prim (.mov (.tmp 39))⟩,
      ⟨some 4, none, .prim (.mov (.const (Go.Value.bool Bool.true)))⟩])
    (.ghost (.shut 2) .ret)))))))))
def o34 : List Tmp := []
def r34 : List RV := [.tmp 2, .tmp 3, .tmp 4]
theorem t34 : Text Tryz.prog 34 o34 c34 r34 40 := ⟨⟨Tryz.f34, _, by kernel_rfl, by kernel_rfl, rfl, by kernel_rfl, by kernel_rfl, rfl⟩, by kernel_rfl⟩

/-- sordine/peel.Of[sordine/api.Band] -/
def c35 : ACode :=
  (.seq (.ops [⟨some 4, none, .prim (.allocm [.pl (.bool false), .pl (.float .f64 0), .pl (.float .f64 0)])⟩])
    (.seq (.ops [⟨some 10, none, .prim (.mov (.tmp 1))⟩,
      ⟨some 11, none, .prim (.mov (.tmp 0))⟩,
      ⟨some 12, none, .call (.func 17) [(.tmp 11)]⟩,
      ⟨some 13, none, .call (.tmp 10) [(.tmp 12)]⟩,
      ⟨some 9, none, .prim (.mov (.tmp 13))⟩,
      ⟨some 14, none, .prim (.extr 0 (.tmp 9))⟩,
      ⟨some 15, none, .prim (.extr 1 (.tmp 9))⟩,
      ⟨some 16, none, .prim (.extr 2 (.tmp 9))⟩,
      ⟨some 5, none, .fresh 3 5 (.tmp 14)⟩,
      ⟨some 6, none, .prim (.mov (.tmp 15))⟩,
      ⟨some 7, none, .prim (.mov (.tmp 16))⟩])
    (.seq (.seq (.ops [⟨some 17, none, .prim (.mov (.tmp 0))⟩,
      ⟨some 18, none, .prim (.mov (.tmp 6))⟩,
      ⟨some 19, none, .prim (.mov (.tmp 7))⟩,
      ⟨some 20, none, .call (.func 18) [(.tmp 17), (.tmp 18), (.tmp 19)]⟩,
      ⟨some 21, none, .prim (.un .not (.tmp 20))⟩])
    (.cond (.tmp 21)
    (.seq (.ops [⟨some 8, none, .prim (.allocm [.pl (.bool false), .pl (.float .f64 0), .pl (.float .f64 0)])⟩])
    (.seq (.ops [⟨some 22, none, .prim (.load 3 true (.tmp 8))⟩,
      ⟨none, none, .prim (.store 3 (.tmp 4) (.tmp 22))⟩])
    .ret))
    .skip))
    (.seq (.ops [⟨some 23, none, .prim (.load 3 true (.tmp 5))⟩,
      ⟨none, none, .prim (.store 3 (.tmp 4) (.tmp 23))⟩])
    .ret))))
def o35 : List Tmp := [4]
def r35 : List RV := [.cell 4 3 true]
theorem t35 : Text Tryz.prog 35 o35 c35 r35 24 := ⟨⟨Tryz.f35, _, by kernel_rfl, by kernel_rfl, rfl, by kernel_rfl, by kernel_rfl, rfl⟩, by kernel_rfl⟩

/-- sordine/rule.ReadBand -/
def c36 : ACode :=
  (.seq (.ops [⟨some 2, none, .prim (.allocm [.pl (.bool false), .pl (.float .f64 0), .pl (.float .f64 0)])⟩,
      ⟨some 3, none, .prim (.mov (.const (Go.Value.int Go.IntKind.i64 0)))⟩,
      ⟨some 4, none, .prim (.mov (.const (Go.Value.bool Bool.false)))⟩])
    (.seq (.ops [⟨some 9, none, .prim (.mov (.tmp 0))⟩,
      ⟨some 10, none, .call (.func 6) [(.tmp 9)]⟩,
      ⟨some 5, none, .prim (.mov (.tmp 10))⟩])
    (.seq (.ops [⟨some 6, none, .prim (.allocm [.pl (.bool false), .pl (.float .f64 0), .pl (.float .f64 0)])⟩])
    (.seq (.seq (.ops [⟨some 11, none, .prim (.mov (.tmp 5))⟩,
      ⟨some 12, none, .call (.func 7) [(.tmp 11)]⟩])
    (.block 0 (.seq (.ops [⟨some 16, none, .prim (.bin false .eql (.tmp 12) (.const (Go.Value.int Go.IntKind.u8 0)))⟩,
      ⟨some 15, none, .prim (.mov (.tmp 16))⟩])
    (.cond (.tmp 15)
    (.ops [⟨some 17, none, .prim (.mov (.tmp 5))⟩,
      ⟨some 18, none, .call (.func 47) [(.tmp 17)]⟩,
      ⟨some 19, none, .prim (.mov (.tmp 5))⟩,
      ⟨some 20, none, .call (.func 47) [(.tmp 19)]⟩,
      ⟨some 21, none, .prim (.fadr 1 (.tmp 6))⟩,
      ⟨none, none, .prim (.store 1 (.tmp 21) (.tmp 18))⟩,
      ⟨some 22, none, .prim (.fadr 2 (.tmp 6))⟩,
      ⟨none, none, .prim (.store 1 (.tmp 22) (.tmp 20))⟩])
    (.seq (.ops [⟨some 24, none, .prim (.bin false .eql (.tmp 12) (.const (Go.Value.int Go.IntKind.u8 1)))⟩,
      ⟨some 23, none, .prim (.mov (.tmp 24))⟩])
    (.cond (.tmp 23)
    (.ops [⟨some 25, none, .prim (.fadr 0 (.tmp 6))⟩,
      ⟨none, none, .prim (.store 1 (.tmp 25) (.const (Go.Value.bool Bool.true)))⟩])
    (.ops [⟨some 13, none, .prim (.mov (.tmp 5))⟩,
      ⟨some 14, none, .call (.func 19) [(.tmp 13), (.const (Go.Value.bool Bool.false))]⟩])))))))
    (.seq (.ops [⟨some 26, none, .prim (.mov (.tmp 5))⟩,
      ⟨some 27, none, .prim (.load 3 true (.tmp 6))⟩,
      ⟨some 28, none, .call (.func 48) [(.tmp 27)]⟩,
      ⟨some 29, none, .call (.func 19) [(.tmp 26), (.tmp 28)]⟩])
    (.seq (.ops [⟨some 31, none, .prim (.mov (.tmp 5))⟩,
      ⟨some 32, none, .call (.func 9) [(.tmp 31)]⟩,
      ⟨some 30, none, .prim (.mov (.tmp 32))⟩,
      ⟨some 33, none, .prim (.extr 0 (.tmp 30))⟩,
      ⟨some 34, none, .prim (.extr 1 (.tmp 30))⟩,
      ⟨some 7, none, .prim (.mov (.tmp 33))⟩,
      ⟨some 8, none, .prim (.mov (.tmp 34))⟩])
    (.seq (.seq (.ops [⟨some 35, none, .prim (.mov (.tmp 8))⟩,
      ⟨some 36, none, .prim (.un .not (.tmp 35))⟩])
    (.cond (.tmp 36)
    (.seq (.ops [⟨some 37, none, .prim (.build [.pl (.bool false), .pl (.float .f64 0), .pl (.float .f64 0)] [])⟩,
      ⟨none, none, .prim (.store 3 (.tmp 2) (.tmp 37))⟩,
      ⟨some 3, none, .prim (.mov (.const (Go.Value.int Go.IntKind.i64 0)))⟩,
      ⟨some 4, none, .prim (.mov (.const (Go.Value.bool Bool.false)))⟩])
    .ret)
    .skip))
    (.seq (.ops [⟨some 38, none, .prim (.load 3 true (.tmp 6))⟩,
      ⟨some 39, none, .prim (.mov (.tmp 7))⟩,
      ⟨none, none, .prim (.store 3 (.tmp 2) (.tmp 38))⟩,
      ⟨some 3, none, .prim (.mov (.tmp 39))⟩,
      ⟨some 4, none, .prim (.mov (.const (Go.Value.bool Bool.true)))⟩])
    .ret))))))))
def o36 : List Tmp := [2, 6]
def r36 : List RV := [.cell 2 3 true, .tmp 3, .tmp 4]
theorem t36 : Text Tryz.prog 36 o36 c36 r36 40 := ⟨⟨Tryz.f36, _, by kernel_rfl, by kernel_rfl, rfl, by kernel_rfl, by kernel_rfl, rfl⟩, by kernel_rfl⟩

/-- sordine/vint.GetText -/
def c37 : ACode :=
  (.seq (.ops [⟨some 4, none, .prim (.mov (.const (Go.Value.string (ByteArray.mk #[]))))⟩,
      ⟨some 5, none, .prim (.mov (.const (Go.Value.int Go.IntKind.i64 0)))⟩,
      ⟨some 6, none, .prim (.mov (.const (Go.Value.bool Bool.false)))⟩])
    (.seq (.ops [⟨some 12, none, .prim (.mov (.tmp 0))⟩,
      ⟨some 13, none, .call (.func 32) [(.tmp 12)]⟩,
      ⟨some 11, none, .prim (.mov (.tmp 13))⟩,
      ⟨some 14, none, .prim (.extr 0 (.tmp 11))⟩,
      ⟨some 15, none, .prim (.extr 1 (.tmp 11))⟩,
      ⟨some 16, none, .prim (.extr 2 (.tmp 11))⟩,
      ⟨some 7, none, .prim (.mov (.tmp 14))⟩,
      ⟨some 8, none, .prim (.mov (.tmp 15))⟩,
      ⟨some 9, none, .prim (.mov (.tmp 16))⟩])
    (.seq (.seq (.ops [⟨some 17, none, .prim (.mov (.tmp 9))⟩,
      ⟨some 18, none, .prim (.un .not (.tmp 17))⟩,
      ⟨some 19, none, .prim (.mov (.tmp 18))⟩,
      ⟨some 20, (some (19, false)), .prim (.mov (.tmp 1))⟩,
      ⟨some 21, (some (19, false)), .prim (.bin false .lss (.tmp 20) (.const (Go.Value.int Go.IntKind.i64 0)))⟩,
      ⟨some 22, none, .prim (.pick (.tmp 19) (.const (Go.Value.bool Bool.true)) (.tmp 21))⟩,
      ⟨some 23, none, .prim (.mov (.tmp 22))⟩,
      ⟨some 24, (some (23, false)), .prim (.mov (.tmp 7))⟩,
      ⟨some 25, (some (23, false)), .prim (.mov (.tmp 1))⟩,
      ⟨some 26, (some (23, false)), .prim (.convi .u64 (.tmp 25))⟩,
      ⟨some 27, (some (23, false)), .prim (.bin false .gtr (.tmp 24) (.tmp 26))⟩,
      ⟨some 28, none, .prim (.pick (.tmp 23) (.const (Go.Value.bool Bool.true)) (.tmp 27))⟩,
      ⟨some 29, none, .prim (.mov (.tmp 28))⟩,
      ⟨some 30, (some (29, false)), .prim (.mov (.tmp 7))⟩,
      ⟨some 31, (some (29, false)), .prim (.mov (.tmp 0))⟩,
      ⟨some 32, (some (29, false)), .prim (.lenv (.tmp 31))⟩,
      ⟨some 33, (some (29, false)), .prim (.mov (.tmp 8))⟩,
      ⟨some 34, (some (29, false)), .prim (.bin false .sub (.tmp 32) (.tmp 33))⟩,
      ⟨some 35, (some (29, false)), .prim (.convi .u64 (.tmp 34))⟩,
      ⟨some 36, (some (29, false)), .prim (.bin false .gtr (.tmp 30) (.tmp 35))⟩,
      ⟨some 37, none, .prim (.pick (.tmp 29) (.const (Go.Value.bool Bool.true)) (.tmp 36))⟩])
    (.cond (.tmp 37)
    (.seq (.ops [⟨some 4, none, .prim (.mov (.const (Go.Value.string (ByteArray.mk #[]))))⟩,
      ⟨some 5, none, .prim (.mov (.const (Go.Value.int Go.IntKind.i64 0)))⟩,
      ⟨some 6, none, .prim (.mov (.const (Go.Value.bool Bool.false)))⟩])
    .ret)
    .skip))
    (.seq (.ops [⟨some 38, none, .prim (.mov (.tmp 8))⟩,
      ⟨some 39, none, .prim (.mov (.tmp 7))⟩,
      ⟨some 40, none, .prim (.convi .i64 (.tmp 39))⟩,
      ⟨some 41, none, .prim (.bin false .add (.tmp 38) (.tmp 40))⟩,
      ⟨some 10, none, .prim (.mov (.tmp 41))⟩])
    (.seq (.ops [⟨some 42, none, .prim (.mov (.tmp 0))⟩,
      ⟨some 43, none, .prim (.mov (.tmp 8))⟩,
      ⟨some 44, none, .prim (.mov (.tmp 10))⟩,
      ⟨some 45, none, .prim (.slcv 1 (.tmp 42) (some (.tmp 43)) (some (.tmp 44)))⟩,
      ⟨some 46, none, .prim (.b2s (.tmp 45))⟩,
      ⟨some 47, none, .prim (.mov (.tmp 10))⟩,
      ⟨some 4, none, .prim (.mov (.tmp 46))⟩,
      ⟨some 5, none, .prim (.mov (.tmp 47))⟩,
      ⟨some 6, none, .prim (.mov (.const (Go.Value.bool Bool.true)))⟩])
    .ret)))))
def o37 : List Tmp := []
def r37 : List RV := [.tmp 4, .tmp 5, .tmp 6]
theorem t37 : Text Tryz.prog 37 o37 c37 r37 48 := ⟨⟨Tryz.f37, _, by kernel_rfl, by kernel_rfl, rfl, by kernel_rfl, by kernel_rfl, rfl⟩, by kernel_rfl⟩

/-- slices.ContainsFunc[[]int,int] -/
def c38 : ACode :=
  (.seq (.ops [⟨some 4, none, .prim (.mov (.const (Go.Value.bool Bool.false)))⟩])
    (.seq (.ops [⟨some 5, none, .prim (.mov (.tmp 0))⟩,
      ⟨some 6, none, .prim (.mov (.tmp 1))⟩,
      ⟨some 7, none, .call (.func 49) [(.tmp 5), (.tmp 6)]⟩,
      ⟨some 8, none, .prim (.bin false .geq (.tmp 7) (.const (Go.Value.int Go.IntKind.i64 0)))⟩,
      ⟨some 4, none, .prim (.mov (.tmp 8))⟩])
    .ret))
def o38 : List Tmp := []
def r38 : List RV := [.tmp 4]
theorem t38 : Text Tryz.prog 38 o38 c38 r38 9 := ⟨⟨Tryz.f38, _, by kernel_rfl, by kernel_rfl, rfl, by kernel_rfl, by kernel_rfl, rfl⟩, by kernel_rfl⟩

/-- sordine/resp.numbers$1 -/
def c39 : ACode :=
  (.seq (.ops [⟨some 2, none, .prim (.mov (.const (Go.Value.bool Bool.false)))⟩])
    (.seq (.ops [⟨some 3, none, .prim (.mov (.tmp 0))⟩,
      ⟨some 4, none, .call (.func 26) [(.tmp 3)]⟩,
      ⟨some 5, none, .prim (.un .not (.tmp 4))⟩,
      ⟨some 2, none, .prim (.mov (.tmp 5))⟩])
    .ret))
def o39 : List Tmp := []
def r39 : List RV := [.tmp 2]
theorem t39 : Text Tryz.prog 39 o39 c39 r39 6 := ⟨⟨Tryz.f39, _, by kernel_rfl, by kernel_rfl, rfl, by kernel_rfl, by kernel_rfl, rfl⟩, by kernel_rfl⟩

/-- sordine/rows.Is -/
def c40 : ACode :=
  (.seq (.ops [⟨some 2, none, .prim (.mov (.const (Go.Value.bool Bool.false)))⟩])
    (.seq (.seq (.ops [⟨some 3, none, .prim (.mov (.const (Go.Value.int Go.IntKind.i64 1)))⟩])
    (.block 0 (.loop [1, 2, 4, 5, 6, 7, 8, 9, 10, 11, 12, 13, 14, 15, 16, 17, 18, 19] (.seq (.seq (.ops [⟨some 4, none, .prim (.mov (.tmp 3))⟩,
      ⟨some 5, none, .prim (.mov (.tmp 0))⟩,
      ⟨some 6, none, .prim (.lenv (.tmp 5))⟩,
      ⟨some 7, none, .prim (.bin false .lss (.tmp 4) (.tmp 6))⟩])
    (.cond (.tmp 7)
    .skip
    (.exit 0)))
    (.seq (.block 1 (.seq (.draw [⟨⟨some 10, none, .prim (.mov (.tmp 0))⟩, [], false, 0, 0⟩,
      ⟨⟨some 11, none, .prim (.mov (.tmp 3))⟩, [], false, 0, 0⟩,
      ⟨⟨some 12, none, .prim (.iadrs 1 (.tmp 10) (.tmp 11))⟩, [0, 1], false, 0, 0⟩,
      ⟨⟨some 13, none, .prim (.load 1 false (.tmp 12))⟩, [0, 1, 2], false, 0, 0⟩,
      ⟨⟨some 14, none, .prim (.mov (.tmp 0))⟩, [], false, 0, 0⟩,
      ⟨⟨some 15, none, .prim (.mov (.tmp 3))⟩, [], false, 0, 0⟩,
      ⟨⟨some 16, none, .prim (.bin false .sub (.tmp 15) (.const (Go.Value.int Go.IntKind.i64 1)))⟩, [5], false, 0, 0⟩,
      ⟨⟨some 17, none, .prim (.iadrs 1 (.tmp 14) (.tmp 16))⟩, [4, 5, 6], false, 0, 0⟩,
      ⟨⟨some 18, none, .prim (.load 1 false (.tmp 17))⟩, [4, 5, 6, 7], false, 0, 0⟩,
      ⟨⟨some 19, none, .prim (.bin false .leq (.tmp 13) (.tmp 18))⟩, [0, 1, 2, 3, 4, 5, 6, 7, 8], false, 0, 0⟩])
    (.cond (.tmp 19)
    (.seq (.ops [⟨some 2, none, .prim (.mov (.const (Go.Value.bool Bool.false)))⟩])
    .ret)
    .skip)))
    (.ops [⟨some 8, none, .prim (.mov (.tmp 3))⟩,
      ⟨some 9, none, .prim (.bin false .add (.tmp 8) (.const (Go.Value.int Go.IntKind.i64 1)))⟩,
      ⟨some 3, none, .prim (.mov (.tmp 9))⟩]))))))
    (.seq (.ops [⟨some 2, none, .prim (.mov (.const (Go.Value.bool Bool.true)))⟩])
    .ret)))
def o40 : List Tmp := []
def r40 : List RV := [.tmp 2]
theorem t40 : Text Tryz.prog 40 o40 c40 r40 20 := ⟨⟨Tryz.f40, _, by kernel_rfl, by kernel_rfl, rfl, by kernel_rfl, by kernel_rfl, rfl⟩, by kernel_rfl⟩

/-- sordine/rows.Make -/
def c41 : ACode :=
  (.seq (.ops [⟨some 2, none, .prim (.mov (.const (Go.Value.slice Option.none 0 0)))⟩])
    (.seq (.ops [⟨some 4, none, .prim (.mov (.tmp 0))⟩,
      ⟨some 5, none, .call (.func 50) [(.tmp 4)]⟩,
      ⟨some 3, none, .prim (.mov (.tmp 5))⟩])
    (.seq (.ops [⟨some 6, none, .prim (.mov (.tmp 3))⟩,
      ⟨some 7, none, .call (.func 51) [(.tmp 6)]⟩])
    (.seq (.ops [⟨some 8, none, .prim (.mov (.tmp 3))⟩,
      ⟨some 9, none, .call (.func 52) [(.tmp 8)]⟩,
      ⟨some 2, none, .prim (.mov (.tmp 9))⟩])
    (.ghost (.shut 2) .ret)))))
def o41 : List Tmp := []
def r41 : List RV := [.tmp 2]
theorem t41 : Text Tryz.prog 41 o41 c41 r41 10 := ⟨⟨Tryz.f41, _, by kernel_rfl, by kernel_rfl, rfl, by kernel_rfl, by kernel_rfl, rfl⟩, by kernel_rfl⟩

/-- sordine/resp.silence -/
def c42 : ACode :=
  (.seq (.ops [⟨some 1, none, .prim (.boxr (.tmp 0))⟩,
      ⟨some 2, none, .prim (.mov (.const (Go.Value.bool Bool.false)))⟩])
    (.seq (.ops [⟨some 3, none, .prim (.fadr 0 (.tmp 1))⟩,
      ⟨some 4, none, .prim (.load 1 false (.tmp 3))⟩,
      ⟨some 5, none, .call (.func 26) [(.tmp 4)]⟩,
      ⟨some 6, none, .prim (.mov (.tmp 5))⟩,
      ⟨some 7, (some (6, true)), .prim (.fadr 1 (.tmp 1))⟩,
      ⟨some 8, (some (6, true)), .prim (.load 1 false (.tmp 7))⟩,
      ⟨some 9, (some (6, true)), .prim (.bin false .geq (.tmp 8) (.const (Go.Value.int Go.IntKind.i64 1)))⟩,
      ⟨some 10, none, .prim (.pick (.tmp 6) (.tmp 9) (.const (Go.Value.bool Bool.false)))⟩,
      ⟨some 11, none, .prim (.mov (.tmp 10))⟩,
      ⟨some 12, (some (11, true)), .prim (.fadr 1 (.tmp 1))⟩,
      ⟨some 13, (some (11, true)), .prim (.load 1 false (.tmp 12))⟩,
      ⟨some 14, (some (11, true)), .prim (.bin false .leq (.tmp 13) (.const (Go.Value.int Go.IntKind.i64 3)))⟩,
      ⟨some 15, none, .prim (.pick (.tmp 11) (.tmp 14) (.const (Go.Value.bool Bool.false)))⟩,
      ⟨some 16, none, .prim (.mov (.tmp 15))⟩,
      ⟨some 17, (some (16, true)), .prim (.fadr 2 (.tmp 1))⟩,
      ⟨some 18, (some (16, true)), .prim (.load 1 false (.tmp 17))⟩,
      ⟨some 19, (some (16, true)), .prim (.fadr 3 (.tmp 1))⟩,
      ⟨some 20, (some (16, true)), .prim (.load 1 false (.tmp 19))⟩,
      ⟨some 21, (some (16, true)), .prim (.bin false .leq (.tmp 18) (.tmp 20))⟩,
      ⟨some 22, none, .prim (.pick (.tmp 16) (.tmp 21) (.const (Go.Value.bool Bool.false)))⟩,
      ⟨some 23, none, .prim (.mov (.tmp 22))⟩,
      ⟨some 24, (some (23, true)), .prim (.fadr 3 (.tmp 1))⟩,
      ⟨some 25, (some (23, true)), .prim (.load 1 false (.tmp 24))⟩,
      ⟨some 26, (some (23, true)), .prim (.bin false .leq (.tmp 25) (.const (Go.Value.int Go.IntKind.u64 1099511627776)))⟩,
      ⟨some 27, none, .prim (.pick (.tmp 23) (.tmp 26) (.const (Go.Value.bool Bool.false)))⟩,
      ⟨some 28, none, .prim (.mov (.tmp 27))⟩,
      ⟨some 29, (some (28, true)), .prim (.fadr 4 (.tmp 1))⟩,
      ⟨some 30, (some (28, true)), .prim (.load 1 false (.tmp 29))⟩,
      ⟨some 31, (some (28, true)), .prim (.lenv (.tmp 30))⟩,
      ⟨some 32, (some (28, true)), .prim (.bin false .gtr (.tmp 31) (.const (Go.Value.int Go.IntKind.i64 0)))⟩,
      ⟨some 33, none, .prim (.pick (.tmp 28) (.tmp 32) (.const (Go.Value.bool Bool.false)))⟩,
      ⟨some 34, none, .prim (.mov (.tmp 33))⟩,
      ⟨some 35, (some (34, true)), .prim (.fadr 4 (.tmp 1))⟩,
      ⟨some 36, (some (34, true)), .prim (.load 1 false (.tmp 35))⟩,
      ⟨some 37, (some (34, true)), .call (.func 44) [(.tmp 36)]⟩,
      ⟨some 38, none, .prim (.pick (.tmp 34) (.tmp 37) (.const (Go.Value.bool Bool.false)))⟩,
      ⟨some 39, none, .prim (.mov (.tmp 38))⟩,
      ⟨some 40, (some (39, true)), .prim (.fadr 5 (.tmp 1))⟩,
      ⟨some 41, (some (39, true)), .prim (.load 3 true (.tmp 40))⟩,
      ⟨some 42, (some (39, true)), .call (.func 48) [(.tmp 41)]⟩,
      ⟨some 43, none, .prim (.pick (.tmp 39) (.tmp 42) (.const (Go.Value.bool Bool.false)))⟩,
      ⟨some 2, none, .prim (.mov (.tmp 43))⟩])
    .ret))
def o42 : List Tmp := []
def r42 : List RV := [.tmp 2]
theorem t42 : Text Tryz.prog 42 o42 c42 r42 44 := ⟨⟨Tryz.f42, _, by kernel_rfl, by kernel_rfl, rfl, by kernel_rfl, by kernel_rfl, rfl⟩, by kernel_rfl⟩

/-- slices.Grow[[]byte,byte] -/
def c43 : ACode :=
  (.seq (.ops [⟨some 4, none, .prim (.mov (.const (Go.Value.slice Option.none 0 0)))⟩])
    (.seq (.seq (.ops [⟨some 5, none, .prim (.mov (.tmp 1))⟩,
      ⟨some 6, none, .prim (.bin false .lss (.tmp 5) (.const (Go.Value.int Go.IntKind.i64 0)))⟩])
    (.cond (.tmp 6)
    (.ops [⟨some 7, none, .prim (.bad)⟩,
      ⟨none, none, .prim (.bad)⟩])
    .skip))
    (.seq (.seq (.ops [⟨some 8, none, .prim (.mov (.tmp 1))⟩,
      ⟨some 9, none, .prim (.mov (.tmp 0))⟩,
      ⟨some 10, none, .prim (.capn (.tmp 9))⟩,
      ⟨some 11, none, .prim (.mov (.tmp 0))⟩,
      ⟨some 12, none, .prim (.lenv (.tmp 11))⟩,
      ⟨some 13, none, .prim (.bin false .sub (.tmp 10) (.tmp 12))⟩,
      ⟨some 14, none, .prim (.bin false .sub (.tmp 8) (.tmp 13))⟩,
      ⟨some 1, none, .prim (.mov (.tmp 14))⟩])
    (.seq (.ops [⟨some 15, none, .prim (.mov (.tmp 1))⟩,
      ⟨some 16, none, .prim (.bin false .gtr (.tmp 15) (.const (Go.Value.int Go.IntKind.i64 0)))⟩])
    (.cond (.tmp 16)
    (.ops [⟨some 17, none, .prim (.mov (.tmp 0))⟩,
      ⟨some 18, none, .prim (.mov (.tmp 0))⟩,
      ⟨some 19, none, .prim (.capn (.tmp 18))⟩,
      ⟨some 20, none, .prim (.slco 1 (.tmp 17) none (some (.tmp 19)))⟩,
      ⟨some 21, none, .prim (.mov (.tmp 1))⟩,
      ⟨some 22, none, .prim (.appz 1 false [.pl (.int .u8 0)] (.tmp 20) (.tmp 21))⟩,
      ⟨some 23, none, .prim (.mov (.tmp 0))⟩,
      ⟨some 24, none, .prim (.lenv (.tmp 23))⟩,
      ⟨some 25, none, .prim (.slco 1 (.tmp 22) none (some (.tmp 24)))⟩,
      ⟨some 0, none, .prim (.mov (.tmp 25))⟩])
    .skip)))
    (.seq (.ops [⟨some 26, none, .prim (.mov (.tmp 0))⟩,
      ⟨some 4, none, .prim (.mov (.tmp 26))⟩])
    .ret))))
def o43 : List Tmp := [20, 25]
def r43 : List RV := [.tmp 4]
theorem t43 : Text Tryz.prog 43 o43 c43 r43 27 := ⟨⟨Tryz.f43, _, by kernel_rfl, by kernel_rfl, rfl, by kernel_rfl, by kernel_rfl, rfl⟩, by kernel_rfl⟩

/-- sordine/match.List -/
def c44 : ACode :=
  (.seq (.ops [⟨some 2, none, .prim (.mov (.const (Go.Value.bool Bool.false)))⟩])
    (.seq (.seq (.ops [⟨some 5, none, .prim (.mov (.tmp 0))⟩,
      ⟨some 6, none, .prim (.lenv (.tmp 5))⟩,
      ⟨some 7, none, .prim (.bin false .gtr (.tmp 6) (.const (Go.Value.int Go.IntKind.i64 5)))⟩])
    (.cond (.tmp 7)
    (.seq (.ops [⟨some 2, none, .prim (.mov (.const (Go.Value.bool Bool.false)))⟩])
    .ret)
    .skip))
    (.seq (.seq (.ops [⟨some 8, none, .prim (.mov (.tmp 0))⟩,
      ⟨some 9, none, .prim (.lenv (.tmp 8))⟩,
      ⟨some 10, none, .prim (.mov (.const (Go.Value.int Go.IntKind.i64 0)))⟩])
    (.block 0 (.loop [1, 2, 3, 4, 5, 6, 7, 11, 12, 13, 14, 15, 16, 17, 18, 19, 20, 21, 22, 23, 24, 25, 26, 27, 28, 29, 30, 31, 32] (.seq (.ops [⟨some 11, none, .prim (.bin false .lss (.tmp 10) (.tmp 9))⟩])
    (.seq (.cond (.tmp 11)
    .skip
    (.exit 0))
    (.seq (.block 1 (.seq (.ops [⟨some 12, none, .prim (.mov (.tmp 10))⟩,
      ⟨some 13, none, .prim (.iadrs 3 (.tmp 8) (.tmp 10))⟩,
      ⟨some 14, none, .prim (.load 3 true (.tmp 13))⟩,
      ⟨some 4, none, .prim (.allocm [.pl (.int .i64 0), .pl (.string .empty), .pl (.string .empty)])⟩,
      ⟨some 3, none, .prim (.mov (.tmp 12))⟩,
      ⟨none, none, .prim (.store 3 (.tmp 4) (.tmp 14))⟩])
    (.seq (.draw [⟨⟨some 15, none, .prim (.load 3 true (.tmp 4))⟩, [], false, 0, 0⟩,
      ⟨⟨some 16, none, .call (.func 53) [(.tmp 15)]⟩, [0], true, 0, 0⟩,
      ⟨⟨some 17, none, .prim (.un .not (.tmp 16))⟩, [0, 1], false, 1, 1⟩,
      ⟨⟨some 18, none, .prim (.mov (.tmp 17))⟩, [0, 1, 2], false, 1, 1⟩,
      ⟨⟨some 19, (some (18, false)), .prim (.mov (.tmp 3))⟩, [0, 1, 2, 3], false, 1, 1⟩,
      ⟨⟨some 20, (some (18, false)), .prim (.bin false .gtr (.tmp 19) (.const (Go.Value.int Go.IntKind.i64 0)))⟩, [0, 1, 2, 3, 4], false, 1, 1⟩,
      ⟨⟨some 21, (some (18, false)), .prim (.mov (.tmp 20))⟩, [0, 1, 2, 3, 4, 5], false, 1, 1⟩,
      ⟨⟨some 22, (some (21, true)), .prim (.mov (.tmp 0))⟩, [0, 1, 2, 3, 4, 5, 6], false, 1, 1⟩,
      ⟨⟨some 23, (some (21, true)), .prim (.mov (.tmp 3))⟩, [0, 1, 2, 3, 4, 5, 6], false, 1, 1⟩,
      ⟨⟨some 24, (some (21, true)), .prim (.bin false .sub (.tmp 23) (.const (Go.Value.int Go.IntKind.i64 1)))⟩, [0, 1, 2, 3, 4, 5, 6, 8], false, 1, 1⟩,
      ⟨⟨some 25, (some (21, true)), .prim (.iadrs 3 (.tmp 22) (.tmp 24))⟩, [0, 1, 2, 3, 4, 5, 6, 7, 8, 9], false, 1, 1⟩,
      ⟨⟨some 26, (some (21, true)), .prim (.load 3 true (.tmp 25))⟩, [0, 1, 2, 3, 4, 5, 6, 7, 8, 9, 10], false, 1, 1⟩,
      ⟨⟨some 27, (some (21, true)), .prim (.load 3 true (.tmp 4))⟩, [0, 1, 2, 3, 4, 5, 6], false, 1, 1⟩,
      ⟨⟨some 28, (some (21, true)), .call (.func 54) [(.tmp 26), (.tmp 27)]⟩, [0, 1, 2, 3, 4, 5, 6, 7, 8, 9, 10, 11, 12], true, 0, 0⟩,
      ⟨⟨some 29, (some (21, true)), .prim (.bin false .geq (.tmp 28) (.const (Go.Value.int Go.IntKind.i64 0)))⟩, [0, 1, 2, 3, 4, 5, 6, 7, 8, 9, 10, 11, 12, 13], false, 2, 2⟩,
      ⟨⟨some 30, (some (18, false)), .prim (.pick (.tmp 21) (.tmp 29) (.const (Go.Value.bool Bool.false)))⟩, [0, 1, 2, 3, 4, 5, 6, 7, 8, 9, 10, 11, 12, 13, 14], false, 2, 2⟩,
      ⟨⟨some 31, none, .prim (.pick (.tmp 18) (.const (Go.Value.bool Bool.true)) (.tmp 30))⟩, [0, 1, 2, 3, 4, 5, 6, 7, 8, 9, 10, 11, 12, 13, 14, 15], false, 2, 2⟩])
    (.cond (.tmp 31)
    (.seq (.ops [⟨some 2, none, .prim (.mov (.const (Go.Value.bool Bool.false)))⟩])
    .ret)
    .skip))))
    (.ops [⟨some 32, none, .prim (.bin false .add (.tmp 10) (.const (Go.Value.int Go.IntKind.i64 1)))⟩,
      ⟨some 10, none, .prim (.mov (.tmp 32))⟩])))))))
    (.seq (.ops [⟨some 2, none, .prim (.mov (.const (Go.Value.bool Bool.true)))⟩])
    .ret))))
def o44 : List Tmp := [4]
def r44 : List RV := [.tmp 2]
theorem t44 : Text Tryz.prog 44 o44 c44 r44 33 := ⟨⟨Tryz.f44, _, by kernel_rfl, by kernel_rfl, rfl, by kernel_rfl, by kernel_rfl, rfl⟩, by kernel_rfl⟩

/-- sordine/vint.PutWord -/
def c45 : ACode :=
  (.seq (.ops [⟨some 2, none, .prim (.mov (.const (Go.Value.slice Option.none 0 0)))⟩])
    (.seq (.ops [⟨some 5, none, .prim (.mks 1 false [.pl (.int .u8 0)] (.const (Go.Value.int Go.IntKind.i64 8)) (.const (Go.Value.int Go.IntKind.i64 8)))⟩,
      ⟨some 3, none, .prim (.mov (.tmp 5))⟩])
    (.seq (.seq (.ops [⟨some 6, none, .prim (.mov (.tmp 3))⟩,
      ⟨some 7, none, .prim (.lenv (.tmp 6))⟩,
      ⟨some 8, none, .prim (.mov (.const (Go.Value.int Go.IntKind.i64 0)))⟩])
    (.block 0 (.loop [1, 2, 4, 5, 6, 9, 10, 11, 12, 13, 14, 15, 16, 17, 18, 19, 20, 21] (.seq (.ops [⟨some 9, none, .prim (.bin false .lss (.tmp 8) (.tmp 7))⟩])
    (.seq (.cond (.tmp 9)
    .skip
    (.exit 0))
    (.seq (.block 1 (.seq (.ops [⟨some 10, none, .prim (.mov (.tmp 8))⟩,
      ⟨some 4, none, .prim (.mov (.tmp 10))⟩])
    (.ops [⟨some 11, none, .prim (.mov (.tmp 3))⟩,
      ⟨some 12, none, .prim (.mov (.tmp 4))⟩,
      ⟨some 13, none, .prim (.mov (.tmp 0))⟩,
      ⟨some 14, none, .prim (.mov (.tmp 4))⟩,
      ⟨some 15, none, .prim (.bin false .mul (.const (Go.Value.int Go.IntKind.i64 8)) (.tmp 14))⟩,
      ⟨some 16, none, .prim (.bin false .sub (.const (Go.Value.int Go.IntKind.i64 56)) (.tmp 15))⟩,
      ⟨some 17, none, .prim (.bin false .shr (.tmp 13) (.tmp 16))⟩,
      ⟨some 18, none, .prim (.convi .u8 (.tmp 17))⟩,
      ⟨some 19, none, .prim (.iadrs 1 (.tmp 11) (.tmp 12))⟩,
      ⟨none, none, .prim (.store 1 (.tmp 19) (.tmp 18))⟩])))
    (.ops [⟨some 20, none, .prim (.bin false .add (.tmp 8) (.const (Go.Value.int Go.IntKind.i64 1)))⟩,
      ⟨some 8, none, .prim (.mov (.tmp 20))⟩])))))))
    (.seq (.ops [⟨some 21, none, .prim (.mov (.tmp 3))⟩,
      ⟨some 2, none, .prim (.mov (.tmp 21))⟩])
    (.ghost (.shut 2) .ret)))))
def o45 : List Tmp := []
def r45 : List RV := [.tmp 2]
theorem t45 : Text Tryz.prog 45 o45 c45 r45 22 := ⟨⟨Tryz.f45, _, by kernel_rfl, by kernel_rfl, rfl, by kernel_rfl, by kernel_rfl, rfl⟩, by kernel_rfl⟩

/-- sordine/real.Bits -/
def c46 : ACode :=
  (.seq (.ops [⟨some 2, none, .prim (.mov (.const (Go.Value.int Go.IntKind.u64 0)))⟩])
    (.seq (.seq (.ops [⟨some 3, none, .prim (.mov (.tmp 0))⟩,
      ⟨some 4, none, .call (.func 55) [(.tmp 3)]⟩])
    (.cond (.tmp 4)
    (.seq (.ops [⟨some 2, none, .prim (.mov (.const (Go.Value.int Go.IntKind.u64 9221120237041090561)))⟩])
    .ret)
    .skip))
    (.seq (.ops [⟨some 5, none, .prim (.mov (.tmp 0))⟩,
      ⟨some 6, none, .call (.func 56) [(.tmp 5)]⟩,
      ⟨some 2, none, .prim (.mov (.tmp 6))⟩])
    .ret)))
def o46 : List Tmp := []
def r46 : List RV := [.tmp 2]
theorem t46 : Text Tryz.prog 46 o46 c46 r46 7 := ⟨⟨Tryz.f46, _, by kernel_rfl, by kernel_rfl, rfl, by kernel_rfl, by kernel_rfl, rfl⟩, by kernel_rfl⟩

/-- sordine/rule.value -/
def c47 : ACode :=
  (.seq (.ops [⟨some 2, none, .prim (.mov (.const (Go.Value.float Go.FloatKind.f64 0)))⟩])
    (.seq (.ops [⟨some 6, none, .prim (.mov (.tmp 0))⟩,
      ⟨some 7, none, .call (.func 58) [(.tmp 6)]⟩,
      ⟨some 8, none, .call (.func 57) [(.tmp 7)]⟩,
      ⟨some 5, none, .prim (.mov (.tmp 8))⟩,
      ⟨some 9, none, .prim (.extr 0 (.tmp 5))⟩,
      ⟨some 10, none, .prim (.extr 1 (.tmp 5))⟩,
      ⟨some 3, none, .prim (.mov (.tmp 9))⟩,
      ⟨some 4, none, .prim (.mov (.tmp 10))⟩])
    (.seq (.ops [⟨some 11, none, .prim (.mov (.tmp 0))⟩,
      ⟨some 12, none, .prim (.mov (.tmp 4))⟩,
      ⟨some 13, none, .call (.func 19) [(.tmp 11), (.tmp 12)]⟩])
    (.seq (.ops [⟨some 14, none, .prim (.mov (.tmp 3))⟩,
      ⟨some 2, none, .prim (.mov (.tmp 14))⟩])
    .ret))))
def o47 : List Tmp := []
def r47 : List RV := [.tmp 2]
theorem t47 : Text Tryz.prog 47 o47 c47 r47 15 := ⟨⟨Tryz.f47, _, by kernel_rfl, by kernel_rfl, rfl, by kernel_rfl, by kernel_rfl, rfl⟩, by kernel_rfl⟩

/-- sordine/real.May -/
def c48 : ACode :=
  (.seq (.ops [⟨some 1, none, .prim (.boxr (.tmp 0))⟩,
      ⟨some 2, none, .prim (.mov (.const (Go.Value.bool Bool.false)))⟩])
    (.seq (.seq (.ops [⟨some 3, none, .prim (.fadr 0 (.tmp 1))⟩,
      ⟨some 4, none, .prim (.load 1 false (.tmp 3))⟩])
    (.cond (.tmp 4)
    (.seq (.ops [⟨some 5, none, .prim (.fadr 1 (.tmp 1))⟩,
      ⟨some 6, none, .prim (.load 1 false (.tmp 5))⟩,
      ⟨some 7, none, .call (.func 46) [(.tmp 6)]⟩,
      ⟨some 8, none, .prim (.bin false .eql (.tmp 7) (.const (Go.Value.int Go.IntKind.u64 0)))⟩,
      ⟨some 9, none, .prim (.mov (.tmp 8))⟩,
      ⟨some 10, (some (9, true)), .prim (.fadr 2 (.tmp 1))⟩,
      ⟨some 11, (some (9, true)), .prim (.load 1 false (.tmp 10))⟩,
      ⟨some 12, (some (9, true)), .call (.func 46) [(.tmp 11)]⟩,
      ⟨some 13, (some (9, true)), .prim (.bin false .eql (.tmp 12) (.const (Go.Value.int Go.IntKind.u64 0)))⟩,
      ⟨some 14, none, .prim (.pick (.tmp 9) (.tmp 13) (.const (Go.Value.bool Bool.false)))⟩,
      ⟨some 2, none, .prim (.mov (.tmp 14))⟩])
    .ret)
    .skip))
    (.seq (.ops [⟨some 15, none, .prim (.fadr 1 (.tmp 1))⟩,
      ⟨some 16, none, .prim (.load 1 false (.tmp 15))⟩,
      ⟨some 17, none, .prim (.fadr 2 (.tmp 1))⟩,
      ⟨some 18, none, .prim (.load 1 false (.tmp 17))⟩,
      ⟨some 19, none, .prim (.bin false .leq (.tmp 16) (.tmp 18))⟩,
      ⟨some 2, none, .prim (.mov (.tmp 19))⟩])
    .ret)))
def o48 : List Tmp := []
def r48 : List RV := [.tmp 2]
theorem t48 : Text Tryz.prog 48 o48 c48 r48 20 := ⟨⟨Tryz.f48, _, by kernel_rfl, by kernel_rfl, rfl, by kernel_rfl, by kernel_rfl, rfl⟩, by kernel_rfl⟩

/-- slices.IndexFunc[[]int,int] -/
def c49 : ACode :=
  (.seq (.ops [⟨some 4, none, .prim (.mov (.const (Go.Value.int Go.IntKind.i64 0)))⟩])
    (.seq (.seq (.ops [⟨some 6, none, .prim (.mov (.tmp 0))⟩,
      ⟨some 7, none, .prim (.lenv (.tmp 6))⟩,
      ⟨some 8, none, .prim (.mov (.const (Go.Value.int Go.IntKind.i64 0)))⟩])
    (.block 0 (.loop [2, 3, 4, 5, 6, 9, 10, 11, 12, 13, 14, 15, 16, 17, 18] (.seq (.ops [⟨some 9, none, .prim (.bin false .lss (.tmp 8) (.tmp 7))⟩])
    (.seq (.cond (.tmp 9)
    .skip
    (.exit 0))
    (.seq (.block 1 (.seq (.ops [⟨some 10, none, .prim (.mov (.tmp 8))⟩,
      ⟨some 5, none, .prim (.mov (.tmp 10))⟩])
    (.seq (.ops [⟨some 11, none, .prim (.mov (.tmp 1))⟩,
      ⟨some 12, none, .prim (.mov (.tmp 0))⟩,
      ⟨some 13, none, .prim (.mov (.tmp 5))⟩,
      ⟨some 14, none, .prim (.iadrs 1 (.tmp 12) (.tmp 13))⟩,
      ⟨some 15, none, .prim (.load 1 false (.tmp 14))⟩,
      ⟨some 16, none, .call (.tmp 11) [(.tmp 15)]⟩])
    (.cond (.tmp 16)
    (.seq (.ops [⟨some 17, none, .prim (.mov (.tmp 5))⟩,
      ⟨some 4, none, .prim (.mov (.tmp 17))⟩])
    .ret)
    .skip))))
    (.ops [⟨some 18, none, .prim (.bin false .add (.tmp 8) (.const (Go.Value.int Go.IntKind.i64 1)))⟩,
      ⟨some 8, none, .prim (.mov (.tmp 18))⟩])))))))
    (.seq (.ops [⟨some 4, none, .prim (.mov (.const (Go.Value.int Go.IntKind.i64 (-1))))⟩])
    .ret)))
def o49 : List Tmp := []
def r49 : List RV := [.tmp 4]
theorem t49 : Text Tryz.prog 49 o49 c49 r49 19 := ⟨⟨Tryz.f49, _, by kernel_rfl, by kernel_rfl, rfl, by kernel_rfl, by kernel_rfl, rfl⟩, by kernel_rfl⟩

/-- slices.Clone[[]int,int] -/
def c50 : ACode :=
  (.seq (.ops [⟨some 2, none, .prim (.mov (.const (Go.Value.slice Option.none 0 0)))⟩])
    (.seq (.seq (.ops [⟨some 3, none, .prim (.mov (.tmp 0))⟩,
      ⟨some 4, none, .prim (.isnil false false (.tmp 3))⟩])
    (.cond (.tmp 4)
    (.seq (.ops [⟨some 2, none, .prim (.mov (.const (Go.Value.slice Option.none 0 0)))⟩])
    .ret)
    .skip))
    (.seq (.ops [⟨some 5, none, .prim (.bsl true 1 false 0 [.pl (.int .i64 0)] [])⟩,
      ⟨some 6, none, .prim (.mov (.tmp 0))⟩,
      ⟨some 7, none, .prim (.app 1 (.tmp 5) (.tmp 6))⟩,
      ⟨some 2, none, .prim (.mov (.tmp 7))⟩])
    .ret)))
def o50 : List Tmp := [5]
def r50 : List RV := [.tmp 2]
theorem t50 : Text Tryz.prog 50 o50 c50 r50 8 := ⟨⟨Tryz.f50, _, by kernel_rfl, by kernel_rfl, rfl, by kernel_rfl, by kernel_rfl, rfl⟩, by kernel_rfl⟩

/-- slices.Sort[[]int,int] -/
def c51 : ACode :=
  (.seq (.ops [⟨some 3, none, .prim (.mov (.tmp 0))⟩,
      ⟨some 4, none, .prim (.lenv (.tmp 3))⟩,
      ⟨some 2, none, .prim (.mov (.tmp 4))⟩])
    (.ops [⟨some 5, none, .prim (.mov (.tmp 0))⟩,
      ⟨some 6, none, .prim (.mov (.tmp 2))⟩,
      ⟨some 7, none, .prim (.mov (.tmp 2))⟩,
      ⟨some 8, none, .prim (.convi .u64 (.tmp 7))⟩,
      ⟨some 9, none, .call (.func 60) [(.tmp 8)]⟩,
      ⟨some 10, none, .call (.func 59) [(.tmp 5), (.const (Go.Value.int Go.IntKind.i64 0)), (.tmp 6), (.tmp 9)]⟩]))
def o51 : List Tmp := []
def r51 : List RV := []
theorem t51 : Text Tryz.prog 51 o51 c51 r51 11 := ⟨⟨Tryz.f51, _, by kernel_rfl, by kernel_rfl, rfl, by kernel_rfl, by kernel_rfl, rfl⟩, by kernel_rfl⟩

/-- slices.Compact[[]int,int] -/
def c52 : ACode :=
  (.seq (.ops [⟨some 2, none, .prim (.mov (.const (Go.Value.slice Option.none 0 0)))⟩])
    (.seq (.seq (.ops [⟨some 6, none, .prim (.mov (.tmp 0))⟩,
      ⟨some 7, none, .prim (.lenv (.tmp 6))⟩,
      ⟨some 8, none, .prim (.bin false .lss (.tmp 7) (.const (Go.Value.int Go.IntKind.i64 2)))⟩])
    (.cond (.tmp 8)
    (.seq (.ops [⟨some 9, none, .prim (.mov (.tmp 0))⟩,
      ⟨some 2, none, .prim (.mov (.tmp 9))⟩])
    .ret)
    .skip))
    (.seq (.seq (.ops [⟨some 3, none, .prim (.mov (.const (Go.Value.int Go.IntKind.i64 1)))⟩])
    (.block 0 (.loop [1, 2, 4, 5, 6, 7, 8, 9, 10, 11, 12, 13, 14, 15, 16, 17, 18, 19, 20, 21, 22, 23, 24, 25, 26, 27, 28, 29, 30, 31, 32, 33, 34, 35, 36, 37, 38, 39, 40, 41, 42, 43, 44, 45, 46, 47, 48, 49, 50, 51, 52, 53, 54, 55, 56, 57, 58, 59, 60] (.seq (.seq (.ops [⟨some 10, none, .prim (.mov (.tmp 3))⟩,
      ⟨some 11, none, .prim (.mov (.tmp 0))⟩,
      ⟨some 12, none, .prim (.lenv (.tmp 11))⟩,
      ⟨some 13, none, .prim (.bin false .lss (.tmp 10) (.tmp 12))⟩])
    (.cond (.tmp 13)
    .skip
    (.exit 0)))
    (.seq (.block 1 (.seq (.draw [⟨⟨some 16, none, .prim (.mov (.tmp 0))⟩, [], false, 0, 0⟩,
      ⟨⟨some 17, none, .prim (.mov (.tmp 3))⟩, [], false, 0, 0⟩,
      ⟨⟨some 18, none, .prim (.iadrs 1 (.tmp 16) (.tmp 17))⟩, [0, 1], false, 0, 0⟩,
      ⟨⟨some 19, none, .prim (.load 1 false (.tmp 18))⟩, [0, 1, 2], false, 0, 0⟩,
      ⟨⟨some 20, none, .prim (.mov (.tmp 0))⟩, [], false, 0, 0⟩,
      ⟨⟨some 21, none, .prim (.mov (.tmp 3))⟩, [], false, 0, 0⟩,
      ⟨⟨some 22, none, .prim (.bin false .sub (.tmp 21) (.const (Go.Value.int Go.IntKind.i64 1)))⟩, [5], false, 0, 0⟩,
      ⟨⟨some 23, none, .prim (.iadrs 1 (.tmp 20) (.tmp 22))⟩, [4, 5, 6], false, 0, 0⟩,
      ⟨⟨some 24, none, .prim (.load 1 false (.tmp 23))⟩, [4, 5, 6, 7], false, 0, 0⟩,
      ⟨⟨some 25, none, .prim (.bin false .eql (.tmp 19) (.tmp 24))⟩, [0, 1, 2, 3, 4, 5, 6, 7, 8], false, 0, 0⟩])
    (.cond (.tmp 25)
    (.seq (.ops [⟨some 26, none, .prim (.mov (.tmp 0))⟩,
      ⟨some 27, none, .prim (.mov (.tmp 3))⟩,
      ⟨some 28, none, .prim (.slcv 1 (.tmp 26) (some (.tmp 27)) none)⟩,
      ⟨some 4, none, .prim (.mov (.tmp 28))⟩])
    (.seq (.seq (.ops [⟨some 5, none, .prim (.mov (.const (Go.Value.int Go.IntKind.i64 1)))⟩])
    (.block 2 (.loop [1, 2, 6, 7, 8, 9, 10, 11, 12, 13, 14, 15, 16, 17, 18, 19, 20, 21, 22, 23, 24, 25, 26, 27, 28, 29, 30, 31, 32, 33, 34, 35, 36, 37, 38, 39, 40, 41, 42, 43, 44, 45, 46, 47, 48, 49, 50, 51, 52, 53, 54, 55, 56, 57, 58, 59, 60] (.seq (.seq (.ops [⟨some 29, none, .prim (.mov (.tmp 5))⟩,
      ⟨some 30, none, .prim (.mov (.tmp 4))⟩,
      ⟨some 31, none, .prim (.lenv (.tmp 30))⟩,
      ⟨some 32, none, .prim (.bin false .lss (.tmp 29) (.tmp 31))⟩])
    (.cond (.tmp 32)
    .skip
    (.exit 2)))
    (.seq (.block 3 (.seq (.draw [⟨⟨some 35, none, .prim (.mov (.tmp 4))⟩, [], false, 0, 0⟩,
      ⟨⟨some 36, none, .prim (.mov (.tmp 5))⟩, [], false, 0, 0⟩,
      ⟨⟨some 37, none, .prim (.iadrs 1 (.tmp 35) (.tmp 36))⟩, [0, 1], false, 0, 0⟩,
      ⟨⟨some 38, none, .prim (.load 1 false (.tmp 37))⟩, [0, 1, 2], false, 0, 0⟩,
      ⟨⟨some 39, none, .prim (.mov (.tmp 4))⟩, [], false, 0, 0⟩,
      ⟨⟨some 40, none, .prim (.mov (.tmp 5))⟩, [], false, 0, 0⟩,
      ⟨⟨some 41, none, .prim (.bin false .sub (.tmp 40) (.const (Go.Value.int Go.IntKind.i64 1)))⟩, [5], false, 0, 0⟩,
      ⟨⟨some 42, none, .prim (.iadrs 1 (.tmp 39) (.tmp 41))⟩, [4, 5, 6], false, 0, 0⟩,
      ⟨⟨some 43, none, .prim (.load 1 false (.tmp 42))⟩, [4, 5, 6, 7], false, 0, 0⟩,
      ⟨⟨some 44, none, .prim (.bin false .neq (.tmp 38) (.tmp 43))⟩, [0, 1, 2, 3, 4, 5, 6, 7, 8], false, 0, 0⟩])
    (.cond (.tmp 44)
    (.seq (.ops [⟨some 45, none, .prim (.mov (.tmp 0))⟩,
      ⟨some 46, none, .prim (.mov (.tmp 3))⟩,
      ⟨some 47, none, .prim (.mov (.tmp 4))⟩,
      ⟨some 48, none, .prim (.mov (.tmp 5))⟩,
      ⟨some 49, none, .prim (.iadrs 1 (.tmp 47) (.tmp 48))⟩,
      ⟨some 50, none, .prim (.load 1 false (.tmp 49))⟩,
      ⟨some 51, none, .prim (.iadrs 1 (.tmp 45) (.tmp 46))⟩,
      ⟨none, none, .prim (.store 1 (.tmp 51) (.tmp 50))⟩])
    (.ops [⟨some 52, none, .prim (.mov (.tmp 3))⟩,
      ⟨some 53, none, .prim (.bin false .add (.tmp 52) (.const (Go.Value.int Go.IntKind.i64 1)))⟩,
      ⟨some 3, none, .prim (.mov (.tmp 53))⟩]))
    .skip)))
    (.ops [⟨some 33, none, .prim (.mov (.tmp 5))⟩,
      ⟨some 34, none, .prim (.bin false .add (.tmp 33) (.const (Go.Value.int Go.IntKind.i64 1)))⟩,
      ⟨some 5, none, .prim (.mov (.tmp 34))⟩]))))))
    (.seq (.ops [⟨some 54, none, .prim (.mov (.tmp 0))⟩,
      ⟨some 55, none, .prim (.mov (.tmp 3))⟩,
      ⟨some 56, none, .prim (.slcv 1 (.tmp 54) (some (.tmp 55)) none)⟩,
      ⟨none, none, .prim (.bad)⟩])
    (.seq (.ops [⟨some 57, none, .prim (.mov (.tmp 0))⟩,
      ⟨some 58, none, .prim (.mov (.tmp 3))⟩,
      ⟨some 59, none, .prim (.slcv 1 (.tmp 57) none (some (.tmp 58)))⟩,
      ⟨some 2, none, .prim (.mov (.tmp 59))⟩])
    .ret))))
    .skip)))
    (.ops [⟨some 14, none, .prim (.mov (.tmp 3))⟩,
      ⟨some 15, none, .prim (.bin false .add (.tmp 14) (.const (Go.Value.int Go.IntKind.i64 1)))⟩,
      ⟨some 3, none, .prim (.mov (.tmp 15))⟩]))))))
    (.seq (.ops [⟨some 60, none, .prim (.mov (.tmp 0))⟩,
      ⟨some 2, none, .prim (.mov (.tmp 60))⟩])
    .ret))))
def o52 : List Tmp := []
def r52 : List RV := [.tmp 2]
theorem t52 : Text Tryz.prog 52 o52 c52 r52 61 := ⟨⟨Tryz.f52, _, by kernel_rfl, by kernel_rfl, rfl, by kernel_rfl, by kernel_rfl, rfl⟩, by kernel_rfl⟩

/-- sordine/match.Is -/
def c53 : ACode :=
  (.seq (.ops [⟨some 1, none, .prim (.boxr (.tmp 0))⟩,
      ⟨some 2, none, .prim (.mov (.const (Go.Value.bool Bool.false)))⟩])
    (.seq (.seq (.ops [⟨some 5, none, .prim (.fadr 1 (.tmp 1))⟩,
      ⟨some 6, none, .prim (.load 1 false (.tmp 5))⟩,
      ⟨some 7, none, .call (.func 61) [(.tmp 6)]⟩,
      ⟨some 8, none, .prim (.un .not (.tmp 7))⟩])
    (.cond (.tmp 8)
    (.seq (.ops [⟨some 2, none, .prim (.mov (.const (Go.Value.bool Bool.false)))⟩])
    .ret)
    .skip))
    (.seq (.seq (.ops [⟨some 9, none, .prim (.load 3 true (.tmp 1))⟩,
      ⟨some 10, none, .call (.func 62) [(.tmp 9)]⟩])
    (.cond (.tmp 10)
    (.seq (.ops [⟨some 12, none, .prim (.fadr 2 (.tmp 1))⟩,
      ⟨some 13, none, .prim (.load 1 false (.tmp 12))⟩,
      ⟨some 14, none, .call (.func 63) [(.tmp 13)]⟩,
      ⟨some 11, none, .prim (.mov (.tmp 14))⟩,
      ⟨some 15, none, .prim (.extr 0 (.tmp 11))⟩,
      ⟨some 16, none, .prim (.extr 1 (.tmp 11))⟩,
      ⟨some 3, none, .fresh 6 3 (.tmp 15)⟩,
      ⟨some 4, none, .prim (.mov (.tmp 16))⟩])
    (.seq (.ops [⟨some 17, none, .prim (.mov (.tmp 4))⟩,
      ⟨some 2, none, .prim (.mov (.tmp 17))⟩])
    .ret))
    .skip))
    (.seq (.ops [⟨some 18, none, .prim (.fadr 0 (.tmp 1))⟩,
      ⟨some 19, none, .prim (.load 1 false (.tmp 18))⟩,
      ⟨some 20, none, .prim (.bin false .eql (.tmp 19) (.const (Go.Value.int Go.IntKind.i64 1)))⟩,
      ⟨some 21, none, .prim (.mov (.tmp 20))⟩,
      ⟨some 22, (some (21, false)), .prim (.fadr 0 (.tmp 1))⟩,
      ⟨some 23, (some (21, false)), .prim (.load 1 false (.tmp 22))⟩,
      ⟨some 24, (some (21, false)), .prim (.bin false .eql (.tmp 23) (.const (Go.Value.int Go.IntKind.i64 2)))⟩,
      ⟨some 25, none, .prim (.pick (.tmp 21) (.const (Go.Value.bool Bool.true)) (.tmp 24))⟩,
      ⟨some 26, none, .prim (.mov (.tmp 25))⟩,
      ⟨some 27, (some (26, true)), .prim (.fadr 2 (.tmp 1))⟩,
      ⟨some 28, (some (26, true)), .prim (.load 1 false (.tmp 27))⟩,
      ⟨some 29, (some (26, true)), .prim (.lens (.tmp 28))⟩,
      ⟨some 30, (some (26, true)), .prim (.bin false .leq (.tmp 29) (.const (Go.Value.int Go.IntKind.i64 24)))⟩,
      ⟨some 31, none, .prim (.pick (.tmp 26) (.tmp 30) (.const (Go.Value.bool Bool.false)))⟩,
      ⟨some 2, none, .prim (.mov (.tmp 31))⟩])
    .ret))))
def o53 : List Tmp := []
def r53 : List RV := [.tmp 2]
theorem t53 : Text Tryz.prog 53 o53 c53 r53 32 := ⟨⟨Tryz.f53, _, by kernel_rfl, by kernel_rfl, rfl, by kernel_rfl, by kernel_rfl, rfl⟩, by kernel_rfl⟩

/-- sordine/match.compare -/
def c54 : ACode :=
  (.seq (.ops [⟨some 2, none, .prim (.boxr (.tmp 0))⟩,
      ⟨some 3, none, .prim (.boxr (.tmp 1))⟩,
      ⟨some 4, none, .prim (.mov (.const (Go.Value.int Go.IntKind.i64 0)))⟩])
    (.seq (.draw [⟨⟨some 5, none, .prim (.fadr 1 (.tmp 2))⟩, [], false, 0, 0⟩,
      ⟨⟨some 6, none, .prim (.load 1 false (.tmp 5))⟩, [0], false, 0, 0⟩,
      ⟨⟨some 7, none, .prim (.fadr 1 (.tmp 3))⟩, [], false, 0, 0⟩,
      ⟨⟨some 8, none, .prim (.load 1 false (.tmp 7))⟩, [2], false, 0, 0⟩,
      ⟨⟨some 9, none, .call (.func 65) [(.tmp 6), (.tmp 8)]⟩, [0, 1, 2, 3], true, 0, 0⟩,
      ⟨⟨some 10, none, .prim (.fadr 0 (.tmp 2))⟩, [], false, 0, 1⟩,
      ⟨⟨some 11, none, .prim (.load 1 false (.tmp 10))⟩, [5], false, 0, 1⟩,
      ⟨⟨some 12, none, .prim (.fadr 0 (.tmp 3))⟩, [], false, 0, 1⟩,
      ⟨⟨some 13, none, .prim (.load 1 false (.tmp 12))⟩, [7], false, 0, 1⟩,
      ⟨⟨some 14, none, .call (.func 66) [(.tmp 11), (.tmp 13)]⟩, [0, 1, 2, 3, 4, 5, 6, 7, 8], true, 0, 0⟩,
      ⟨⟨some 15, none, .prim (.fadr 2 (.tmp 2))⟩, [], false, 0, 2⟩,
      ⟨⟨some 16, none, .prim (.load 1 false (.tmp 15))⟩, [10], false, 0, 2⟩,
      ⟨⟨some 17, none, .prim (.fadr 2 (.tmp 3))⟩, [], false, 0, 2⟩,
      ⟨⟨some 18, none, .prim (.load 1 false (.tmp 17))⟩, [12], false, 0, 2⟩,
      ⟨⟨some 19, none, .call (.func 65) [(.tmp 16), (.tmp 18)]⟩, [0, 1, 2, 3, 4, 5, 6, 7, 8, 9, 10, 11, 12, 13], true, 0, 0⟩,
      ⟨⟨some 20, none, .prim (.bsl false 1 false 3 [.pl (.int .i64 0)] [(0, 1, (.tmp 9)), (1, 1, (.tmp 14)), (2, 1, (.tmp 19))])⟩, [0, 1, 2, 3, 4, 5, 6, 7, 8, 9, 10, 11, 12, 13, 14], false, 3, 3⟩,
      ⟨⟨some 21, none, .call (.func 64) [(.tmp 20)]⟩, [0, 1, 2, 3, 4, 5, 6, 7, 8, 9, 10, 11, 12, 13, 14, 15], true, 0, 0⟩,
      ⟨⟨some 4, none, .prim (.mov (.tmp 21))⟩, [0, 1, 2, 3, 4, 5, 6, 7, 8, 9, 10, 11, 12, 13, 14, 15, 16], false, 4, 4⟩])
    .ret))
def o54 : List Tmp := []
def r54 : List RV := [.tmp 4]
theorem t54 : Text Tryz.prog 54 o54 c54 r54 22 := ⟨⟨Tryz.f54, _, by kernel_rfl, by kernel_rfl, rfl, by kernel_rfl, by kernel_rfl, rfl⟩, by kernel_rfl⟩

/-- sordine/real.no -/
def c55 : ACode :=
  (.seq (.ops [⟨some 2, none, .prim (.mov (.const (Go.Value.bool Bool.false)))⟩])
    (.seq (.ops [⟨some 3, none, .prim (.mov (.tmp 0))⟩,
      ⟨some 4, none, .prim (.mov (.tmp 0))⟩,
      ⟨some 5, none, .prim (.bin false .neq (.tmp 3) (.tmp 4))⟩,
      ⟨some 2, none, .prim (.mov (.tmp 5))⟩])
    .ret))
def o55 : List Tmp := []
def r55 : List RV := [.tmp 2]
theorem t55 : Text Tryz.prog 55 o55 c55 r55 6 := ⟨⟨Tryz.f55, _, by kernel_rfl, by kernel_rfl, rfl, by kernel_rfl, by kernel_rfl, rfl⟩, by kernel_rfl⟩

/-- sordine/real.Of -/
def c57 : ACode :=
  (.seq (.ops [⟨some 2, none, .prim (.mov (.const (Go.Value.float Go.FloatKind.f64 0)))⟩,
      ⟨some 3, none, .prim (.mov (.const (Go.Value.bool Bool.false)))⟩])
    (.seq (.ops [⟨some 5, none, .prim (.mov (.tmp 0))⟩,
      ⟨some 6, none, .call (.func 67) [(.tmp 5)]⟩,
      ⟨some 4, none, .prim (.mov (.tmp 6))⟩])
    (.seq (.seq (.ops [⟨some 7, none, .prim (.mov (.tmp 4))⟩,
      ⟨some 8, none, .call (.func 46) [(.tmp 7)]⟩,
      ⟨some 9, none, .prim (.mov (.tmp 0))⟩,
      ⟨some 10, none, .prim (.bin false .neq (.tmp 8) (.tmp 9))⟩])
    (.cond (.tmp 10)
    (.seq (.ops [⟨some 2, none, .prim (.mov (.const (Go.Value.float Go.FloatKind.f64 0)))⟩,
      ⟨some 3, none, .prim (.mov (.const (Go.Value.bool Bool.false)))⟩])
    .ret)
    .skip))
    (.seq (.ops [⟨some 11, none, .prim (.mov (.tmp 4))⟩,
      ⟨some 2, none, .prim (.mov (.tmp 11))⟩,
      ⟨some 3, none, .prim (.mov (.const (Go.Value.bool Bool.true)))⟩])
    .ret))))
def o57 : List Tmp := []
def r57 : List RV := [.tmp 2, .tmp 3]
theorem t57 : Text Tryz.prog 57 o57 c57 r57 12 := ⟨⟨Tryz.f57, _, by kernel_rfl, by kernel_rfl, rfl, by kernel_rfl, by kernel_rfl, rfl⟩, by kernel_rfl⟩

/-- (*sordine/peel.Reader).Word -/
def c58 : ACode :=
  (.seq (.ops [⟨some 2, none, .prim (.mov (.const (Go.Value.int Go.IntKind.u64 0)))⟩])
    (.seq (.ops [⟨some 6, none, .prim (.mov (.tmp 0))⟩,
      ⟨some 7, none, .call (.func 17) [(.tmp 6)]⟩,
      ⟨some 8, none, .call (.func 68) [(.tmp 7)]⟩,
      ⟨some 5, none, .prim (.mov (.tmp 8))⟩,
      ⟨some 9, none, .prim (.extr 0 (.tmp 5))⟩,
      ⟨some 10, none, .prim (.extr 1 (.tmp 5))⟩,
      ⟨some 3, none, .prim (.mov (.tmp 9))⟩,
      ⟨some 4, none, .prim (.mov (.tmp 10))⟩])
    (.seq (.seq (.ops [⟨some 11, none, .prim (.mov (.tmp 0))⟩,
      ⟨some 12, none, .prim (.mov (.tmp 4))⟩,
      ⟨some 13, none, .call (.func 18) [(.tmp 11), (.const (Go.Value.int Go.IntKind.i64 8)), (.tmp 12)]⟩,
      ⟨some 14, none, .prim (.un .not (.tmp 13))⟩])
    (.cond (.tmp 14)
    (.seq (.ops [⟨some 2, none, .prim (.mov (.const (Go.Value.int Go.IntKind.u64 0)))⟩])
    .ret)
    .skip))
    (.seq (.ops [⟨some 15, none, .prim (.mov (.tmp 3))⟩,
      ⟨some 2, none, .prim (.mov (.tmp 15))⟩])
    .ret))))
def o58 : List Tmp := []
def r58 : List RV := [.tmp 2]
theorem t58 : Text Tryz.prog 58 o58 c58 r58 16 := ⟨⟨Tryz.f58, _, by kernel_rfl, by kernel_rfl, rfl, by kernel_rfl, by kernel_rfl, rfl⟩, by kernel_rfl⟩

/-- slices.pdqsortOrdered[int] -/
def c59 : ACode :=
  (.seq (.ops [⟨some 8, none, .prim (.mov (.const (Go.Value.bool Bool.true)))⟩])
    (.seq (.ops [⟨some 9, none, .prim (.mov (.const (Go.Value.bool Bool.true)))⟩])
    (.block 0 (.loop [4, 5, 6, 7, 10, 11, 12, 13, 14, 15, 16, 17, 18, 19, 20, 21, 22, 23, 24, 25, 26, 27, 28, 29, 30, 31, 32, 33, 34, 35, 36, 37, 38, 39, 40, 41, 42, 43, 44, 45, 46, 47, 48, 49, 50, 51, 52, 53, 54, 55, 56, 57, 58, 59, 60, 61, 62, 63, 64, 65, 66, 67, 68, 69, 70, 71, 72, 73, 74, 75, 76, 77, 78, 79, 80, 81, 82, 83, 84, 85, 86, 87, 88, 89, 90, 91, 92, 93, 94, 95, 96, 97, 98, 99, 100, 101, 102, 103, 104, 105, 106, 107, 108, 109, 110, 111, 112, 113, 114, 115, 116, 117, 118, 119, 120, 121, 122, 123, 124, 125, 126, 127, 128, 129, 130, 131, 132, 133] (.block 1 (.seq (.ops [⟨some 19, none, .prim (.mov (.tmp 2))⟩,
      ⟨some 20, none, .prim (.mov (.tmp 1))⟩,
      ⟨some 21, none, .prim (.bin false .sub (.tmp 19) (.tmp 20))⟩,
      ⟨some 10, none, .prim (.mov (.tmp 21))⟩])
    (.seq (.seq (.ops [⟨some 22, none, .prim (.mov (.tmp 10))⟩,
      ⟨some 23, none, .prim (.bin false .leq (.tmp 22) (.const (Go.Value.int Go.IntKind.i64 12)))⟩])
    (.cond (.tmp 23)
    (.seq (.ops [⟨some 24, none, .prim (.mov (.tmp 0))⟩,
      ⟨some 25, none, .prim (.mov (.tmp 1))⟩,
      ⟨some 26, none, .prim (.mov (.tmp 2))⟩,
      ⟨some 27, none, .call (.func 69) [(.tmp 24), (.tmp 25), (.tmp 26)]⟩])
    .ret)
    .skip))
    (.seq (.seq (.ops [⟨some 28, none, .prim (.mov (.tmp 3))⟩,
      ⟨some 29, none, .prim (.bin false .eql (.tmp 28) (.const (Go.Value.int Go.IntKind.i64 0)))⟩])
    (.cond (.tmp 29)
    (.seq (.ops [⟨some 30, none, .prim (.mov (.tmp 0))⟩,
      ⟨some 31, none, .prim (.mov (.tmp 1))⟩,
      ⟨some 32, none, .prim (.mov (.tmp 2))⟩,
      ⟨some 33, none, .call (.func 70) [(.tmp 30), (.tmp 31), (.tmp 32)]⟩])
    .ret)
    .skip))
    (.seq (.seq (.ops [⟨some 34, none, .prim (.mov (.tmp 8))⟩,
      ⟨some 35, none, .prim (.un .not (.tmp 34))⟩])
    (.cond (.tmp 35)
    (.seq (.ops [⟨some 36, none, .prim (.mov (.tmp 0))⟩,
      ⟨some 37, none, .prim (.mov (.tmp 1))⟩,
      ⟨some 38, none, .prim (.mov (.tmp 2))⟩,
      ⟨some 39, none, .call (.func 71) [(.tmp 36), (.tmp 37), (.tmp 38)]⟩])
    (.ops [⟨some 40, none, .prim (.mov (.tmp 3))⟩,
      ⟨some 41, none, .prim (.bin false .sub (.tmp 40) (.const (Go.Value.int Go.IntKind.i64 1)))⟩,
      ⟨some 3, none, .prim (.mov (.tmp 41))⟩]))
    .skip))
    (.seq (.ops [⟨some 43, none, .prim (.mov (.tmp 0))⟩,
      ⟨some 44, none, .prim (.mov (.tmp 1))⟩,
      ⟨some 45, none, .prim (.mov (.tmp 2))⟩,
      ⟨some 46, none, .call (.func 72) [(.tmp 43), (.tmp 44), (.tmp 45)]⟩,
      ⟨some 42, none, .prim (.mov (.tmp 46))⟩,
      ⟨some 47, none, .prim (.extr 0 (.tmp 42))⟩,
      ⟨some 48, none, .prim (.extr 1 (.tmp 42))⟩,
      ⟨some 11, none, .prim (.mov (.tmp 47))⟩,
      ⟨some 12, none, .prim (.mov (.tmp 48))⟩])
    (.seq (.seq (.ops [⟨some 49, none, .prim (.mov (.tmp 12))⟩,
      ⟨some 50, none, .prim (.bin false .eql (.tmp 49) (.const (Go.Value.int Go.IntKind.i64 2)))⟩])
    (.cond (.tmp 50)
    (.seq (.ops [⟨some 51, none, .prim (.mov (.tmp 0))⟩,
      ⟨some 52, none, .prim (.mov (.tmp 1))⟩,
      ⟨some 53, none, .prim (.mov (.tmp 2))⟩,
      ⟨some 54, none, .call (.func 73) [(.tmp 51), (.tmp 52), (.tmp 53)]⟩])
    (.seq (.ops [⟨some 55, none, .prim (.mov (.tmp 2))⟩,
      ⟨some 56, none, .prim (.bin false .sub (.tmp 55) (.const (Go.Value.int Go.IntKind.i64 1)))⟩,
      ⟨some 57, none, .prim (.mov (.tmp 11))⟩,
      ⟨some 58, none, .prim (.mov (.tmp 1))⟩,
      ⟨some 59, none, .prim (.bin false .sub (.tmp 57) (.tmp 58))⟩,
      ⟨some 60, none, .prim (.bin false .sub (.tmp 56) (.tmp 59))⟩,
      ⟨some 11, none, .prim (.mov (.tmp 60))⟩])
    (.ops [⟨some 12, none, .prim (.mov (.const (Go.Value.int Go.IntKind.i64 1)))⟩])))
    .skip))
    (.seq (.seq (.ops [⟨some 61, none, .prim (.mov (.tmp 8))⟩,
      ⟨some 62, none, .prim (.mov (.tmp 61))⟩,
      ⟨some 63, (some (62, true)), .prim (.mov (.tmp 9))⟩,
      ⟨some 64, none, .prim (.pick (.tmp 62) (.tmp 63) (.const (Go.Value.bool Bool.false)))⟩,
      ⟨some 65, none, .prim (.mov (.tmp 64))⟩,
      ⟨some 66, (some (65, true)), .prim (.mov (.tmp 12))⟩,
      ⟨some 67, (some (65, true)), .prim (.bin false .eql (.tmp 66) (.const (Go.Value.int Go.IntKind.i64 1)))⟩,
      ⟨some 68, none, .prim (.pick (.tmp 65) (.tmp 67) (.const (Go.Value.bool Bool.false)))⟩])
    (.cond (.tmp 68)
    (.seq (.ops [⟨some 69, none, .prim (.mov (.tmp 0))⟩,
      ⟨some 70, none, .prim (.mov (.tmp 1))⟩,
      ⟨some 71, none, .prim (.mov (.tmp 2))⟩,
      ⟨some 72, none, .call (.func 74) [(.tmp 69), (.tmp 70), (.tmp 71)]⟩])
    (.cond (.tmp 72)
    .ret
    .skip))
    .skip))
    (.seq (.seq (.draw [⟨⟨some 73, none, .prim (.mov (.tmp 1))⟩, [], false, 0, 0⟩,
      ⟨⟨some 74, none, .prim (.bin false .gtr (.tmp 73) (.const (Go.Value.int Go.IntKind.i64 0)))⟩, [0], false, 0, 0⟩,
      ⟨⟨some 75, none, .prim (.mov (.tmp 74))⟩, [0, 1], false, 0, 0⟩,
      ⟨⟨some 76, (some (75, true)), .prim (.mov (.tmp 0))⟩, [0, 1, 2], false, 0, 0⟩,
      ⟨⟨some 77, (some (75, true)), .prim (.mov (.tmp 1))⟩, [0, 1, 2], false, 0, 0⟩,
      ⟨⟨some 78, (some (75, true)), .prim (.bin false .sub (.tmp 77) (.const (Go.Value.int Go.IntKind.i64 1)))⟩, [0, 1, 2, 4], false, 0, 0⟩,
      ⟨⟨some 79, (some (75, true)), .prim (.iadrs 1 (.tmp 76) (.tmp 78))⟩, [0, 1, 2, 3, 4, 5], false, 0, 0⟩,
      ⟨⟨some 80, (some (75, true)), .prim (.load 1 false (.tmp 79))⟩, [0, 1, 2, 3, 4, 5, 6], false, 0, 0⟩,
      ⟨⟨some 81, (some (75, true)), .prim (.mov (.tmp 0))⟩, [0, 1, 2], false, 0, 0⟩,
      ⟨⟨some 82, (some (75, true)), .prim (.mov (.tmp 11))⟩, [0, 1, 2], false, 0, 0⟩,
      ⟨⟨some 83, (some (75, true)), .prim (.iadrs 1 (.tmp 81) (.tmp 82))⟩, [0, 1, 2, 8, 9], false, 0, 0⟩,
      ⟨⟨some 84, (some (75, true)), .prim (.load 1 false (.tmp 83))⟩, [0, 1, 2, 8, 9, 10], false, 0, 0⟩,
      ⟨⟨some 85, (some (75, true)), .call (.func 75) [(.tmp 80), (.tmp 84)]⟩, [0, 1, 2, 3, 4, 5, 6, 7, 8, 9, 10, 11], true, 0, 0⟩,
      ⟨⟨some 86, (some (75, true)), .prim (.un .not (.tmp 85))⟩, [0, 1, 2, 3, 4, 5, 6, 7, 8, 9, 10, 11, 12], false, 1, 1⟩,
      ⟨⟨some 87, none, .prim (.pick (.tmp 75) (.tmp 86) (.const (Go.Value.bool Bool.false)))⟩, [0, 1, 2, 3, 4, 5, 6, 7, 8, 9, 10, 11, 12, 13], false, 1, 1⟩])
    (.cond (.tmp 87)
    (.seq (.ops [⟨some 88, none, .prim (.mov (.tmp 0))⟩,
      ⟨some 89, none, .prim (.mov (.tmp 1))⟩,
      ⟨some 90, none, .prim (.mov (.tmp 2))⟩,
      ⟨some 91, none, .prim (.mov (.tmp 11))⟩,
      ⟨some 92, none, .call (.func 76) [(.tmp 88), (.tmp 89), (.tmp 90), (.tmp 91)]⟩,
      ⟨some 13, none, .prim (.mov (.tmp 92))⟩])
    (.seq (.ops [⟨some 93, none, .prim (.mov (.tmp 13))⟩,
      ⟨some 1, none, .prim (.mov (.tmp 93))⟩])
    (.exit 1)))
    .skip))
    (.seq (.ops [⟨some 95, none, .prim (.mov (.tmp 0))⟩,
      ⟨some 96, none, .prim (.mov (.tmp 1))⟩,
      ⟨some 97, none, .prim (.mov (.tmp 2))⟩,
      ⟨some 98, none, .prim (.mov (.tmp 11))⟩,
      ⟨some 99, none, .call (.func 77) [(.tmp 95), (.tmp 96), (.tmp 97), (.tmp 98)]⟩,
      ⟨some 94, none, .prim (.mov (.tmp 99))⟩,
      ⟨some 100, none, .prim (.extr 0 (.tmp 94))⟩,
      ⟨some 101, none, .prim (.extr 1 (.tmp 94))⟩,
      ⟨some 14, none, .prim (.mov (.tmp 100))⟩,
      ⟨some 15, none, .prim (.mov (.tmp 101))⟩])
    (.seq (.ops [⟨some 102, none, .prim (.mov (.tmp 15))⟩,
      ⟨some 9, none, .prim (.mov (.tmp 102))⟩])
    (.seq (.ops [⟨some 103, none, .prim (.mov (.tmp 14))⟩,
      ⟨some 104, none, .prim (.mov (.tmp 1))⟩,
      ⟨some 105, none, .prim (.bin false .sub (.tmp 103) (.tmp 104))⟩,
      ⟨some 106, none, .prim (.mov (.tmp 2))⟩,
      ⟨some 107, none, .prim (.mov (.tmp 14))⟩,
      ⟨some 108, none, .prim (.bin false .sub (.tmp 106) (.tmp 107))⟩,
      ⟨some 16, none, .prim (.mov (.tmp 105))⟩,
      ⟨some 17, none, .prim (.mov (.tmp 108))⟩])
    (.seq (.ops [⟨some 109, none, .prim (.mov (.tmp 10))⟩,
      ⟨some 110, none, .prim (.bin false .quo (.tmp 109) (.const (Go.Value.int Go.IntKind.i64 8)))⟩,
      ⟨some 18, none, .prim (.mov (.tmp 110))⟩])
    (.seq (.ops [⟨some 111, none, .prim (.mov (.tmp 16))⟩,
      ⟨some 112, none, .prim (.mov (.tmp 17))⟩,
      ⟨some 113, none, .prim (.bin false .lss (.tmp 111) (.tmp 112))⟩])
    (.cond (.tmp 113)
    (.seq (.ops [⟨some 114, none, .prim (.mov (.tmp 16))⟩,
      ⟨some 115, none, .prim (.mov (.tmp 18))⟩,
      ⟨some 116, none, .prim (.bin false .geq (.tmp 114) (.tmp 115))⟩,
      ⟨some 8, none, .prim (.mov (.tmp 116))⟩])
    (.seq (.ops [⟨some 117, none, .prim (.mov (.tmp 0))⟩,
      ⟨some 118, none, .prim (.mov (.tmp 1))⟩,
      ⟨some 119, none, .prim (.mov (.tmp 14))⟩,
      ⟨some 120, none, .prim (.mov (.tmp 3))⟩,
      ⟨some 121, none, .call (.func 59) [(.tmp 117), (.tmp 118), (.tmp 119), (.tmp 120)]⟩])
    (.ops [⟨some 122, none, .prim (.mov (.tmp 14))⟩,
      ⟨some 123, none, .prim (.bin false .add (.tmp 122) (.const (Go.Value.int Go.IntKind.i64 1)))⟩,
      ⟨some 1, none, .prim (.mov (.tmp 123))⟩])))
    (.seq (.ops [⟨some 124, none, .prim (.mov (.tmp 17))⟩,
      ⟨some 125, none, .prim (.mov (.tmp 18))⟩,
      ⟨some 126, none, .prim (.bin false .geq (.tmp 124) (.tmp 125))⟩,
      ⟨some 8, none, .prim (.mov (.tmp 126))⟩])
    (.seq (.ops [⟨some 127, none, .prim (.mov (.tmp 0))⟩,
      ⟨some 128, none, .prim (.mov (.tmp 14))⟩,
      ⟨some 129, none, .prim (.bin false .add (.tmp 128) (.const (Go.Value.int Go.IntKind.i64 1)))⟩,
      ⟨some 130, none, .prim (.mov (.tmp 2))⟩,
      ⟨some 131, none, .prim (.mov (.tmp 3))⟩,
      ⟨some 132, none, .call (.func 59) [(.tmp 127), (.tmp 129), (.tmp 130), (.tmp 131)]⟩])
    (.ops [⟨some 133, none, .prim (.mov (.tmp 14))⟩,
      ⟨some 2, none, .prim (.mov (.tmp 133))⟩]))))))))))))))))))))))
def o59 : List Tmp := []
def r59 : List RV := []
theorem t59 : Text Tryz.prog 59 o59 c59 r59 134 := ⟨⟨Tryz.f59, _, by kernel_rfl, by kernel_rfl, rfl, by kernel_rfl, by kernel_rfl, rfl⟩, by kernel_rfl⟩

/-- math/bits.Len -/
def c60 : ACode :=
  (.seq (.ops [⟨some 2, none, .prim (.mov (.const (Go.Value.int Go.IntKind.i64 0)))⟩])
    (.seq (.cond (.const (Go.Value.bool Bool.false))
    (.seq (.ops [⟨some 3, none, .prim (.mov (.tmp 0))⟩,
      ⟨some 4, none, .prim (.convi .u32 (.tmp 3))⟩,
      ⟨some 5, none, .call (.func 78) [(.tmp 4)]⟩,
      ⟨some 2, none, .prim (.mov (.tmp 5))⟩])
    .ret)
    .skip)
    (.seq (.ops [⟨some 6, none, .prim (.mov (.tmp 0))⟩,
      ⟨some 7, none, .call (.func 79) [(.tmp 6)]⟩,
      ⟨some 2, none, .prim (.mov (.tmp 7))⟩])
    .ret)))
def o60 : List Tmp := []
def r60 : List RV := [.tmp 2]
theorem t60 : Text Tryz.prog 60 o60 c60 r60 8 := ⟨⟨Tryz.f60, _, by kernel_rfl, by kernel_rfl, rfl, by kernel_rfl, by kernel_rfl, rfl⟩, by kernel_rfl⟩

/-- sordine/labels.Name -/
def c61 : ACode :=
  (.seq (.ops [⟨some 2, none, .prim (.mov (.const (Go.Value.bool Bool.false)))⟩])
    (.seq (.seq (.ops [⟨some 4, none, .prim (.mov (.tmp 0))⟩,
      ⟨some 5, none, .prim (.lens (.tmp 4))⟩,
      ⟨some 6, none, .prim (.bin false .lss (.tmp 5) (.const (Go.Value.int Go.IntKind.i64 1)))⟩,
      ⟨some 7, none, .prim (.mov (.tmp 6))⟩,
      ⟨some 8, (some (7, false)), .prim (.mov (.tmp 0))⟩,
      ⟨some 9, (some (7, false)), .prim (.lens (.tmp 8))⟩,
      ⟨some 10, (some (7, false)), .prim (.bin false .gtr (.tmp 9) (.const (Go.Value.int Go.IntKind.i64 12)))⟩,
      ⟨some 11, none, .prim (.pick (.tmp 7) (.const (Go.Value.bool Bool.true)) (.tmp 10))⟩,
      ⟨some 12, none, .prim (.mov (.tmp 11))⟩,
      ⟨some 13, (some (12, false)), .prim (.mov (.tmp 0))⟩,
      ⟨some 14, (some (12, false)), .prim (.idxs (.tmp 13) (.const (Go.Value.int Go.IntKind.i64 0)))⟩,
      ⟨some 15, (some (12, false)), .call (.func 80) [(.tmp 14)]⟩,
      ⟨some 16, (some (12, false)), .prim (.un .not (.tmp 15))⟩,
      ⟨some 17, none, .prim (.pick (.tmp 12) (.const (Go.Value.bool Bool.true)) (.tmp 16))⟩])
    (.cond (.tmp 17)
    (.seq (.ops [⟨some 2, none, .prim (.mov (.const (Go.Value.bool Bool.false)))⟩])
    .ret)
    .skip))
    (.seq (.seq (.ops [⟨some 18, none, .prim (.mov (.tmp 0))⟩,
      ⟨some 19, none, .prim (.lens (.tmp 18))⟩,
      ⟨some 20, none, .prim (.mov (.const (Go.Value.int Go.IntKind.i64 0)))⟩])
    (.block 0 (.loop [1, 2, 3, 4, 5, 6, 7, 8, 9, 10, 11, 12, 13, 14, 15, 16, 17, 18, 21, 22, 23, 24, 25, 26, 27, 28, 29, 30, 31, 32, 33, 34, 35, 36, 37, 38, 39, 40] (.seq (.ops [⟨some 21, none, .prim (.bin false .lss (.tmp 20) (.tmp 19))⟩])
    (.seq (.cond (.tmp 21)
    .skip
    (.exit 0))
    (.seq (.block 1 (.seq (.ops [⟨some 22, none, .prim (.mov (.tmp 20))⟩,
      ⟨some 3, none, .prim (.mov (.tmp 22))⟩])
    (.seq (.ops [⟨some 23, none, .prim (.mov (.tmp 0))⟩,
      ⟨some 24, none, .prim (.mov (.tmp 3))⟩,
      ⟨some 25, none, .prim (.idxs (.tmp 23) (.tmp 24))⟩,
      ⟨some 26, none, .call (.func 80) [(.tmp 25)]⟩,
      ⟨some 27, none, .prim (.un .not (.tmp 26))⟩,
      ⟨some 28, none, .prim (.mov (.tmp 27))⟩,
      ⟨some 29, (some (28, true)), .prim (.mov (.tmp 0))⟩,
      ⟨some 30, (some (28, true)), .prim (.mov (.tmp 3))⟩,
      ⟨some 31, (some (28, true)), .prim (.idxs (.tmp 29) (.tmp 30))⟩,
      ⟨some 32, (some (28, true)), .prim (.bin false .lss (.tmp 31) (.const (Go.Value.int Go.IntKind.u8 48)))⟩,
      ⟨some 33, (some (28, true)), .prim (.mov (.tmp 32))⟩,
      ⟨some 34, (some (33, false)), .prim (.mov (.tmp 0))⟩,
      ⟨some 35, (some (33, false)), .prim (.mov (.tmp 3))⟩,
      ⟨some 36, (some (33, false)), .prim (.idxs (.tmp 34) (.tmp 35))⟩,
      ⟨some 37, (some (33, false)), .prim (.bin false .gtr (.tmp 36) (.const (Go.Value.int Go.IntKind.u8 57)))⟩,
      ⟨some 38, (some (28, true)), .prim (.pick (.tmp 33) (.const (Go.Value.bool Bool.true)) (.tmp 37))⟩,
      ⟨some 39, none, .prim (.pick (.tmp 28) (.tmp 38) (.const (Go.Value.bool Bool.false)))⟩])
    (.cond (.tmp 39)
    (.seq (.ops [⟨some 2, none, .prim (.mov (.const (Go.Value.bool Bool.false)))⟩])
    .ret)
    .skip))))
    (.ops [⟨some 40, none, .prim (.bin false .add (.tmp 20) (.const (Go.Value.int Go.IntKind.i64 1)))⟩,
      ⟨some 20, none, .prim (.mov (.tmp 40))⟩])))))))
    (.seq (.ops [⟨some 2, none, .prim (.mov (.const (Go.Value.bool Bool.true)))⟩])
    .ret))))
def o61 : List Tmp := []
def r61 : List RV := [.tmp 2]
theorem t61 : Text Tryz.prog 61 o61 c61 r61 41 := ⟨⟨Tryz.f61, _, by kernel_rfl, by kernel_rfl, rfl, by kernel_rfl, by kernel_rfl, rfl⟩, by kernel_rfl⟩

/-- sordine/match.like -/
def c62 : ACode :=
  (.seq (.ops [⟨some 1, none, .prim (.boxr (.tmp 0))⟩,
      ⟨some 2, none, .prim (.mov (.const (Go.Value.bool Bool.false)))⟩])
    (.seq (.ops [⟨some 3, none, .prim (.fadr 0 (.tmp 1))⟩,
      ⟨some 4, none, .prim (.load 1 false (.tmp 3))⟩,
      ⟨some 5, none, .prim (.bin false .eql (.tmp 4) (.const (Go.Value.int Go.IntKind.i64 3)))⟩,
      ⟨some 6, none, .prim (.mov (.tmp 5))⟩,
      ⟨some 7, (some (6, false)), .prim (.fadr 0 (.tmp 1))⟩,
      ⟨some 8, (some (6, false)), .prim (.load 1 false (.tmp 7))⟩,
      ⟨some 9, (some (6, false)), .prim (.bin false .eql (.tmp 8) (.const (Go.Value.int Go.IntKind.i64 4)))⟩,
      ⟨some 10, none, .prim (.pick (.tmp 6) (.const (Go.Value.bool Bool.true)) (.tmp 9))⟩,
      ⟨some 2, none, .prim (.mov (.tmp 10))⟩])
    .ret))
def o62 : List Tmp := []
def r62 : List RV := [.tmp 2]
theorem t62 : Text Tryz.prog 62 o62 c62 r62 11 := ⟨⟨Tryz.f62, _, by kernel_rfl, by kernel_rfl, rfl, by kernel_rfl, by kernel_rfl, rfl⟩, by kernel_rfl⟩

/-- sordine/rex.Parse -/
def c63 : ACode :=
  (.seq (.ops [⟨some 2, none, .prim (.allocm [.pl (.int .i64 0), .pl (.int .u64 0), .pl (.int .u64 0), .pl (.int .u64 0), .pl (.int .u64 0), .nils])⟩,
      ⟨some 3, none, .prim (.mov (.const (Go.Value.bool Bool.false)))⟩])
    (.seq (.ops [⟨some 6, none, .prim (.mov (.tmp 0))⟩,
      ⟨some 7, none, .prim (.mov (.tmp 0))⟩,
      ⟨some 8, none, .prim (.lens (.tmp 7))⟩,
      ⟨some 9, none, .prim (.bin false .gtr (.tmp 8) (.const (Go.Value.int Go.IntKind.i64 40)))⟩,
      ⟨some 10, none, .prim (.build [.pl (.string .empty), .pl (.int .i64 0), .pl (.bool false)] [(0, 1, (.tmp 6)), (2, 1, (.tmp 9))])⟩,
      ⟨some 11, none, .prim (.boxm (.tmp 10))⟩,
      ⟨some 4, none, .prim (.mov (.tmp 11))⟩])
    (.seq (.ops [⟨some 12, none, .prim (.mov (.tmp 4))⟩,
      ⟨some 13, none, .call (.func 81) [(.tmp 12), (.const (Go.Value.int Go.IntKind.i64 0))]⟩,
      ⟨some 5, none, .fresh 6 5 (.tmp 13)⟩])
    (.seq (.seq (.ops [⟨some 14, none, .prim (.mov (.tmp 4))⟩,
      ⟨some 15, none, .prim (.nilc (.tmp 14))⟩,
      ⟨some 16, none, .prim (.fadr 2 (.tmp 15))⟩,
      ⟨some 17, none, .prim (.load 1 false (.tmp 16))⟩,
      ⟨some 18, none, .prim (.mov (.tmp 17))⟩,
      ⟨some 19, (some (18, false)), .prim (.mov (.tmp 4))⟩,
      ⟨some 20, (some (18, false)), .prim (.nilc (.tmp 19))⟩,
      ⟨some 21, (some (18, false)), .prim (.fadr 1 (.tmp 20))⟩,
      ⟨some 22, (some (18, false)), .prim (.load 1 false (.tmp 21))⟩,
      ⟨some 23, (some (18, false)), .prim (.mov (.tmp 0))⟩,
      ⟨some 24, (some (18, false)), .prim (.lens (.tmp 23))⟩,
      ⟨some 25, (some (18, false)), .prim (.bin false .lss (.tmp 22) (.tmp 24))⟩,
      ⟨some 26, none, .prim (.pick (.tmp 18) (.const (Go.Value.bool Bool.true)) (.tmp 25))⟩])
    (.cond (.tmp 26)
    (.seq (.ops [⟨some 27, none, .prim (.build [.pl (.int .i64 0), .pl (.int .u64 0), .pl (.int .u64 0), .pl (.int .u64 0), .pl (.int .u64 0), .nils] [])⟩,
      ⟨none, none, .prim (.store 6 (.tmp 2) (.tmp 27))⟩,
      ⟨some 3, none, .prim (.mov (.const (Go.Value.bool Bool.false)))⟩])
    .ret)
    .skip))
    (.seq (.ops [⟨some 28, none, .prim (.load 6 true (.tmp 5))⟩,
      ⟨none, none, .prim (.store 6 (.tmp 2) (.tmp 28))⟩,
      ⟨some 3, none, .prim (.mov (.const (Go.Value.bool Bool.true)))⟩])
    .ret)))))
def o63 : List Tmp := [2, 11]
def r63 : List RV := [.cell 2 6 true, .tmp 3]
theorem t63 : Text Tryz.prog 63 o63 c63 r63 29 := ⟨⟨Tryz.f63, _, by kernel_rfl, by kernel_rfl, rfl, by kernel_rfl, by kernel_rfl, rfl⟩, by kernel_rfl⟩

/-- cmp.Or[int] -/
def c64 : ACode :=
  (.seq (.ops [⟨some 2, none, .prim (.mov (.const (Go.Value.int Go.IntKind.i64 0)))⟩])
    (.seq (.ops [⟨some 3, none, .prim (.mov (.const (Go.Value.int Go.IntKind.i64 0)))⟩])
    (.seq (.seq (.ops [⟨some 6, none, .prim (.mov (.tmp 0))⟩,
      ⟨some 7, none, .prim (.lenv (.tmp 6))⟩,
      ⟨some 8, none, .prim (.mov (.const (Go.Value.int Go.IntKind.i64 0)))⟩])
    (.block 0 (.loop [0, 1, 2, 4, 5, 9, 10, 11, 12, 13, 14, 15, 16, 17] (.seq (.ops [⟨some 9, none, .prim (.bin false .lss (.tmp 8) (.tmp 7))⟩])
    (.seq (.cond (.tmp 9)
    .skip
    (.exit 0))
    (.seq (.block 1 (.seq (.ops [⟨some 10, none, .prim (.iadrs 1 (.tmp 6) (.tmp 8))⟩,
      ⟨some 11, none, .prim (.load 1 false (.tmp 10))⟩,
      ⟨some 5, none, .prim (.mov (.tmp 11))⟩])
    (.seq (.ops [⟨some 12, none, .prim (.mov (.tmp 5))⟩,
      ⟨some 13, none, .prim (.mov (.tmp 3))⟩,
      ⟨some 14, none, .prim (.bin false .neq (.tmp 12) (.tmp 13))⟩])
    (.cond (.tmp 14)
    (.seq (.ops [⟨some 15, none, .prim (.mov (.tmp 5))⟩,
      ⟨some 2, none, .prim (.mov (.tmp 15))⟩])
    .ret)
    .skip))))
    (.ops [⟨some 16, none, .prim (.bin false .add (.tmp 8) (.const (Go.Value.int Go.IntKind.i64 1)))⟩,
      ⟨some 8, none, .prim (.mov (.tmp 16))⟩])))))))
    (.seq (.ops [⟨some 17, none, .prim (.mov (.tmp 3))⟩,
      ⟨some 2, none, .prim (.mov (.tmp 17))⟩])
    .ret))))
def o64 : List Tmp := []
def r64 : List RV := [.tmp 2]
theorem t64 : Text Tryz.prog 64 o64 c64 r64 18 := ⟨⟨Tryz.f64, _, by kernel_rfl, by kernel_rfl, rfl, by kernel_rfl, by kernel_rfl, rfl⟩, by kernel_rfl⟩

/-- strings.Compare -/
def c65 : ACode :=
  (.seq (.ops [⟨some 4, none, .prim (.mov (.const (Go.Value.int Go.IntKind.i64 0)))⟩])
    (.seq (.ops [⟨some 5, none, .prim (.mov (.tmp 0))⟩,
      ⟨some 6, none, .prim (.mov (.tmp 1))⟩,
      ⟨some 7, none, .call (.func 82) [(.tmp 5), (.tmp 6)]⟩,
      ⟨some 4, none, .prim (.mov (.tmp 7))⟩])
    .ret))
def o65 : List Tmp := []
def r65 : List RV := [.tmp 4]
theorem t65 : Text Tryz.prog 65 o65 c65 r65 8 := ⟨⟨Tryz.f65, _, by kernel_rfl, by kernel_rfl, rfl, by kernel_rfl, by kernel_rfl, rfl⟩, by kernel_rfl⟩

/-- cmp.Compare[int] -/
def c66 : ACode :=
  (.seq (.ops [⟨some 4, none, .prim (.mov (.const (Go.Value.int Go.IntKind.i64 0)))⟩])
    (.seq (.ops [⟨some 7, none, .prim (.mov (.tmp 0))⟩,
      ⟨some 8, none, .call (.func 83) [(.tmp 7)]⟩,
      ⟨some 5, none, .prim (.mov (.tmp 8))⟩])
    (.seq (.ops [⟨some 9, none, .prim (.mov (.tmp 1))⟩,
      ⟨some 10, none, .call (.func 83) [(.tmp 9)]⟩,
      ⟨some 6, none, .prim (.mov (.tmp 10))⟩])
    (.seq (.seq (.ops [⟨some 11, none, .prim (.mov (.tmp 5))⟩])
    (.cond (.tmp 11)
    (.seq (.seq (.ops [⟨some 12, none, .prim (.mov (.tmp 6))⟩])
    (.cond (.tmp 12)
    (.seq (.ops [⟨some 4, none, .prim (.mov (.const (Go.Value.int Go.IntKind.i64 0)))⟩])
    .ret)
    .skip))
    (.seq (.ops [⟨some 4, none, .prim (.mov (.const (Go.Value.int Go.IntKind.i64 (-1))))⟩])
    .ret))
    .skip))
    (.seq (.seq (.ops [⟨some 13, none, .prim (.mov (.tmp 6))⟩])
    (.cond (.tmp 13)
    (.seq (.ops [⟨some 4, none, .prim (.mov (.const (Go.Value.int Go.IntKind.i64 1)))⟩])
    .ret)
    .skip))
    (.seq (.seq (.ops [⟨some 14, none, .prim (.mov (.tmp 0))⟩,
      ⟨some 15, none, .prim (.mov (.tmp 1))⟩,
      ⟨some 16, none, .prim (.bin false .lss (.tmp 14) (.tmp 15))⟩])
    (.cond (.tmp 16)
    (.seq (.ops [⟨some 4, none, .prim (.mov (.const (Go.Value.int Go.IntKind.i64 (-1))))⟩])
    .ret)
    .skip))
    (.seq (.seq (.ops [⟨some 17, none, .prim (.mov (.tmp 0))⟩,
      ⟨some 18, none, .prim (.mov (.tmp 1))⟩,
      ⟨some 19, none, .prim (.bin false .gtr (.tmp 17) (.tmp 18))⟩])
    (.cond (.tmp 19)
    (.seq (.ops [⟨some 4, none, .prim (.mov (.const (Go.Value.int Go.IntKind.i64 1)))⟩])
    .ret)
    .skip))
    (.seq (.ops [⟨some 4, none, .prim (.mov (.const (Go.Value.int Go.IntKind.i64 0)))⟩])
    .ret))))))))
def o66 : List Tmp := []
def r66 : List RV := [.tmp 4]
theorem t66 : Text Tryz.prog 66 o66 c66 r66 20 := ⟨⟨Tryz.f66, _, by kernel_rfl, by kernel_rfl, rfl, by kernel_rfl, by kernel_rfl, rfl⟩, by kernel_rfl⟩

/-- sordine/vint.GetWord -/
def c68 : ACode :=
  (.seq (.ops [⟨some 2, none, .prim (.mov (.const (Go.Value.int Go.IntKind.u64 0)))⟩,
      ⟨some 3, none, .prim (.mov (.const (Go.Value.bool Bool.false)))⟩])
    (.seq (.seq (.ops [⟨some 7, none, .prim (.mov (.tmp 0))⟩,
      ⟨some 8, none, .prim (.lenv (.tmp 7))⟩,
      ⟨some 9, none, .prim (.bin false .lss (.tmp 8) (.const (Go.Value.int Go.IntKind.i64 8)))⟩])
    (.cond (.tmp 9)
    (.seq (.ops [⟨some 2, none, .prim (.mov (.const (Go.Value.int Go.IntKind.u64 0)))⟩,
      ⟨some 3, none, .prim (.mov (.const (Go.Value.bool Bool.false)))⟩])
    .ret)
    .skip))
    (.seq (.ops [⟨some 4, none, .prim (.mov (.const (Go.Value.int Go.IntKind.u64 0)))⟩])
    (.seq (.seq (.ops [⟨some 10, none, .prim (.mov (.tmp 0))⟩,
      ⟨some 11, none, .prim (.slcv 1 (.tmp 10) none (some (.const (Go.Value.int Go.IntKind.i64 8))))⟩,
      ⟨some 12, none, .prim (.lenv (.tmp 11))⟩,
      ⟨some 13, none, .prim (.mov (.const (Go.Value.int Go.IntKind.i64 0)))⟩])
    (.block 0 (.loop [0, 1, 2, 3, 5, 6, 7, 8, 9, 10, 14, 15, 16, 17, 18, 19, 20, 21, 22, 23] (.seq (.ops [⟨some 14, none, .prim (.bin false .lss (.tmp 13) (.tmp 12))⟩])
    (.seq (.cond (.tmp 14)
    .skip
    (.exit 0))
    (.seq (.block 1 (.seq (.ops [⟨some 15, none, .prim (.iadrs 1 (.tmp 11) (.tmp 13))⟩,
      ⟨some 16, none, .prim (.load 1 false (.tmp 15))⟩,
      ⟨some 6, none, .prim (.mov (.tmp 16))⟩])
    (.ops [⟨some 17, none, .prim (.mov (.tmp 4))⟩,
      ⟨some 18, none, .prim (.bin false .shl (.tmp 17) (.const (Go.Value.int Go.IntKind.u64 8)))⟩,
      ⟨some 19, none, .prim (.mov (.tmp 6))⟩,
      ⟨some 20, none, .prim (.convi .u64 (.tmp 19))⟩,
      ⟨some 21, none, .prim (.bin false .or (.tmp 18) (.tmp 20))⟩,
      ⟨some 4, none, .prim (.mov (.tmp 21))⟩])))
    (.ops [⟨some 22, none, .prim (.bin false .add (.tmp 13) (.const (Go.Value.int Go.IntKind.i64 1)))⟩,
      ⟨some 13, none, .prim (.mov (.tmp 22))⟩])))))))
    (.seq (.ops [⟨some 23, none, .prim (.mov (.tmp 4))⟩,
      ⟨some 2, none, .prim (.mov (.tmp 23))⟩,
      ⟨some 3, none, .prim (.mov (.const (Go.Value.bool Bool.true)))⟩])
    .ret)))))
def o68 : List Tmp := []
def r68 : List RV := [.tmp 2, .tmp 3]
theorem t68 : Text Tryz.prog 68 o68 c68 r68 24 := ⟨⟨Tryz.f68, _, by kernel_rfl, by kernel_rfl, rfl, by kernel_rfl, by kernel_rfl, rfl⟩, by kernel_rfl⟩

/-- slices.insertionSortOrdered[int] -/
def c69 : ACode :=
  (.seq (.ops [⟨some 8, none, .prim (.mov (.tmp 1))⟩,
      ⟨some 9, none, .prim (.bin false .add (.tmp 8) (.const (Go.Value.int Go.IntKind.i64 1)))⟩,
      ⟨some 6, none, .prim (.mov (.tmp 9))⟩])
    (.block 0 (.loop [3, 4, 5, 7, 8, 9, 10, 11, 12, 13, 14, 15, 16, 17, 18, 19, 20, 21, 22, 23, 24, 25, 26, 27, 28, 29, 30, 31, 32, 33, 34, 35, 36, 37, 38, 39, 40, 41, 42, 43, 44, 45, 46, 47, 48] (.seq (.seq (.ops [⟨some 10, none, .prim (.mov (.tmp 6))⟩,
      ⟨some 11, none, .prim (.mov (.tmp 2))⟩,
      ⟨some 12, none, .prim (.bin false .lss (.tmp 10) (.tmp 11))⟩])
    (.cond (.tmp 12)
    .skip
    (.exit 0)))
    (.seq (.block 1 (.seq (.ops [⟨some 15, none, .prim (.mov (.tmp 6))⟩,
      ⟨some 7, none, .prim (.mov (.tmp 15))⟩])
    (.block 2 (.loop [3, 4, 5, 8, 9, 10, 11, 12, 13, 14, 15, 16, 17, 18, 19, 20, 21, 22, 23, 24, 25, 26, 27, 28, 29, 30, 31, 32, 33, 34, 35, 36, 37, 38, 39, 40, 41, 42, 43, 44, 45, 46, 47, 48] (.seq (.seq (.draw [⟨⟨some 16, none, .prim (.mov (.tmp 7))⟩, [], false, 0, 0⟩,
      ⟨⟨some 17, none, .prim (.mov (.tmp 1))⟩, [], false, 0, 0⟩,
      ⟨⟨some 18, none, .prim (.bin false .gtr (.tmp 16) (.tmp 17))⟩, [0, 1], false, 0, 0⟩,
      ⟨⟨some 19, none, .prim (.mov (.tmp 18))⟩, [0, 1, 2], false, 0, 0⟩,
      ⟨⟨some 20, (some (19, true)), .prim (.mov (.tmp 0))⟩, [0, 1, 2, 3], false, 0, 0⟩,
      ⟨⟨some 21, (some (19, true)), .prim (.mov (.tmp 7))⟩, [0, 1, 2, 3], false, 0, 0⟩,
      ⟨⟨some 22, (some (19, true)), .prim (.iadrs 1 (.tmp 20) (.tmp 21))⟩, [0, 1, 2, 3, 4, 5], false, 0, 0⟩,
      ⟨⟨some 23, (some (19, true)), .prim (.load 1 false (.tmp 22))⟩, [0, 1, 2, 3, 4, 5, 6], false, 0, 0⟩,
      ⟨⟨some 24, (some (19, true)), .prim (.mov (.tmp 0))⟩, [0, 1, 2, 3], false, 0, 0⟩,
      ⟨⟨some 25, (some (19, true)), .prim (.mov (.tmp 7))⟩, [0, 1, 2, 3], false, 0, 0⟩,
      ⟨⟨some 26, (some (19, true)), .prim (.bin false .sub (.tmp 25) (.const (Go.Value.int Go.IntKind.i64 1)))⟩, [0, 1, 2, 3, 9], false, 0, 0⟩,
      ⟨⟨some 27, (some (19, true)), .prim (.iadrs 1 (.tmp 24) (.tmp 26))⟩, [0, 1, 2, 3, 8, 9, 10], false, 0, 0⟩,
      ⟨⟨some 28, (some (19, true)), .prim (.load 1 false (.tmp 27))⟩, [0, 1, 2, 3, 8, 9, 10, 11], false, 0, 0⟩,
      ⟨⟨some 29, (some (19, true)), .call (.func 75) [(.tmp 23), (.tmp 28)]⟩, [0, 1, 2, 3, 4, 5, 6, 7, 8, 9, 10, 11, 12], true, 0, 0⟩,
      ⟨⟨some 30, none, .prim (.pick (.tmp 19) (.tmp 29) (.const (Go.Value.bool Bool.false)))⟩, [0, 1, 2, 3, 4, 5, 6, 7, 8, 9, 10, 11, 12, 13], false, 1, 1⟩])
    (.cond (.tmp 30)
    .skip
    (.exit 2)))
    (.seq (.block 3 (.draw [⟨⟨some 33, none, .prim (.mov (.tmp 0))⟩, [], false, 0, 0⟩,
      ⟨⟨some 34, none, .prim (.mov (.tmp 7))⟩, [], false, 0, 0⟩,
      ⟨⟨some 35, none, .prim (.mov (.tmp 0))⟩, [], false, 0, 1⟩,
      ⟨⟨some 36, none, .prim (.mov (.tmp 7))⟩, [], false, 0, 1⟩,
      ⟨⟨some 37, none, .prim (.bin false .sub (.tmp 36) (.const (Go.Value.int Go.IntKind.i64 1)))⟩, [3], false, 0, 1⟩,
      ⟨⟨some 38, none, .prim (.mov (.tmp 0))⟩, [], false, 0, 0⟩,
      ⟨⟨some 39, none, .prim (.mov (.tmp 7))⟩, [], false, 0, 0⟩,
      ⟨⟨some 40, none, .prim (.bin false .sub (.tmp 39) (.const (Go.Value.int Go.IntKind.i64 1)))⟩, [6], false, 0, 0⟩,
      ⟨⟨some 41, none, .prim (.iadrs 1 (.tmp 38) (.tmp 40))⟩, [5, 6, 7], false, 0, 0⟩,
      ⟨⟨some 42, none, .prim (.load 1 false (.tmp 41))⟩, [5, 6, 7, 8], false, 0, 0⟩,
      ⟨⟨some 43, none, .prim (.mov (.tmp 0))⟩, [], false, 0, 0⟩,
      ⟨⟨some 44, none, .prim (.mov (.tmp 7))⟩, [], false, 0, 0⟩,
      ⟨⟨some 45, none, .prim (.iadrs 1 (.tmp 43) (.tmp 44))⟩, [10, 11], false, 0, 0⟩,
      ⟨⟨some 46, none, .prim (.load 1 false (.tmp 45))⟩, [10, 11, 12], false, 0, 0⟩,
      ⟨⟨some 47, none, .prim (.iadrs 1 (.tmp 33) (.tmp 34))⟩, [0, 1, 5, 6, 7, 8, 9, 10, 11, 12, 13], false, 0, 0⟩,
      ⟨⟨none, none, .prim (.store 1 (.tmp 47) (.tmp 42))⟩, [0, 1, 5, 6, 7, 8, 9, 10, 11, 12, 13, 14], true, 0, 0⟩,
      ⟨⟨some 48, none, .prim (.iadrs 1 (.tmp 35) (.tmp 37))⟩, [0, 1, 2, 3, 4, 5, 6, 7, 8, 9, 10, 11, 12, 13, 14, 15], false, 1, 1⟩,
      ⟨⟨none, none, .prim (.store 1 (.tmp 48) (.tmp 46))⟩, [0, 1, 2, 3, 4, 5, 6, 7, 8, 9, 10, 11, 12, 13, 14, 15, 16], true, 0, 0⟩]))
    (.ops [⟨some 31, none, .prim (.mov (.tmp 7))⟩,
      ⟨some 32, none, .prim (.bin false .sub (.tmp 31) (.const (Go.Value.int Go.IntKind.i64 1)))⟩,
      ⟨some 7, none, .prim (.mov (.tmp 32))⟩])))))))
    (.ops [⟨some 13, none, .prim (.mov (.tmp 6))⟩,
      ⟨some 14, none, .prim (.bin false .add (.tmp 13) (.const (Go.Value.int Go.IntKind.i64 1)))⟩,
      ⟨some 6, none, .prim (.mov (.tmp 14))⟩]))))))
def o69 : List Tmp := []
def r69 : List RV := []
theorem t69 : Text Tryz.prog 69 o69 c69 r69 49 := ⟨⟨Tryz.f69, _, by kernel_rfl, by kernel_rfl, rfl, by kernel_rfl, by kernel_rfl, rfl⟩, by kernel_rfl⟩

/-- slices.heapSortOrdered[int] -/
def c70 : ACode :=
  (.seq (.ops [⟨some 11, none, .prim (.mov (.tmp 1))⟩,
      ⟨some 6, none, .prim (.mov (.tmp 11))⟩])
    (.seq (.ops [⟨some 7, none, .prim (.mov (.const (Go.Value.int Go.IntKind.i64 0)))⟩])
    (.seq (.ops [⟨some 12, none, .prim (.mov (.tmp 2))⟩,
      ⟨some 13, none, .prim (.mov (.tmp 1))⟩,
      ⟨some 14, none, .prim (.bin false .sub (.tmp 12) (.tmp 13))⟩,
      ⟨some 8, none, .prim (.mov (.tmp 14))⟩])
    (.seq (.seq (.ops [⟨some 15, none, .prim (.mov (.tmp 8))⟩,
      ⟨some 16, none, .prim (.bin false .sub (.tmp 15) (.const (Go.Value.int Go.IntKind.i64 1)))⟩,
      ⟨some 17, none, .prim (.bin false .quo (.tmp 16) (.const (Go.Value.int Go.IntKind.i64 2)))⟩,
      ⟨some 9, none, .prim (.mov (.tmp 17))⟩])
    (.block 0 (.loop [1, 2, 3, 4, 5, 10, 11, 12, 13, 14, 15, 16, 17, 18, 19, 20, 21, 22, 23, 24, 25, 26, 27, 28, 29, 30, 31, 32, 33, 34, 35, 36, 37, 38, 39, 40, 41, 42, 43, 44, 45, 46, 47, 48, 49, 50, 51, 52, 53, 54, 55] (.seq (.seq (.ops [⟨some 18, none, .prim (.mov (.tmp 9))⟩,
      ⟨some 19, none, .prim (.bin false .geq (.tmp 18) (.const (Go.Value.int Go.IntKind.i64 0)))⟩])
    (.cond (.tmp 19)
    .skip
    (.exit 0)))
    (.seq (.block 1 (.ops [⟨some 22, none, .prim (.mov (.tmp 0))⟩,
      ⟨some 23, none, .prim (.mov (.tmp 9))⟩,
      ⟨some 24, none, .prim (.mov (.tmp 8))⟩,
      ⟨some 25, none, .prim (.mov (.tmp 6))⟩,
      ⟨some 26, none, .call (.func 84) [(.tmp 22), (.tmp 23), (.tmp 24), (.tmp 25)]⟩]))
    (.ops [⟨some 20, none, .prim (.mov (.tmp 9))⟩,
      ⟨some 21, none, .prim (.bin false .sub (.tmp 20) (.const (Go.Value.int Go.IntKind.i64 1)))⟩,
      ⟨some 9, none, .prim (.mov (.tmp 21))⟩]))))))
    (.seq (.ops [⟨some 27, none, .prim (.mov (.tmp 8))⟩,
      ⟨some 28, none, .prim (.bin false .sub (.tmp 27) (.const (Go.Value.int Go.IntKind.i64 1)))⟩,
      ⟨some 10, none, .prim (.mov (.tmp 28))⟩])
    (.block 2 (.loop [1, 2, 3, 4, 5, 8, 9, 11, 12, 13, 14, 15, 16, 17, 18, 19, 20, 21, 22, 23, 24, 25, 26, 27, 28, 29, 30, 31, 32, 33, 34, 35, 36, 37, 38, 39, 40, 41, 42, 43, 44, 45, 46, 47, 48, 49, 50, 51, 52, 53, 54, 55] (.seq (.seq (.ops [⟨some 29, none, .prim (.mov (.tmp 10))⟩,
      ⟨some 30, none, .prim (.bin false .geq (.tmp 29) (.const (Go.Value.int Go.IntKind.i64 0)))⟩])
    (.cond (.tmp 30)
    .skip
    (.exit 2)))
    (.seq (.block 3 (.seq (.draw [⟨⟨some 33, none, .prim (.mov (.tmp 0))⟩, [], false, 0, 0⟩,
      ⟨⟨some 34, none, .prim (.mov (.tmp 6))⟩, [], false, 0, 0⟩,
      ⟨⟨some 35, none, .prim (.mov (.tmp 0))⟩, [], false, 0, 1⟩,
      ⟨⟨some 36, none, .prim (.mov (.tmp 6))⟩, [], false, 0, 1⟩,
      ⟨⟨some 37, none, .prim (.mov (.tmp 10))⟩, [], false, 0, 1⟩,
      ⟨⟨some 38, none, .prim (.bin false .add (.tmp 36) (.tmp 37))⟩, [3, 4], false, 0, 1⟩,
      ⟨⟨some 39, none, .prim (.mov (.tmp 0))⟩, [], false, 0, 0⟩,
      ⟨⟨some 40, none, .prim (.mov (.tmp 6))⟩, [], false, 0, 0⟩,
      ⟨⟨some 41, none, .prim (.mov (.tmp 10))⟩, [], false, 0, 0⟩,
      ⟨⟨some 42, none, .prim (.bin false .add (.tmp 40) (.tmp 41))⟩, [7, 8], false, 0, 0⟩,
      ⟨⟨some 43, none, .prim (.iadrs 1 (.tmp 39) (.tmp 42))⟩, [6, 7, 8, 9], false, 0, 0⟩,
      ⟨⟨some 44, none, .prim (.load 1 false (.tmp 43))⟩, [6, 7, 8, 9, 10], false, 0, 0⟩,
      ⟨⟨some 45, none, .prim (.mov (.tmp 0))⟩, [], false, 0, 0⟩,
      ⟨⟨some 46, none, .prim (.mov (.tmp 6))⟩, [], false, 0, 0⟩,
      ⟨⟨some 47, none, .prim (.iadrs 1 (.tmp 45) (.tmp 46))⟩, [12, 13], false, 0, 0⟩,
      ⟨⟨some 48, none, .prim (.load 1 false (.tmp 47))⟩, [12, 13, 14], false, 0, 0⟩,
      ⟨⟨some 49, none, .prim (.iadrs 1 (.tmp 33) (.tmp 34))⟩, [0, 1, 6, 7, 8, 9, 10, 11, 12, 13, 14, 15], false, 0, 0⟩,
      ⟨⟨none, none, .prim (.store 1 (.tmp 49) (.tmp 44))⟩, [0, 1, 6, 7, 8, 9, 10, 11, 12, 13, 14, 15, 16], true, 0, 0⟩,
      ⟨⟨some 50, none, .prim (.iadrs 1 (.tmp 35) (.tmp 38))⟩, [0, 1, 2, 3, 4, 5, 6, 7, 8, 9, 10, 11, 12, 13, 14, 15, 16, 17], false, 1, 1⟩,
      ⟨⟨none, none, .prim (.store 1 (.tmp 50) (.tmp 48))⟩, [0, 1, 2, 3, 4, 5, 6, 7, 8, 9, 10, 11, 12, 13, 14, 15, 16, 17, 18], true, 0, 0⟩])
    (.ops [⟨some 51, none, .prim (.mov (.tmp 0))⟩,
      ⟨some 52, none, .prim (.mov (.tmp 7))⟩,
      ⟨some 53, none, .prim (.mov (.tmp 10))⟩,
      ⟨some 54, none, .prim (.mov (.tmp 6))⟩,
      ⟨some 55, none, .call (.func 84) [(.tmp 51), (.tmp 52), (.tmp 53), (.tmp 54)]⟩])))
    (.ops [⟨some 31, none, .prim (.mov (.tmp 10))⟩,
      ⟨some 32, none, .prim (.bin false .sub (.tmp 31) (.const (Go.Value.int Go.IntKind.i64 1)))⟩,
      ⟨some 10, none, .prim (.mov (.tmp 32))⟩]))))))))))
def o70 : List Tmp := []
def r70 : List RV := []
theorem t70 : Text Tryz.prog 70 o70 c70 r70 56 := ⟨⟨Tryz.f70, _, by kernel_rfl, by kernel_rfl, rfl, by kernel_rfl, by kernel_rfl, rfl⟩, by kernel_rfl⟩

/-- slices.breakPatternsOrdered[int] -/
def c71 : ACode :=
  (.seq (.ops [⟨some 11, none, .prim (.mov (.tmp 2))⟩,
      ⟨some 12, none, .prim (.mov (.tmp 1))⟩,
      ⟨some 13, none, .prim (.bin false .sub (.tmp 11) (.tmp 12))⟩,
      ⟨some 6, none, .prim (.mov (.tmp 13))⟩])
    (.seq (.ops [⟨some 14, none, .prim (.mov (.tmp 6))⟩,
      ⟨some 15, none, .prim (.bin false .geq (.tmp 14) (.const (Go.Value.int Go.IntKind.i64 8)))⟩])
    (.cond (.tmp 15)
    (.seq (.ops [⟨some 16, none, .prim (.mov (.tmp 6))⟩,
      ⟨some 17, none, .prim (.convi .u64 (.tmp 16))⟩,
      ⟨some 7, none, .prim (.allocm [.pl (.int .u64 0)])⟩,
      ⟨none, none, .prim (.store 1 (.tmp 7) (.tmp 17))⟩])
    (.seq (.ops [⟨some 18, none, .prim (.mov (.tmp 6))⟩,
      ⟨some 19, none, .call (.func 85) [(.tmp 18)]⟩,
      ⟨some 8, none, .prim (.mov (.tmp 19))⟩])
    (.seq (.ops [⟨some 20, none, .prim (.mov (.tmp 1))⟩,
      ⟨some 21, none, .prim (.mov (.tmp 6))⟩,
      ⟨some 22, none, .prim (.bin false .quo (.tmp 21) (.const (Go.Value.int Go.IntKind.i64 4)))⟩,
      ⟨some 23, none, .prim (.bin false .mul (.tmp 22) (.const (Go.Value.int Go.IntKind.i64 2)))⟩,
      ⟨some 24, none, .prim (.bin false .add (.tmp 20) (.tmp 23))⟩,
      ⟨some 25, none, .prim (.bin false .sub (.tmp 24) (.const (Go.Value.int Go.IntKind.i64 1)))⟩,
      ⟨some 9, none, .prim (.mov (.tmp 25))⟩])
    (.block 0 (.loop [2, 3, 4, 5, 10, 11, 12, 13, 14, 15, 16, 17, 18, 19, 20, 21, 22, 23, 24, 25, 26, 27, 28, 29, 30, 31, 32, 33, 34, 35, 36, 37, 38, 39, 40, 41, 42, 43, 44, 45, 46, 47, 48, 49, 50, 51, 52, 53, 54, 55, 56, 57, 58, 59, 60, 61, 62, 63, 64] (.seq (.seq (.ops [⟨some 26, none, .prim (.mov (.tmp 9))⟩,
      ⟨some 27, none, .prim (.mov (.tmp 1))⟩,
      ⟨some 28, none, .prim (.mov (.tmp 6))⟩,
      ⟨some 29, none, .prim (.bin false .quo (.tmp 28) (.const (Go.Value.int Go.IntKind.i64 4)))⟩,
      ⟨some 30, none, .prim (.bin false .mul (.tmp 29) (.const (Go.Value.int Go.IntKind.i64 2)))⟩,
      ⟨some 31, none, .prim (.bin false .add (.tmp 27) (.tmp 30))⟩,
      ⟨some 32, none, .prim (.bin false .add (.tmp 31) (.const (Go.Value.int Go.IntKind.i64 1)))⟩,
      ⟨some 33, none, .prim (.bin false .leq (.tmp 26) (.tmp 32))⟩])
    (.cond (.tmp 33)
    .skip
    (.exit 0)))
    (.seq (.block 1 (.seq (.ops [⟨some 36, none, .call (.func 86) [(.tmp 7)]⟩,
      ⟨some 37, none, .prim (.mov (.tmp 8))⟩,
      ⟨some 38, none, .prim (.bin false .sub (.tmp 37) (.const (Go.Value.int Go.IntKind.u64 1)))⟩,
      ⟨some 39, none, .prim (.bin false .and (.tmp 36) (.tmp 38))⟩,
      ⟨some 40, none, .prim (.convi .i64 (.tmp 39))⟩,
      ⟨some 10, none, .prim (.mov (.tmp 40))⟩])
    (.seq (.seq (.ops [⟨some 41, none, .prim (.mov (.tmp 10))⟩,
      ⟨some 42, none, .prim (.mov (.tmp 6))⟩,
      ⟨some 43, none, .prim (.bin false .geq (.tmp 41) (.tmp 42))⟩])
    (.cond (.tmp 43)
    (.ops [⟨some 44, none, .prim (.mov (.tmp 10))⟩,
      ⟨some 45, none, .prim (.mov (.tmp 6))⟩,
      ⟨some 46, none, .prim (.bin false .sub (.tmp 44) (.tmp 45))⟩,
      ⟨some 10, none, .prim (.mov (.tmp 46))⟩])
    .skip))
    (.draw [⟨⟨some 47, none, .prim (.mov (.tmp 0))⟩, [], false, 0, 0⟩,
      ⟨⟨some 48, none, .prim (.mov (.tmp 9))⟩, [], false, 0, 0⟩,
      ⟨⟨some 49, none, .prim (.mov (.tmp 0))⟩, [], false, 0, 1⟩,
      ⟨⟨some 50, none, .prim (.mov (.tmp 1))⟩, [], false, 0, 1⟩,
      ⟨⟨some 51, none, .prim (.mov (.tmp 10))⟩, [], false, 0, 1⟩,
      ⟨⟨some 52, none, .prim (.bin false .add (.tmp 50) (.tmp 51))⟩, [3, 4], false, 0, 1⟩,
      ⟨⟨some 53, none, .prim (.mov (.tmp 0))⟩, [], false, 0, 0⟩,
      ⟨⟨some 54, none, .prim (.mov (.tmp 1))⟩, [], false, 0, 0⟩,
      ⟨⟨some 55, none, .prim (.mov (.tmp 10))⟩, [], false, 0, 0⟩,
      ⟨⟨some 56, none, .prim (.bin false .add (.tmp 54) (.tmp 55))⟩, [7, 8], false, 0, 0⟩,
      ⟨⟨some 57, none, .prim (.iadrs 1 (.tmp 53) (.tmp 56))⟩, [6, 7, 8, 9], false, 0, 0⟩,
      ⟨⟨some 58, none, .prim (.load 1 false (.tmp 57))⟩, [6, 7, 8, 9, 10], false, 0, 0⟩,
      ⟨⟨some 59, none, .prim (.mov (.tmp 0))⟩, [], false, 0, 0⟩,
      ⟨⟨some 60, none, .prim (.mov (.tmp 9))⟩, [], false, 0, 0⟩,
      ⟨⟨some 61, none, .prim (.iadrs 1 (.tmp 59) (.tmp 60))⟩, [12, 13], false, 0, 0⟩,
      ⟨⟨some 62, none, .prim (.load 1 false (.tmp 61))⟩, [12, 13, 14], false, 0, 0⟩,
      ⟨⟨some 63, none, .prim (.iadrs 1 (.tmp 47) (.tmp 48))⟩, [0, 1, 6, 7, 8, 9, 10, 11, 12, 13, 14, 15], false, 0, 0⟩,
      ⟨⟨none, none, .prim (.store 1 (.tmp 63) (.tmp 58))⟩, [0, 1, 6, 7, 8, 9, 10, 11, 12, 13, 14, 15, 16], true, 0, 0⟩,
      ⟨⟨some 64, none, .prim (.iadrs 1 (.tmp 49) (.tmp 52))⟩, [0, 1, 2, 3, 4, 5, 6, 7, 8, 9, 10, 11, 12, 13, 14, 15, 16, 17], false, 1, 1⟩,
      ⟨⟨none, none, .prim (.store 1 (.tmp 64) (.tmp 62))⟩, [0, 1, 2, 3, 4, 5, 6, 7, 8, 9, 10, 11, 12, 13, 14, 15, 16, 17, 18], true, 0, 0⟩]))))
    (.ops [⟨some 34, none, .prim (.mov (.tmp 9))⟩,
      ⟨some 35, none, .prim (.bin false .add (.tmp 34) (.const (Go.Value.int Go.IntKind.i64 1)))⟩,
      ⟨some 9, none, .prim (.mov (.tmp 35))⟩]))))))))
    .skip)))
def o71 : List Tmp := [7]
def r71 : List RV := []
theorem t71 : Text Tryz.prog 71 o71 c71 r71 65 := ⟨⟨Tryz.f71, _, by kernel_rfl, by kernel_rfl, rfl, by kernel_rfl, by kernel_rfl, rfl⟩, by kernel_rfl⟩

/-- slices.choosePivotOrdered[int] -/
def c72 : ACode :=
  (.seq (.ops [⟨some 6, none, .prim (.mov (.const (Go.Value.int Go.IntKind.i64 0)))⟩,
      ⟨some 7, none, .prim (.mov (.const (Go.Value.int Go.IntKind.i64 0)))⟩])
    (.seq (.ops [⟨some 13, none, .prim (.mov (.tmp 2))⟩,
      ⟨some 14, none, .prim (.mov (.tmp 1))⟩,
      ⟨some 15, none, .prim (.bin false .sub (.tmp 13) (.tmp 14))⟩,
      ⟨some 8, none, .prim (.mov (.tmp 15))⟩])
    (.seq (.ops [⟨some 9, none, .prim (.allocm [.pl (.int .i64 0)])⟩])
    (.seq (.ops [⟨some 16, none, .prim (.mov (.tmp 1))⟩,
      ⟨some 17, none, .prim (.mov (.tmp 8))⟩,
      ⟨some 18, none, .prim (.bin false .quo (.tmp 17) (.const (Go.Value.int Go.IntKind.i64 4)))⟩,
      ⟨some 19, none, .prim (.bin false .mul (.tmp 18) (.const (Go.Value.int Go.IntKind.i64 1)))⟩,
      ⟨some 20, none, .prim (.bin false .add (.tmp 16) (.tmp 19))⟩,
      ⟨some 10, none, .prim (.mov (.tmp 20))⟩])
    (.seq (.ops [⟨some 21, none, .prim (.mov (.tmp 1))⟩,
      ⟨some 22, none, .prim (.mov (.tmp 8))⟩,
      ⟨some 23, none, .prim (.bin false .quo (.tmp 22) (.const (Go.Value.int Go.IntKind.i64 4)))⟩,
      ⟨some 24, none, .prim (.bin false .mul (.tmp 23) (.const (Go.Value.int Go.IntKind.i64 2)))⟩,
      ⟨some 25, none, .prim (.bin false .add (.tmp 21) (.tmp 24))⟩,
      ⟨some 11, none, .prim (.mov (.tmp 25))⟩])
    (.seq (.ops [⟨some 26, none, .prim (.mov (.tmp 1))⟩,
      ⟨some 27, none, .prim (.mov (.tmp 8))⟩,
      ⟨some 28, none, .prim (.bin false .quo (.tmp 27) (.const (Go.Value.int Go.IntKind.i64 4)))⟩,
      ⟨some 29, none, .prim (.bin false .mul (.tmp 28) (.const (Go.Value.int Go.IntKind.i64 3)))⟩,
      ⟨some 30, none, .prim (.bin false .add (.tmp 26) (.tmp 29))⟩,
      ⟨some 12, none, .prim (.mov (.tmp 30))⟩])
    (.seq (.seq (.ops [⟨some 31, none, .prim (.mov (.tmp 8))⟩,
      ⟨some 32, none, .prim (.bin false .geq (.tmp 31) (.const (Go.Value.int Go.IntKind.i64 8)))⟩])
    (.cond (.tmp 32)
    (.seq (.seq (.ops [⟨some 33, none, .prim (.mov (.tmp 8))⟩,
      ⟨some 34, none, .prim (.bin false .geq (.tmp 33) (.const (Go.Value.int Go.IntKind.i64 50)))⟩])
    (.cond (.tmp 34)
    (.seq (.ops [⟨some 35, none, .prim (.mov (.tmp 0))⟩,
      ⟨some 36, none, .prim (.mov (.tmp 10))⟩,
      ⟨some 37, none, .call (.func 87) [(.tmp 35), (.tmp 36), (.tmp 9)]⟩,
      ⟨some 10, none, .prim (.mov (.tmp 37))⟩])
    (.seq (.ops [⟨some 38, none, .prim (.mov (.tmp 0))⟩,
      ⟨some 39, none, .prim (.mov (.tmp 11))⟩,
      ⟨some 40, none, .call (.func 87) [(.tmp 38), (.tmp 39), (.tmp 9)]⟩,
      ⟨some 11, none, .prim (.mov (.tmp 40))⟩])
    (.ops [⟨some 41, none, .prim (.mov (.tmp 0))⟩,
      ⟨some 42, none, .prim (.mov (.tmp 12))⟩,
      ⟨some 43, none, .call (.func 87) [(.tmp 41), (.tmp 42), (.tmp 9)]⟩,
      ⟨some 12, none, .prim (.mov (.tmp 43))⟩])))
    .skip))
    (.ops [⟨some 44, none, .prim (.mov (.tmp 0))⟩,
      ⟨some 45, none, .prim (.mov (.tmp 10))⟩,
      ⟨some 46, none, .prim (.mov (.tmp 11))⟩,
      ⟨some 47, none, .prim (.mov (.tmp 12))⟩,
      ⟨some 48, none, .call (.func 88) [(.tmp 44), (.tmp 45), (.tmp 46), (.tmp 47), (.tmp 9)]⟩,
      ⟨some 11, none, .prim (.mov (.tmp 48))⟩]))
    .skip))
    (.seq (.ops [⟨some 49, none, .prim (.load 1 false (.tmp 9))⟩])
    (.block 0 (.seq (.ops [⟨some 52, none, .prim (.bin false .eql (.tmp 49) (.const (Go.Value.int Go.IntKind.i64 0)))⟩,
      ⟨some 51, none, .prim (.mov (.tmp 52))⟩])
    (.cond (.tmp 51)
    (.seq (.ops [⟨some 53, none, .prim (.mov (.tmp 11))⟩,
      ⟨some 6, none, .prim (.mov (.tmp 53))⟩,
      ⟨some 7, none, .prim (.mov (.const (Go.Value.int Go.IntKind.i64 1)))⟩])
    .ret)
    (.seq (.ops [⟨some 55, none, .prim (.bin false .eql (.tmp 49) (.const (Go.Value.int Go.IntKind.i64 12)))⟩,
      ⟨some 54, none, .prim (.mov (.tmp 55))⟩])
    (.cond (.tmp 54)
    (.seq (.ops [⟨some 56, none, .prim (.mov (.tmp 11))⟩,
      ⟨some 6, none, .prim (.mov (.tmp 56))⟩,
      ⟨some 7, none, .prim (.mov (.const (Go.Value.int Go.IntKind.i64 2)))⟩])
    .ret)
    (.seq (.ops [⟨some 50, none, .prim (.mov (.tmp 11))⟩,
      ⟨some 6, none, .prim (.mov (.tmp 50))⟩,
      ⟨some 7, none, .prim (.mov (.const (Go.Value.int Go.IntKind.i64 0)))⟩])
    .ret))))))))))))))
def o72 : List Tmp := [9]
def r72 : List RV := [.tmp 6, .tmp 7]
theorem t72 : Text Tryz.prog 72 o72 c72 r72 57 := ⟨⟨Tryz.f72, _, by kernel_rfl, by kernel_rfl, rfl, by kernel_rfl, by kernel_rfl, rfl⟩, by kernel_rfl⟩

/-- slices.reverseRangeOrdered[int] -/
def c73 : ACode :=
  (.seq (.ops [⟨some 8, none, .prim (.mov (.tmp 1))⟩,
      ⟨some 6, none, .prim (.mov (.tmp 8))⟩])
    (.seq (.ops [⟨some 9, none, .prim (.mov (.tmp 2))⟩,
      ⟨some 10, none, .prim (.bin false .sub (.tmp 9) (.const (Go.Value.int Go.IntKind.i64 1)))⟩,
      ⟨some 7, none, .prim (.mov (.tmp 10))⟩])
    (.block 0 (.loop [1, 2, 3, 4, 5, 8, 9, 10, 11, 12, 13, 14, 15, 16, 17, 18, 19, 20, 21, 22, 23, 24, 25, 26, 27, 28, 29, 30, 31] (.seq (.seq (.ops [⟨some 11, none, .prim (.mov (.tmp 6))⟩,
      ⟨some 12, none, .prim (.mov (.tmp 7))⟩,
      ⟨some 13, none, .prim (.bin false .lss (.tmp 11) (.tmp 12))⟩])
    (.cond (.tmp 13)
    .skip
    (.exit 0)))
    (.block 1 (.seq (.draw [⟨⟨some 14, none, .prim (.mov (.tmp 0))⟩, [], false, 0, 0⟩,
      ⟨⟨some 15, none, .prim (.mov (.tmp 6))⟩, [], false, 0, 0⟩,
      ⟨⟨some 16, none, .prim (.mov (.tmp 0))⟩, [], false, 0, 1⟩,
      ⟨⟨some 17, none, .prim (.mov (.tmp 7))⟩, [], false, 0, 1⟩,
      ⟨⟨some 18, none, .prim (.mov (.tmp 0))⟩, [], false, 0, 0⟩,
      ⟨⟨some 19, none, .prim (.mov (.tmp 7))⟩, [], false, 0, 0⟩,
      ⟨⟨some 20, none, .prim (.iadrs 1 (.tmp 18) (.tmp 19))⟩, [4, 5], false, 0, 0⟩,
      ⟨⟨some 21, none, .prim (.load 1 false (.tmp 20))⟩, [4, 5, 6], false, 0, 0⟩,
      ⟨⟨some 22, none, .prim (.mov (.tmp 0))⟩, [], false, 0, 0⟩,
      ⟨⟨some 23, none, .prim (.mov (.tmp 6))⟩, [], false, 0, 0⟩,
      ⟨⟨some 24, none, .prim (.iadrs 1 (.tmp 22) (.tmp 23))⟩, [8, 9], false, 0, 0⟩,
      ⟨⟨some 25, none, .prim (.load 1 false (.tmp 24))⟩, [8, 9, 10], false, 0, 0⟩,
      ⟨⟨some 26, none, .prim (.iadrs 1 (.tmp 14) (.tmp 15))⟩, [0, 1, 4, 5, 6, 7, 8, 9, 10, 11], false, 0, 0⟩,
      ⟨⟨none, none, .prim (.store 1 (.tmp 26) (.tmp 21))⟩, [0, 1, 4, 5, 6, 7, 8, 9, 10, 11, 12], true, 0, 0⟩,
      ⟨⟨some 27, none, .prim (.iadrs 1 (.tmp 16) (.tmp 17))⟩, [0, 1, 2, 3, 4, 5, 6, 7, 8, 9, 10, 11, 12, 13], false, 1, 1⟩,
      ⟨⟨none, none, .prim (.store 1 (.tmp 27) (.tmp 25))⟩, [0, 1, 2, 3, 4, 5, 6, 7, 8, 9, 10, 11, 12, 13, 14], true, 0, 0⟩])
    (.seq (.ops [⟨some 28, none, .prim (.mov (.tmp 6))⟩,
      ⟨some 29, none, .prim (.bin false .add (.tmp 28) (.const (Go.Value.int Go.IntKind.i64 1)))⟩,
      ⟨some 6, none, .prim (.mov (.tmp 29))⟩])
    (.ops [⟨some 30, none, .prim (.mov (.tmp 7))⟩,
      ⟨some 31, none, .prim (.bin false .sub (.tmp 30) (.const (Go.Value.int Go.IntKind.i64 1)))⟩,
      ⟨some 7, none, .prim (.mov (.tmp 31))⟩])))))))))
def o73 : List Tmp := []
def r73 : List RV := []
theorem t73 : Text Tryz.prog 73 o73 c73 r73 32 := ⟨⟨Tryz.f73, _, by kernel_rfl, by kernel_rfl, rfl, by kernel_rfl, by kernel_rfl, rfl⟩, by kernel_rfl⟩

/-- slices.partialInsertionSortOrdered[int] -/
def c74 : ACode :=
  (.seq (.ops [⟨some 6, none, .prim (.mov (.const (Go.Value.bool Bool.false)))⟩])
    (.seq (.ops [⟨some 11, none, .prim (.mov (.tmp 1))⟩,
      ⟨some 12, none, .prim (.bin false .add (.tmp 11) (.const (Go.Value.int Go.IntKind.i64 1)))⟩,
      ⟨some 7, none, .prim (.mov (.tmp 12))⟩])
    (.seq (.seq (.ops [⟨some 8, none, .prim (.mov (.const (Go.Value.int Go.IntKind.i64 0)))⟩])
    (.block 0 (.loop [3, 4, 5, 6, 9, 10, 11, 12, 13, 14, 15, 16, 17, 18, 19, 20, 21, 22, 23, 24, 25, 26, 27, 28, 29, 30, 31, 32, 33, 34, 35, 36, 37, 38, 39, 40, 41, 42, 43, 44, 45, 46, 47, 48, 49, 50, 51, 52, 53, 54, 55, 56, 57, 58, 59, 60, 61, 62, 63, 64, 65, 66, 67, 68, 69, 70, 71, 72, 73, 74, 75, 76, 77, 78, 79, 80, 81, 82, 83, 84, 85, 86, 87, 88, 89, 90, 91, 92, 93, 94, 95, 96, 97, 98, 99, 100, 101, 102, 103, 104, 105, 106, 107, 108, 109, 110, 111, 112, 113, 114, 115, 116, 117, 118, 119, 120, 121, 122, 123, 124, 125, 126, 127, 128, 129, 130, 131, 132] (.seq (.seq (.ops [⟨some 13, none, .prim (.mov (.tmp 8))⟩,
      ⟨some 14, none, .prim (.bin false .lss (.tmp 13) (.const (Go.Value.int Go.IntKind.i64 5)))⟩])
    (.cond (.tmp 14)
    .skip
    (.exit 0)))
    (.seq (.block 1 (.seq (.block 2 (.loop [3, 4, 5, 6, 9, 10, 11, 12, 13, 14, 15, 16, 17, 18, 19, 20, 21, 22, 23, 24, 25, 26, 27, 28, 29, 30, 31, 32, 33, 34, 35, 36, 37, 38, 39, 40, 41, 42, 43, 44, 45, 46, 47, 48, 49, 50, 51, 52, 53, 54, 55, 56, 57, 58, 59, 60, 61, 62, 63, 64, 65, 66, 67, 68, 69, 70, 71, 72, 73, 74, 75, 76, 77, 78, 79, 80, 81, 82, 83, 84, 85, 86, 87, 88, 89, 90, 91, 92, 93, 94, 95, 96, 97, 98, 99, 100, 101, 102, 103, 104, 105, 106, 107, 108, 109, 110, 111, 112, 113, 114, 115, 116, 117, 118, 119, 120, 121, 122, 123, 124, 125, 126, 127, 128, 129, 130, 131, 132] (.seq (.seq (.draw [⟨⟨some 17, none, .prim (.mov (.tmp 7))⟩, [], false, 0, 0⟩,
      ⟨⟨some 18, none, .prim (.mov (.tmp 2))⟩, [], false, 0, 0⟩,
      ⟨⟨some 19, none, .prim (.bin false .lss (.tmp 17) (.tmp 18))⟩, [0, 1], false, 0, 0⟩,
      ⟨⟨some 20, none, .prim (.mov (.tmp 19))⟩, [0, 1, 2], false, 0, 0⟩,
      ⟨⟨some 21, (some (20, true)), .prim (.mov (.tmp 0))⟩, [0, 1, 2, 3], false, 0, 0⟩,
      ⟨⟨some 22, (some (20, true)), .prim (.mov (.tmp 7))⟩, [0, 1, 2, 3], false, 0, 0⟩,
      ⟨⟨some 23, (some (20, true)), .prim (.iadrs 1 (.tmp 21) (.tmp 22))⟩, [0, 1, 2, 3, 4, 5], false, 0, 0⟩,
      ⟨⟨some 24, (some (20, true)), .prim (.load 1 false (.tmp 23))⟩, [0, 1, 2, 3, 4, 5, 6], false, 0, 0⟩,
      ⟨⟨some 25, (some (20, true)), .prim (.mov (.tmp 0))⟩, [0, 1, 2, 3], false, 0, 0⟩,
      ⟨⟨some 26, (some (20, true)), .prim (.mov (.tmp 7))⟩, [0, 1, 2, 3], false, 0, 0⟩,
      ⟨⟨some 27, (some (20, true)), .prim (.bin false .sub (.tmp 26) (.const (Go.Value.int Go.IntKind.i64 1)))⟩, [0, 1, 2, 3, 9], false, 0, 0⟩,
      ⟨⟨some 28, (some (20, true)), .prim (.iadrs 1 (.tmp 25) (.tmp 27))⟩, [0, 1, 2, 3, 8, 9, 10], false, 0, 0⟩,
      ⟨⟨some 29, (some (20, true)), .prim (.load 1 false (.tmp 28))⟩, [0, 1, 2, 3, 8, 9, 10, 11], false, 0, 0⟩,
      ⟨⟨some 30, (some (20, true)), .call (.func 75) [(.tmp 24), (.tmp 29)]⟩, [0, 1, 2, 3, 4, 5, 6, 7, 8, 9, 10, 11, 12], true, 0, 0⟩,
      ⟨⟨some 31, (some (20, true)), .prim (.un .not (.tmp 30))⟩, [0, 1, 2, 3, 4, 5, 6, 7, 8, 9, 10, 11, 12, 13], false, 1, 1⟩,
      ⟨⟨some 32, none, .prim (.pick (.tmp 20) (.tmp 31) (.const (Go.Value.bool Bool.false)))⟩, [0, 1, 2, 3, 4, 5, 6, 7, 8, 9, 10, 11, 12, 13, 14], false, 1, 1⟩])
    (.cond (.tmp 32)
    .skip
    (.exit 2)))
    (.block 3 (.ops [⟨some 33, none, .prim (.mov (.tmp 7))⟩,
      ⟨some 34, none, .prim (.bin false .add (.tmp 33) (.const (Go.Value.int Go.IntKind.i64 1)))⟩,
      ⟨some 7, none, .prim (.mov (.tmp 34))⟩])))))
    (.seq (.seq (.ops [⟨some 35, none, .prim (.mov (.tmp 7))⟩,
      ⟨some 36, none, .prim (.mov (.tmp 2))⟩,
      ⟨some 37, none, .prim (.bin false .eql (.tmp 35) (.tmp 36))⟩])
    (.cond (.tmp 37)
    (.seq (.ops [⟨some 6, none, .prim (.mov (.const (Go.Value.bool Bool.true)))⟩])
    .ret)
    .skip))
    (.seq (.seq (.ops [⟨some 38, none, .prim (.mov (.tmp 2))⟩,
      ⟨some 39, none, .prim (.mov (.tmp 1))⟩,
      ⟨some 40, none, .prim (.bin false .sub (.tmp 38) (.tmp 39))⟩,
      ⟨some 41, none, .prim (.bin false .lss (.tmp 40) (.const (Go.Value.int Go.IntKind.i64 50)))⟩])
    (.cond (.tmp 41)
    (.seq (.ops [⟨some 6, none, .prim (.mov (.const (Go.Value.bool Bool.false)))⟩])
    .ret)
    .skip))
    (.seq (.draw [⟨⟨some 42, none, .prim (.mov (.tmp 0))⟩, [], false, 0, 0⟩,
      ⟨⟨some 43, none, .prim (.mov (.tmp 7))⟩, [], false, 0, 0⟩,
      ⟨⟨some 44, none, .prim (.mov (.tmp 0))⟩, [], false, 0, 1⟩,
      ⟨⟨some 45, none, .prim (.mov (.tmp 7))⟩, [], false, 0, 1⟩,
      ⟨⟨some 46, none, .prim (.bin false .sub (.tmp 45) (.const (Go.Value.int Go.IntKind.i64 1)))⟩, [3], false, 0, 1⟩,
      ⟨⟨some 47, none, .prim (.mov (.tmp 0))⟩, [], false, 0, 0⟩,
      ⟨⟨some 48, none, .prim (.mov (.tmp 7))⟩, [], false, 0, 0⟩,
      ⟨⟨some 49, none, .prim (.bin false .sub (.tmp 48) (.const (Go.Value.int Go.IntKind.i64 1)))⟩, [6], false, 0, 0⟩,
      ⟨⟨some 50, none, .prim (.iadrs 1 (.tmp 47) (.tmp 49))⟩, [5, 6, 7], false, 0, 0⟩,
      ⟨⟨some 51, none, .prim (.load 1 false (.tmp 50))⟩, [5, 6, 7, 8], false, 0, 0⟩,
      ⟨⟨some 52, none, .prim (.mov (.tmp 0))⟩, [], false, 0, 0⟩,
      ⟨⟨some 53, none, .prim (.mov (.tmp 7))⟩, [], false, 0, 0⟩,
      ⟨⟨some 54, none, .prim (.iadrs 1 (.tmp 52) (.tmp 53))⟩, [10, 11], false, 0, 0⟩,
      ⟨⟨some 55, none, .prim (.load 1 false (.tmp 54))⟩, [10, 11, 12], false, 0, 0⟩,
      ⟨⟨some 56, none, .prim (.iadrs 1 (.tmp 42) (.tmp 43))⟩, [0, 1, 5, 6, 7, 8, 9, 10, 11, 12, 13], false, 0, 0⟩,
      ⟨⟨none, none, .prim (.store 1 (.tmp 56) (.tmp 51))⟩, [0, 1, 5, 6, 7, 8, 9, 10, 11, 12, 13, 14], true, 0, 0⟩,
      ⟨⟨some 57, none, .prim (.iadrs 1 (.tmp 44) (.tmp 46))⟩, [0, 1, 2, 3, 4, 5, 6, 7, 8, 9, 10, 11, 12, 13, 14, 15], false, 1, 1⟩,
      ⟨⟨none, none, .prim (.store 1 (.tmp 57) (.tmp 55))⟩, [0, 1, 2, 3, 4, 5, 6, 7, 8, 9, 10, 11, 12, 13, 14, 15, 16], true, 0, 0⟩])
    (.seq (.seq (.ops [⟨some 58, none, .prim (.mov (.tmp 7))⟩,
      ⟨some 59, none, .prim (.mov (.tmp 1))⟩,
      ⟨some 60, none, .prim (.bin false .sub (.tmp 58) (.tmp 59))⟩,
      ⟨some 61, none, .prim (.bin false .geq (.tmp 60) (.const (Go.Value.int Go.IntKind.i64 2)))⟩])
    (.cond (.tmp 61)
    (.seq (.ops [⟨some 62, none, .prim (.mov (.tmp 7))⟩,
      ⟨some 63, none, .prim (.bin false .sub (.tmp 62) (.const (Go.Value.int Go.IntKind.i64 1)))⟩,
      ⟨some 9, none, .prim (.mov (.tmp 63))⟩])
    (.block 4 (.loop [3, 4, 5, 6, 10, 11, 12, 13, 14, 15, 16, 17, 18, 19, 20, 21, 22, 23, 24, 25, 26, 27, 28, 29, 30, 31, 32, 33, 34, 35, 36, 37, 38, 39, 40, 41, 42, 43, 44, 45, 46, 47, 48, 49, 50, 51, 52, 53, 54, 55, 56, 57, 58, 59, 60, 61, 62, 63, 64, 65, 66, 67, 68, 69, 70, 71, 72, 73, 74, 75, 76, 77, 78, 79, 80, 81, 82, 83, 84, 85, 86, 87, 88, 89, 90, 91, 92, 93, 94, 95, 96, 97, 98, 99, 100, 101, 102, 103, 104, 105, 106, 107, 108, 109, 110, 111, 112, 113, 114, 115, 116, 117, 118, 119, 120, 121, 122, 123, 124, 125, 126, 127, 128, 129, 130, 131, 132] (.seq (.seq (.ops [⟨some 64, none, .prim (.mov (.tmp 9))⟩,
      ⟨some 65, none, .prim (.bin false .geq (.tmp 64) (.const (Go.Value.int Go.IntKind.i64 1)))⟩])
    (.cond (.tmp 65)
    .skip
    (.exit 4)))
    (.seq (.block 5 (.seq (.seq (.draw [⟨⟨some 68, none, .prim (.mov (.tmp 0))⟩, [], false, 0, 0⟩,
      ⟨⟨some 69, none, .prim (.mov (.tmp 9))⟩, [], false, 0, 0⟩,
      ⟨⟨some 70, none, .prim (.iadrs 1 (.tmp 68) (.tmp 69))⟩, [0, 1], false, 0, 0⟩,
      ⟨⟨some 71, none, .prim (.load 1 false (.tmp 70))⟩, [0, 1, 2], false, 0, 0⟩,
      ⟨⟨some 72, none, .prim (.mov (.tmp 0))⟩, [], false, 0, 0⟩,
      ⟨⟨some 73, none, .prim (.mov (.tmp 9))⟩, [], false, 0, 0⟩,
      ⟨⟨some 74, none, .prim (.bin false .sub (.tmp 73) (.const (Go.Value.int Go.IntKind.i64 1)))⟩, [5], false, 0, 0⟩,
      ⟨⟨some 75, none, .prim (.iadrs 1 (.tmp 72) (.tmp 74))⟩, [4, 5, 6], false, 0, 0⟩,
      ⟨⟨some 76, none, .prim (.load 1 false (.tmp 75))⟩, [4, 5, 6, 7], false, 0, 0⟩,
      ⟨⟨some 77, none, .call (.func 75) [(.tmp 71), (.tmp 76)]⟩, [0, 1, 2, 3, 4, 5, 6, 7, 8], true, 0, 0⟩,
      ⟨⟨some 78, none, .prim (.un .not (.tmp 77))⟩, [0, 1, 2, 3, 4, 5, 6, 7, 8, 9], false, 1, 1⟩])
    (.cond (.tmp 78)
    (.exit 4)
    .skip))
    (.draw [⟨⟨some 79, none, .prim (.mov (.tmp 0))⟩, [], false, 0, 0⟩,
      ⟨⟨some 80, none, .prim (.mov (.tmp 9))⟩, [], false, 0, 0⟩,
      ⟨⟨some 81, none, .prim (.mov (.tmp 0))⟩, [], false, 0, 1⟩,
      ⟨⟨some 82, none, .prim (.mov (.tmp 9))⟩, [], false, 0, 1⟩,
      ⟨⟨some 83, none, .prim (.bin false .sub (.tmp 82) (.const (Go.Value.int Go.IntKind.i64 1)))⟩, [3], false, 0, 1⟩,
      ⟨⟨some 84, none, .prim (.mov (.tmp 0))⟩, [], false, 0, 0⟩,
      ⟨⟨some 85, none, .prim (.mov (.tmp 9))⟩, [], false, 0, 0⟩,
      ⟨⟨some 86, none, .prim (.bin false .sub (.tmp 85) (.const (Go.Value.int Go.IntKind.i64 1)))⟩, [6], false, 0, 0⟩,
      ⟨⟨some 87, none, .prim (.iadrs 1 (.tmp 84) (.tmp 86))⟩, [5, 6, 7], false, 0, 0⟩,
      ⟨⟨some 88, none, .prim (.load 1 false (.tmp 87))⟩, [5, 6, 7, 8], false, 0, 0⟩,
      ⟨⟨some 89, none, .prim (.mov (.tmp 0))⟩, [], false, 0, 0⟩,
      ⟨⟨some 90, none, .prim (.mov (.tmp 9))⟩, [], false, 0, 0⟩,
      ⟨⟨some 91, none, .prim (.iadrs 1 (.tmp 89) (.tmp 90))⟩, [10, 11], false, 0, 0⟩,
      ⟨⟨some 92, none, .prim (.load 1 false (.tmp 91))⟩, [10, 11, 12], false, 0, 0⟩,
      ⟨⟨some 93, none, .prim (.iadrs 1 (.tmp 79) (.tmp 80))⟩, [0, 1, 5, 6, 7, 8, 9, 10, 11, 12, 13], false, 0, 0⟩,
      ⟨⟨none, none, .prim (.store 1 (.tmp 93) (.tmp 88))⟩, [0, 1, 5, 6, 7, 8, 9, 10, 11, 12, 13, 14], true, 0, 0⟩,
      ⟨⟨some 94, none, .prim (.iadrs 1 (.tmp 81) (.tmp 83))⟩, [0, 1, 2, 3, 4, 5, 6, 7, 8, 9, 10, 11, 12, 13, 14, 15], false, 1, 1⟩,
      ⟨⟨none, none, .prim (.store 1 (.tmp 94) (.tmp 92))⟩, [0, 1, 2, 3, 4, 5, 6, 7, 8, 9, 10, 11, 12, 13, 14, 15, 16], true, 0, 0⟩])))
    (.ops [⟨some 66, none, .prim (.mov (.tmp 9))⟩,
      ⟨some 67, none, .prim (.bin false .sub (.tmp 66) (.const (Go.Value.int Go.IntKind.i64 1)))⟩,
      ⟨some 9, none, .prim (.mov (.tmp 67))⟩]))))))
    .skip))
    (.seq (.ops [⟨some 95, none, .prim (.mov (.tmp 2))⟩,
      ⟨some 96, none, .prim (.mov (.tmp 7))⟩,
      ⟨some 97, none, .prim (.bin false .sub (.tmp 95) (.tmp 96))⟩,
      ⟨some 98, none, .prim (.bin false .geq (.tmp 97) (.const (Go.Value.int Go.IntKind.i64 2)))⟩])
    (.cond (.tmp 98)
    (.seq (.ops [⟨some 99, none, .prim (.mov (.tmp 7))⟩,
      ⟨some 100, none, .prim (.bin false .add (.tmp 99) (.const (Go.Value.int Go.IntKind.i64 1)))⟩,
      ⟨some 10, none, .prim (.mov (.tmp 100))⟩])
    (.block 6 (.loop [3, 4, 5, 6, 9, 11, 12, 13, 14, 15, 16, 17, 18, 19, 20, 21, 22, 23, 24, 25, 26, 27, 28, 29, 30, 31, 32, 33, 34, 35, 36, 37, 38, 39, 40, 41, 42, 43, 44, 45, 46, 47, 48, 49, 50, 51, 52, 53, 54, 55, 56, 57, 58, 59, 60, 61, 62, 63, 64, 65, 66, 67, 68, 69, 70, 71, 72, 73, 74, 75, 76, 77, 78, 79, 80, 81, 82, 83, 84, 85, 86, 87, 88, 89, 90, 91, 92, 93, 94, 95, 96, 97, 98, 99, 100, 101, 102, 103, 104, 105, 106, 107, 108, 109, 110, 111, 112, 113, 114, 115, 116, 117, 118, 119, 120, 121, 122, 123, 124, 125, 126, 127, 128, 129, 130, 131, 132] (.seq (.seq (.ops [⟨some 101, none, .prim (.mov (.tmp 10))⟩,
      ⟨some 102, none, .prim (.mov (.tmp 2))⟩,
      ⟨some 103, none, .prim (.bin false .lss (.tmp 101) (.tmp 102))⟩])
    (.cond (.tmp 103)
    .skip
    (.exit 6)))
    (.seq (.block 7 (.seq (.seq (.draw [⟨⟨some 106, none, .prim (.mov (.tmp 0))⟩, [], false, 0, 0⟩,
      ⟨⟨some 107, none, .prim (.mov (.tmp 10))⟩, [], false, 0, 0⟩,
      ⟨⟨some 108, none, .prim (.iadrs 1 (.tmp 106) (.tmp 107))⟩, [0, 1], false, 0, 0⟩,
      ⟨⟨some 109, none, .prim (.load 1 false (.tmp 108))⟩, [0, 1, 2], false, 0, 0⟩,
      ⟨⟨some 110, none, .prim (.mov (.tmp 0))⟩, [], false, 0, 0⟩,
      ⟨⟨some 111, none, .prim (.mov (.tmp 10))⟩, [], false, 0, 0⟩,
      ⟨⟨some 112, none, .prim (.bin false .sub (.tmp 111) (.const (Go.Value.int Go.IntKind.i64 1)))⟩, [5], false, 0, 0⟩,
      ⟨⟨some 113, none, .prim (.iadrs 1 (.tmp 110) (.tmp 112))⟩, [4, 5, 6], false, 0, 0⟩,
      ⟨⟨some 114, none, .prim (.load 1 false (.tmp 113))⟩, [4, 5, 6, 7], false, 0, 0⟩,
      ⟨⟨some 115, none, .call (.func 75) [(.tmp 109), (.tmp 114)]⟩, [0, 1, 2, 3, 4, 5, 6, 7, 8], true, 0, 0⟩,
      ⟨⟨some 116, none, .prim (.un .not (.tmp 115))⟩, [0, 1, 2, 3, 4, 5, 6, 7, 8, 9], false, 1, 1⟩])
    (.cond (.tmp 116)
    (.exit 6)
    .skip))
    (.draw [⟨⟨some 117, none, .prim (.mov (.tmp 0))⟩, [], false, 0, 0⟩,
      ⟨⟨some 118, none, .prim (.mov (.tmp 10))⟩, [], false, 0, 0⟩,
      ⟨⟨some 119, none, .prim (.mov (.tmp 0))⟩, [], false, 0, 1⟩,
      ⟨⟨some 120, none, .prim (.mov (.tmp 10))⟩, [], false, 0, 1⟩,
      ⟨⟨some 121, none, .prim (.bin false .sub (.tmp 120) (.const (Go.Value.int Go.IntKind.i64 1)))⟩, [3], false, 0, 1⟩,
      ⟨⟨some 122, none, .prim (.mov (.tmp 0))⟩, [], false, 0, 0⟩,
      ⟨⟨some 123, none, .prim (.mov (.tmp 10))⟩, [], false, 0, 0⟩,
      ⟨⟨some 124, none, .prim (.bin false .sub (.tmp 123) (.const (Go.Value.int Go.IntKind.i64 1)))⟩, [6], false, 0, 0⟩,
      ⟨⟨some 125, none, .prim (.iadrs 1 (.tmp 122) (.tmp 124))⟩, [5, 6, 7], false, 0, 0⟩,
      ⟨⟨some 126, none, .prim (.load 1 false (.tmp 125))⟩, [5, 6, 7, 8], false, 0, 0⟩,
      ⟨⟨some 127, none, .prim (.mov (.tmp 0))⟩, [], false, 0, 0⟩,
      ⟨⟨some 128, none, .prim (.mov (.tmp 10))⟩, [], false, 0, 0⟩,
      ⟨⟨some 129, none, .prim (.iadrs 1 (.tmp 127) (.tmp 128))⟩, [10, 11], false, 0, 0⟩,
      ⟨⟨some 130, none, .prim (.load 1 false (.tmp 129))⟩, [10, 11, 12], false, 0, 0⟩,
      ⟨⟨some 131, none, .prim (.iadrs 1 (.tmp 117) (.tmp 118))⟩, [0, 1, 5, 6, 7, 8, 9, 10, 11, 12, 13], false, 0, 0⟩,
      ⟨⟨none, none, .prim (.store 1 (.tmp 131) (.tmp 126))⟩, [0, 1, 5, 6, 7, 8, 9, 10, 11, 12, 13, 14], true, 0, 0⟩,
      ⟨⟨some 132, none, .prim (.iadrs 1 (.tmp 119) (.tmp 121))⟩, [0, 1, 2, 3, 4, 5, 6, 7, 8, 9, 10, 11, 12, 13, 14, 15], false, 1, 1⟩,
      ⟨⟨none, none, .prim (.store 1 (.tmp 132) (.tmp 130))⟩, [0, 1, 2, 3, 4, 5, 6, 7, 8, 9, 10, 11, 12, 13, 14, 15, 16], true, 0, 0⟩])))
    (.ops [⟨some 104, none, .prim (.mov (.tmp 10))⟩,
      ⟨some 105, none, .prim (.bin false .add (.tmp 104) (.const (Go.Value.int Go.IntKind.i64 1)))⟩,
      ⟨some 10, none, .prim (.mov (.tmp 105))⟩]))))))
    .skip))))))))
    (.ops [⟨some 15, none, .prim (.mov (.tmp 8))⟩,
      ⟨some 16, none, .prim (.bin false .add (.tmp 15) (.const (Go.Value.int Go.IntKind.i64 1)))⟩,
      ⟨some 8, none, .prim (.mov (.tmp 16))⟩]))))))
    (.seq (.ops [⟨some 6, none, .prim (.mov (.const (Go.Value.bool Bool.false)))⟩])
    .ret))))
def o74 : List Tmp := []
def r74 : List RV := [.tmp 6]
theorem t74 : Text Tryz.prog 74 o74 c74 r74 133 := ⟨⟨Tryz.f74, _, by kernel_rfl, by kernel_rfl, rfl, by kernel_rfl, by kernel_rfl, rfl⟩, by kernel_rfl⟩

/-- cmp.Less[int] -/
def c75 : ACode :=
  (.seq (.ops [⟨some 4, none, .prim (.mov (.const (Go.Value.bool Bool.false)))⟩])
    (.seq (.ops [⟨some 5, none, .prim (.mov (.tmp 0))⟩,
      ⟨some 6, none, .call (.func 83) [(.tmp 5)]⟩,
      ⟨some 7, none, .prim (.mov (.tmp 6))⟩,
      ⟨some 8, (some (7, true)), .prim (.mov (.tmp 1))⟩,
      ⟨some 9, (some (7, true)), .call (.func 83) [(.tmp 8)]⟩,
      ⟨some 10, (some (7, true)), .prim (.un .not (.tmp 9))⟩,
      ⟨some 11, none, .prim (.pick (.tmp 7) (.tmp 10) (.const (Go.Value.bool Bool.false)))⟩,
      ⟨some 12, none, .prim (.mov (.tmp 11))⟩,
      ⟨some 13, (some (12, false)), .prim (.mov (.tmp 0))⟩,
      ⟨some 14, (some (12, false)), .prim (.mov (.tmp 1))⟩,
      ⟨some 15, (some (12, false)), .prim (.bin false .lss (.tmp 13) (.tmp 14))⟩,
      ⟨some 16, none, .prim (.pick (.tmp 12) (.const (Go.Value.bool Bool.true)) (.tmp 15))⟩,
      ⟨some 4, none, .prim (.mov (.tmp 16))⟩])
    .ret))
def o75 : List Tmp := []
def r75 : List RV := [.tmp 4]
theorem t75 : Text Tryz.prog 75 o75 c75 r75 17 := ⟨⟨Tryz.f75, _, by kernel_rfl, by kernel_rfl, rfl, by kernel_rfl, by kernel_rfl, rfl⟩, by kernel_rfl⟩

/-- slices.partitionEqualOrdered[int] -/
def c76 : ACode :=
  (.seq (.ops [⟨some 8, none, .prim (.mov (.const (Go.Value.int Go.IntKind.i64 0)))⟩])
    (.seq (.draw [⟨⟨some 11, none, .prim (.mov (.tmp 0))⟩, [], false, 0, 0⟩,
      ⟨⟨some 12, none, .prim (.mov (.tmp 1))⟩, [], false, 0, 0⟩,
      ⟨⟨some 13, none, .prim (.mov (.tmp 0))⟩, [], false, 0, 1⟩,
      ⟨⟨some 14, none, .prim (.mov (.tmp 3))⟩, [], false, 0, 1⟩,
      ⟨⟨some 15, none, .prim (.mov (.tmp 0))⟩, [], false, 0, 0⟩,
      ⟨⟨some 16, none, .prim (.mov (.tmp 3))⟩, [], false, 0, 0⟩,
      ⟨⟨some 17, none, .prim (.iadrs 1 (.tmp 15) (.tmp 16))⟩, [4, 5], false, 0, 0⟩,
      ⟨⟨some 18, none, .prim (.load 1 false (.tmp 17))⟩, [4, 5, 6], false, 0, 0⟩,
      ⟨⟨some 19, none, .prim (.mov (.tmp 0))⟩, [], false, 0, 0⟩,
      ⟨⟨some 20, none, .prim (.mov (.tmp 1))⟩, [], false, 0, 0⟩,
      ⟨⟨some 21, none, .prim (.iadrs 1 (.tmp 19) (.tmp 20))⟩, [8, 9], false, 0, 0⟩,
      ⟨⟨some 22, none, .prim (.load 1 false (.tmp 21))⟩, [8, 9, 10], false, 0, 0⟩,
      ⟨⟨some 23, none, .prim (.iadrs 1 (.tmp 11) (.tmp 12))⟩, [0, 1, 4, 5, 6, 7, 8, 9, 10, 11], false, 0, 0⟩,
      ⟨⟨none, none, .prim (.store 1 (.tmp 23) (.tmp 18))⟩, [0, 1, 4, 5, 6, 7, 8, 9, 10, 11, 12], true, 0, 0⟩,
      ⟨⟨some 24, none, .prim (.iadrs 1 (.tmp 13) (.tmp 14))⟩, [0, 1, 2, 3, 4, 5, 6, 7, 8, 9, 10, 11, 12, 13], false, 1, 1⟩,
      ⟨⟨none, none, .prim (.store 1 (.tmp 24) (.tmp 22))⟩, [0, 1, 2, 3, 4, 5, 6, 7, 8, 9, 10, 11, 12, 13, 14], true, 0, 0⟩])
    (.seq (.ops [⟨some 25, none, .prim (.mov (.tmp 1))⟩,
      ⟨some 26, none, .prim (.bin false .add (.tmp 25) (.const (Go.Value.int Go.IntKind.i64 1)))⟩,
      ⟨some 27, none, .prim (.mov (.tmp 2))⟩,
      ⟨some 28, none, .prim (.bin false .sub (.tmp 27) (.const (Go.Value.int Go.IntKind.i64 1)))⟩,
      ⟨some 9, none, .prim (.mov (.tmp 26))⟩,
      ⟨some 10, none, .prim (.mov (.tmp 28))⟩])
    (.seq (.block 0 (.loop [2, 3, 4, 5, 6, 7, 8, 11, 12, 13, 14, 15, 16, 17, 18, 19, 20, 21, 22, 23, 24, 25, 26, 27, 28, 29, 30, 31, 32, 33, 34, 35, 36, 37, 38, 39, 40, 41, 42, 43, 44, 45, 46, 47, 48, 49, 50, 51, 52, 53, 54, 55, 56, 57, 58, 59, 60, 61, 62, 63, 64, 65, 66, 67, 68, 69, 70, 71, 72, 73, 74, 75, 76, 77, 78, 79, 80, 81, 82, 83] (.block 1 (.seq (.block 2 (.loop [2, 3, 4, 5, 6, 7, 8, 11, 12, 13, 14, 15, 16, 17, 18, 19, 20, 21, 22, 23, 24, 25, 26, 27, 28, 29, 30, 31, 32, 33, 34, 35, 36, 37, 38, 39, 40, 41, 42, 43, 44, 45, 46, 47, 48, 49, 50, 51, 52, 53, 54, 55, 56, 57, 58, 59, 60, 61, 62, 63, 64, 65, 66, 67, 68, 69, 70, 71, 72, 73, 74, 75, 76, 77, 78, 79, 80, 81, 82, 83] (.seq (.seq (.draw [⟨⟨some 29, none, .prim (.mov (.tmp 9))⟩, [], false, 0, 0⟩,
      ⟨⟨some 30, none, .prim (.mov (.tmp 10))⟩, [], false, 0, 0⟩,
      ⟨⟨some 31, none, .prim (.bin false .leq (.tmp 29) (.tmp 30))⟩, [0, 1], false, 0, 0⟩,
      ⟨⟨some 32, none, .prim (.mov (.tmp 31))⟩, [0, 1, 2], false, 0, 0⟩,
      ⟨⟨some 33, (some (32, true)), .prim (.mov (.tmp 0))⟩, [0, 1, 2, 3], false, 0, 0⟩,
      ⟨⟨some 34, (some (32, true)), .prim (.mov (.tmp 1))⟩, [0, 1, 2, 3], false, 0, 0⟩,
      ⟨⟨some 35, (some (32, true)), .prim (.iadrs 1 (.tmp 33) (.tmp 34))⟩, [0, 1, 2, 3, 4, 5], false, 0, 0⟩,
      ⟨⟨some 36, (some (32, true)), .prim (.load 1 false (.tmp 35))⟩, [0, 1, 2, 3, 4, 5, 6], false, 0, 0⟩,
      ⟨⟨some 37, (some (32, true)), .prim (.mov (.tmp 0))⟩, [0, 1, 2, 3], false, 0, 0⟩,
      ⟨⟨some 38, (some (32, true)), .prim (.mov (.tmp 9))⟩, [0, 1, 2, 3], false, 0, 0⟩,
      ⟨⟨some 39, (some (32, true)), .prim (.iadrs 1 (.tmp 37) (.tmp 38))⟩, [0, 1, 2, 3, 8, 9], false, 0, 0⟩,
      ⟨⟨some 40, (some (32, true)), .prim (.load 1 false (.tmp 39))⟩, [0, 1, 2, 3, 8, 9, 10], false, 0, 0⟩,
      ⟨⟨some 41, (some (32, true)), .call (.func 75) [(.tmp 36), (.tmp 40)]⟩, [0, 1, 2, 3, 4, 5, 6, 7, 8, 9, 10, 11], true, 0, 0⟩,
      ⟨⟨some 42, (some (32, true)), .prim (.un .not (.tmp 41))⟩, [0, 1, 2, 3, 4, 5, 6, 7, 8, 9, 10, 11, 12], false, 1, 1⟩,
      ⟨⟨some 43, none, .prim (.pick (.tmp 32) (.tmp 42) (.const (Go.Value.bool Bool.false)))⟩, [0, 1, 2, 3, 4, 5, 6, 7, 8, 9, 10, 11, 12, 13], false, 1, 1⟩])
    (.cond (.tmp 43)
    .skip
    (.exit 2)))
    (.block 3 (.ops [⟨some 44, none, .prim (.mov (.tmp 9))⟩,
      ⟨some 45, none, .prim (.bin false .add (.tmp 44) (.const (Go.Value.int Go.IntKind.i64 1)))⟩,
      ⟨some 9, none, .prim (.mov (.tmp 45))⟩])))))
    (.seq (.block 4 (.loop [2, 3, 4, 5, 6, 7, 8, 11, 12, 13, 14, 15, 16, 17, 18, 19, 20, 21, 22, 23, 24, 25, 26, 27, 28, 29, 30, 31, 32, 33, 34, 35, 36, 37, 38, 39, 40, 41, 42, 43, 44, 45, 46, 47, 48, 49, 50, 51, 52, 53, 54, 55, 56, 57, 58, 59, 60, 61, 62, 63, 64, 65, 66, 67, 68, 69, 70, 71, 72, 73, 74, 75, 76, 77, 78, 79, 80, 81, 82, 83] (.seq (.seq (.draw [⟨⟨some 46, none, .prim (.mov (.tmp 9))⟩, [], false, 0, 0⟩,
      ⟨⟨some 47, none, .prim (.mov (.tmp 10))⟩, [], false, 0, 0⟩,
      ⟨⟨some 48, none, .prim (.bin false .leq (.tmp 46) (.tmp 47))⟩, [0, 1], false, 0, 0⟩,
      ⟨⟨some 49, none, .prim (.mov (.tmp 48))⟩, [0, 1, 2], false, 0, 0⟩,
      ⟨⟨some 50, (some (49, true)), .prim (.mov (.tmp 0))⟩, [0, 1, 2, 3], false, 0, 0⟩,
      ⟨⟨some 51, (some (49, true)), .prim (.mov (.tmp 1))⟩, [0, 1, 2, 3], false, 0, 0⟩,
      ⟨⟨some 52, (some (49, true)), .prim (.iadrs 1 (.tmp 50) (.tmp 51))⟩, [0, 1, 2, 3, 4, 5], false, 0, 0⟩,
      ⟨⟨some 53, (some (49, true)), .prim (.load 1 false (.tmp 52))⟩, [0, 1, 2, 3, 4, 5, 6], false, 0, 0⟩,
      ⟨⟨some 54, (some (49, true)), .prim (.mov (.tmp 0))⟩, [0, 1, 2, 3], false, 0, 0⟩,
      ⟨⟨some 55, (some (49, true)), .prim (.mov (.tmp 10))⟩, [0, 1, 2, 3], false, 0, 0⟩,
      ⟨⟨some 56, (some (49, true)), .prim (.iadrs 1 (.tmp 54) (.tmp 55))⟩, [0, 1, 2, 3, 8, 9], false, 0, 0⟩,
      ⟨⟨some 57, (some (49, true)), .prim (.load 1 false (.tmp 56))⟩, [0, 1, 2, 3, 8, 9, 10], false, 0, 0⟩,
      ⟨⟨some 58, (some (49, true)), .call (.func 75) [(.tmp 53), (.tmp 57)]⟩, [0, 1, 2, 3, 4, 5, 6, 7, 8, 9, 10, 11], true, 0, 0⟩,
      ⟨⟨some 59, none, .prim (.pick (.tmp 49) (.tmp 58) (.const (Go.Value.bool Bool.false)))⟩, [0, 1, 2, 3, 4, 5, 6, 7, 8, 9, 10, 11, 12], false, 1, 1⟩])
    (.cond (.tmp 59)
    .skip
    (.exit 4)))
    (.block 5 (.ops [⟨some 60, none, .prim (.mov (.tmp 10))⟩,
      ⟨some 61, none, .prim (.bin false .sub (.tmp 60) (.const (Go.Value.int Go.IntKind.i64 1)))⟩,
      ⟨some 10, none, .prim (.mov (.tmp 61))⟩])))))
    (.seq (.seq (.ops [⟨some 62, none, .prim (.mov (.tmp 9))⟩,
      ⟨some 63, none, .prim (.mov (.tmp 10))⟩,
      ⟨some 64, none, .prim (.bin false .gtr (.tmp 62) (.tmp 63))⟩])
    (.cond (.tmp 64)
    (.exit 0)
    .skip))
    (.seq (.draw [⟨⟨some 65, none, .prim (.mov (.tmp 0))⟩, [], false, 0, 0⟩,
      ⟨⟨some 66, none, .prim (.mov (.tmp 9))⟩, [], false, 0, 0⟩,
      ⟨⟨some 67, none, .prim (.mov (.tmp 0))⟩, [], false, 0, 1⟩,
      ⟨⟨some 68, none, .prim (.mov (.tmp 10))⟩, [], false, 0, 1⟩,
      ⟨⟨some 69, none, .prim (.mov (.tmp 0))⟩, [], false, 0, 0⟩,
      ⟨⟨some 70, none, .prim (.mov (.tmp 10))⟩, [], false, 0, 0⟩,
      ⟨⟨some 71, none, .prim (.iadrs 1 (.tmp 69) (.tmp 70))⟩, [4, 5], false, 0, 0⟩,
      ⟨⟨some 72, none, .prim (.load 1 false (.tmp 71))⟩, [4, 5, 6], false, 0, 0⟩,
      ⟨⟨some 73, none, .prim (.mov (.tmp 0))⟩, [], false, 0, 0⟩,
      ⟨⟨some 74, none, .prim (.mov (.tmp 9))⟩, [], false, 0, 0⟩,
      ⟨⟨some 75, none, .prim (.iadrs 1 (.tmp 73) (.tmp 74))⟩, [8, 9], false, 0, 0⟩,
      ⟨⟨some 76, none, .prim (.load 1 false (.tmp 75))⟩, [8, 9, 10], false, 0, 0⟩,
      ⟨⟨some 77, none, .prim (.iadrs 1 (.tmp 65) (.tmp 66))⟩, [0, 1, 4, 5, 6, 7, 8, 9, 10, 11], false, 0, 0⟩,
      ⟨⟨none, none, .prim (.store 1 (.tmp 77) (.tmp 72))⟩, [0, 1, 4, 5, 6, 7, 8, 9, 10, 11, 12], true, 0, 0⟩,
      ⟨⟨some 78, none, .prim (.iadrs 1 (.tmp 67) (.tmp 68))⟩, [0, 1, 2, 3, 4, 5, 6, 7, 8, 9, 10, 11, 12, 13], false, 1, 1⟩,
      ⟨⟨none, none, .prim (.store 1 (.tmp 78) (.tmp 76))⟩, [0, 1, 2, 3, 4, 5, 6, 7, 8, 9, 10, 11, 12, 13, 14], true, 0, 0⟩])
    (.seq (.ops [⟨some 79, none, .prim (.mov (.tmp 9))⟩,
      ⟨some 80, none, .prim (.bin false .add (.tmp 79) (.const (Go.Value.int Go.IntKind.i64 1)))⟩,
      ⟨some 9, none, .prim (.mov (.tmp 80))⟩])
    (.ops [⟨some 81, none, .prim (.mov (.tmp 10))⟩,
      ⟨some 82, none, .prim (.bin false .sub (.tmp 81) (.const (Go.Value.int Go.IntKind.i64 1)))⟩,
      ⟨some 10, none, .prim (.mov (.tmp 82))⟩])))))))))
    (.seq (.ops [⟨some 83, none, .prim (.mov (.tmp 9))⟩,
      ⟨some 8, none, .prim (.mov (.tmp 83))⟩])
    .ret)))))
def o76 : List Tmp := []
def r76 : List RV := [.tmp 8]
theorem t76 : Text Tryz.prog 76 o76 c76 r76 84 := ⟨⟨Tryz.f76, _, by kernel_rfl, by kernel_rfl, rfl, by kernel_rfl, by kernel_rfl, rfl⟩, by kernel_rfl⟩

/-- slices.partitionOrdered[int] -/
def c77 : ACode :=
  (.seq (.ops [⟨some 8, none, .prim (.mov (.const (Go.Value.int Go.IntKind.i64 0)))⟩,
      ⟨some 9, none, .prim (.mov (.const (Go.Value.bool Bool.false)))⟩])
    (.seq (.draw [⟨⟨some 12, none, .prim (.mov (.tmp 0))⟩, [], false, 0, 0⟩,
      ⟨⟨some 13, none, .prim (.mov (.tmp 1))⟩, [], false, 0, 0⟩,
      ⟨⟨some 14, none, .prim (.mov (.tmp 0))⟩, [], false, 0, 1⟩,
      ⟨⟨some 15, none, .prim (.mov (.tmp 3))⟩, [], false, 0, 1⟩,
      ⟨⟨some 16, none, .prim (.mov (.tmp 0))⟩, [], false, 0, 0⟩,
      ⟨⟨some 17, none, .prim (.mov (.tmp 3))⟩, [], false, 0, 0⟩,
      ⟨⟨some 18, none, .prim (.iadrs 1 (.tmp 16) (.tmp 17))⟩, [4, 5], false, 0, 0⟩,
      ⟨⟨some 19, none, .prim (.load 1 false (.tmp 18))⟩, [4, 5, 6], false, 0, 0⟩,
      ⟨⟨some 20, none, .prim (.mov (.tmp 0))⟩, [], false, 0, 0⟩,
      ⟨⟨some 21, none, .prim (.mov (.tmp 1))⟩, [], false, 0, 0⟩,
      ⟨⟨some 22, none, .prim (.iadrs 1 (.tmp 20) (.tmp 21))⟩, [8, 9], false, 0, 0⟩,
      ⟨⟨some 23, none, .prim (.load 1 false (.tmp 22))⟩, [8, 9, 10], false, 0, 0⟩,
      ⟨⟨some 24, none, .prim (.iadrs 1 (.tmp 12) (.tmp 13))⟩, [0, 1, 4, 5, 6, 7, 8, 9, 10, 11], false, 0, 0⟩,
      ⟨⟨none, none, .prim (.store 1 (.tmp 24) (.tmp 19))⟩, [0, 1, 4, 5, 6, 7, 8, 9, 10, 11, 12], true, 0, 0⟩,
      ⟨⟨some 25, none, .prim (.iadrs 1 (.tmp 14) (.tmp 15))⟩, [0, 1, 2, 3, 4, 5, 6, 7, 8, 9, 10, 11, 12, 13], false, 1, 1⟩,
      ⟨⟨none, none, .prim (.store 1 (.tmp 25) (.tmp 23))⟩, [0, 1, 2, 3, 4, 5, 6, 7, 8, 9, 10, 11, 12, 13, 14], true, 0, 0⟩])
    (.seq (.ops [⟨some 26, none, .prim (.mov (.tmp 1))⟩,
      ⟨some 27, none, .prim (.bin false .add (.tmp 26) (.const (Go.Value.int Go.IntKind.i64 1)))⟩,
      ⟨some 28, none, .prim (.mov (.tmp 2))⟩,
      ⟨some 29, none, .prim (.bin false .sub (.tmp 28) (.const (Go.Value.int Go.IntKind.i64 1)))⟩,
      ⟨some 10, none, .prim (.mov (.tmp 27))⟩,
      ⟨some 11, none, .prim (.mov (.tmp 29))⟩])
    (.seq (.block 0 (.loop [2, 3, 4, 5, 6, 7, 8, 9, 12, 13, 14, 15, 16, 17, 18, 19, 20, 21, 22, 23, 24, 25, 26, 27, 28, 29, 30, 31, 32, 33, 34, 35, 36, 37, 38, 39, 40, 41, 42, 43, 44, 45, 46, 47, 48, 49, 50, 51, 52, 53, 54, 55, 56, 57, 58, 59, 60, 61, 62, 63, 64, 65, 66, 67, 68, 69, 70, 71, 72, 73, 74, 75, 76, 77, 78, 79, 80, 81, 82, 83, 84, 85, 86, 87, 88, 89, 90, 91, 92, 93, 94, 95, 96, 97, 98, 99, 100, 101, 102, 103, 104, 105, 106, 107, 108, 109, 110, 111, 112, 113, 114, 115, 116, 117, 118, 119, 120, 121, 122, 123, 124, 125, 126, 127, 128, 129, 130, 131, 132, 133, 134, 135, 136, 137, 138, 139, 140, 141, 142, 143, 144, 145, 146, 147, 148, 149, 150, 151, 152, 153, 154, 155, 156, 157, 158, 159, 160, 161, 162, 163, 164, 165, 166, 167] (.seq (.seq (.draw [⟨⟨some 30, none, .prim (.mov (.tmp 10))⟩, [], false, 0, 0⟩,
      ⟨⟨some 31, none, .prim (.mov (.tmp 11))⟩, [], false, 0, 0⟩,
      ⟨⟨some 32, none, .prim (.bin false .leq (.tmp 30) (.tmp 31))⟩, [0, 1], false, 0, 0⟩,
      ⟨⟨some 33, none, .prim (.mov (.tmp 32))⟩, [0, 1, 2], false, 0, 0⟩,
      ⟨⟨some 34, (some (33, true)), .prim (.mov (.tmp 0))⟩, [0, 1, 2, 3], false, 0, 0⟩,
      ⟨⟨some 35, (some (33, true)), .prim (.mov (.tmp 10))⟩, [0, 1, 2, 3], false, 0, 0⟩,
      ⟨⟨some 36, (some (33, true)), .prim (.iadrs 1 (.tmp 34) (.tmp 35))⟩, [0, 1, 2, 3, 4, 5], false, 0, 0⟩,
      ⟨⟨some 37, (some (33, true)), .prim (.load 1 false (.tmp 36))⟩, [0, 1, 2, 3, 4, 5, 6], false, 0, 0⟩,
      ⟨⟨some 38, (some (33, true)), .prim (.mov (.tmp 0))⟩, [0, 1, 2, 3], false, 0, 0⟩,
      ⟨⟨some 39, (some (33, true)), .prim (.mov (.tmp 1))⟩, [0, 1, 2, 3], false, 0, 0⟩,
      ⟨⟨some 40, (some (33, true)), .prim (.iadrs 1 (.tmp 38) (.tmp 39))⟩, [0, 1, 2, 3, 8, 9], false, 0, 0⟩,
      ⟨⟨some 41, (some (33, true)), .prim (.load 1 false (.tmp 40))⟩, [0, 1, 2, 3, 8, 9, 10], false, 0, 0⟩,
      ⟨⟨some 42, (some (33, true)), .call (.func 75) [(.tmp 37), (.tmp 41)]⟩, [0, 1, 2, 3, 4, 5, 6, 7, 8, 9, 10, 11], true, 0, 0⟩,
      ⟨⟨some 43, none, .prim (.pick (.tmp 33) (.tmp 42) (.const (Go.Value.bool Bool.false)))⟩, [0, 1, 2, 3, 4, 5, 6, 7, 8, 9, 10, 11, 12], false, 1, 1⟩])
    (.cond (.tmp 43)
    .skip
    (.exit 0)))
    (.block 1 (.ops [⟨some 44, none, .prim (.mov (.tmp 10))⟩,
      ⟨some 45, none, .prim (.bin false .add (.tmp 44) (.const (Go.Value.int Go.IntKind.i64 1)))⟩,
      ⟨some 10, none, .prim (.mov (.tmp 45))⟩])))))
    (.seq (.block 2 (.loop [2, 3, 4, 5, 6, 7, 8, 9, 12, 13, 14, 15, 16, 17, 18, 19, 20, 21, 22, 23, 24, 25, 26, 27, 28, 29, 30, 31, 32, 33, 34, 35, 36, 37, 38, 39, 40, 41, 42, 43, 44, 45, 46, 47, 48, 49, 50, 51, 52, 53, 54, 55, 56, 57, 58, 59, 60, 61, 62, 63, 64, 65, 66, 67, 68, 69, 70, 71, 72, 73, 74, 75, 76, 77, 78, 79, 80, 81, 82, 83, 84, 85, 86, 87, 88, 89, 90, 91, 92, 93, 94, 95, 96, 97, 98, 99, 100, 101, 102, 103, 104, 105, 106, 107, 108, 109, 110, 111, 112, 113, 114, 115, 116, 117, 118, 119, 120, 121, 122, 123, 124, 125, 126, 127, 128, 129, 130, 131, 132, 133, 134, 135, 136, 137, 138, 139, 140, 141, 142, 143, 144, 145, 146, 147, 148, 149, 150, 151, 152, 153, 154, 155, 156, 157, 158, 159, 160, 161, 162, 163, 164, 165, 166, 167] (.seq (.seq (.draw [⟨⟨some 46, none, .prim (.mov (.tmp 10))⟩, [], false, 0, 0⟩,
      ⟨⟨some 47, none, .prim (.mov (.tmp 11))⟩, [], false, 0, 0⟩,
      ⟨⟨some 48, none, .prim (.bin false .leq (.tmp 46) (.tmp 47))⟩, [0, 1], false, 0, 0⟩,
      ⟨⟨some 49, none, .prim (.mov (.tmp 48))⟩, [0, 1, 2], false, 0, 0⟩,
      ⟨⟨some 50, (some (49, true)), .prim (.mov (.tmp 0))⟩, [0, 1, 2, 3], false, 0, 0⟩,
      ⟨⟨some 51, (some (49, true)), .prim (.mov (.tmp 11))⟩, [0, 1, 2, 3], false, 0, 0⟩,
      ⟨⟨some 52, (some (49, true)), .prim (.iadrs 1 (.tmp 50) (.tmp 51))⟩, [0, 1, 2, 3, 4, 5], false, 0, 0⟩,
      ⟨⟨some 53, (some (49, true)), .prim (.load 1 false (.tmp 52))⟩, [0, 1, 2, 3, 4, 5, 6], false, 0, 0⟩,
      ⟨⟨some 54, (some (49, true)), .prim (.mov (.tmp 0))⟩, [0, 1, 2, 3], false, 0, 0⟩,
      ⟨⟨some 55, (some (49, true)), .prim (.mov (.tmp 1))⟩, [0, 1, 2, 3], false, 0, 0⟩,
      ⟨⟨some 56, (some (49, true)), .prim (.iadrs 1 (.tmp 54) (.tmp 55))⟩, [0, 1, 2, 3, 8, 9], false, 0, 0⟩,
      ⟨⟨some 57, (some (49, true)), .prim (.load 1 false (.tmp 56))⟩, [0, 1, 2, 3, 8, 9, 10], false, 0, 0⟩,
      ⟨⟨some 58, (some (49, true)), .call (.func 75) [(.tmp 53), (.tmp 57)]⟩, [0, 1, 2, 3, 4, 5, 6, 7, 8, 9, 10, 11], true, 0, 0⟩,
      ⟨⟨some 59, (some (49, true)), .prim (.un .not (.tmp 58))⟩, [0, 1, 2, 3, 4, 5, 6, 7, 8, 9, 10, 11, 12], false, 1, 1⟩,
      ⟨⟨some 60, none, .prim (.pick (.tmp 49) (.tmp 59) (.const (Go.Value.bool Bool.false)))⟩, [0, 1, 2, 3, 4, 5, 6, 7, 8, 9, 10, 11, 12, 13], false, 1, 1⟩])
    (.cond (.tmp 60)
    .skip
    (.exit 2)))
    (.block 3 (.ops [⟨some 61, none, .prim (.mov (.tmp 11))⟩,
      ⟨some 62, none, .prim (.bin false .sub (.tmp 61) (.const (Go.Value.int Go.IntKind.i64 1)))⟩,
      ⟨some 11, none, .prim (.mov (.tmp 62))⟩])))))
    (.seq (.seq (.ops [⟨some 63, none, .prim (.mov (.tmp 10))⟩,
      ⟨some 64, none, .prim (.mov (.tmp 11))⟩,
      ⟨some 65, none, .prim (.bin false .gtr (.tmp 63) (.tmp 64))⟩])
    (.cond (.tmp 65)
    (.seq (.draw [⟨⟨some 66, none, .prim (.mov (.tmp 0))⟩, [], false, 0, 0⟩,
      ⟨⟨some 67, none, .prim (.mov (.tmp 11))⟩, [], false, 0, 0⟩,
      ⟨⟨some 68, none, .prim (.mov (.tmp 0))⟩, [], false, 0, 1⟩,
      ⟨⟨some 69, none, .prim (.mov (.tmp 1))⟩, [], false, 0, 1⟩,
      ⟨⟨some 70, none, .prim (.mov (.tmp 0))⟩, [], false, 0, 0⟩,
      ⟨⟨some 71, none, .prim (.mov (.tmp 1))⟩, [], false, 0, 0⟩,
      ⟨⟨some 72, none, .prim (.iadrs 1 (.tmp 70) (.tmp 71))⟩, [4, 5], false, 0, 0⟩,
      ⟨⟨some 73, none, .prim (.load 1 false (.tmp 72))⟩, [4, 5, 6], false, 0, 0⟩,
      ⟨⟨some 74, none, .prim (.mov (.tmp 0))⟩, [], false, 0, 0⟩,
      ⟨⟨some 75, none, .prim (.mov (.tmp 11))⟩, [], false, 0, 0⟩,
      ⟨⟨some 76, none, .prim (.iadrs 1 (.tmp 74) (.tmp 75))⟩, [8, 9], false, 0, 0⟩,
      ⟨⟨some 77, none, .prim (.load 1 false (.tmp 76))⟩, [8, 9, 10], false, 0, 0⟩,
      ⟨⟨some 78, none, .prim (.iadrs 1 (.tmp 66) (.tmp 67))⟩, [0, 1, 4, 5, 6, 7, 8, 9, 10, 11], false, 0, 0⟩,
      ⟨⟨none, none, .prim (.store 1 (.tmp 78) (.tmp 73))⟩, [0, 1, 4, 5, 6, 7, 8, 9, 10, 11, 12], true, 0, 0⟩,
      ⟨⟨some 79, none, .prim (.iadrs 1 (.tmp 68) (.tmp 69))⟩, [0, 1, 2, 3, 4, 5, 6, 7, 8, 9, 10, 11, 12, 13], false, 1, 1⟩,
      ⟨⟨none, none, .prim (.store 1 (.tmp 79) (.tmp 77))⟩, [0, 1, 2, 3, 4, 5, 6, 7, 8, 9, 10, 11, 12, 13, 14], true, 0, 0⟩])
    (.seq (.ops [⟨some 80, none, .prim (.mov (.tmp 11))⟩,
      ⟨some 8, none, .prim (.mov (.tmp 80))⟩,
      ⟨some 9, none, .prim (.mov (.const (Go.Value.bool Bool.true)))⟩])
    .ret))
    .skip))
    (.seq (.draw [⟨⟨some 81, none, .prim (.mov (.tmp 0))⟩, [], false, 0, 0⟩,
      ⟨⟨some 82, none, .prim (.mov (.tmp 10))⟩, [], false, 0, 0⟩,
      ⟨⟨some 83, none, .prim (.mov (.tmp 0))⟩, [], false, 0, 1⟩,
      ⟨⟨some 84, none, .prim (.mov (.tmp 11))⟩, [], false, 0, 1⟩,
      ⟨⟨some 85, none, .prim (.mov (.tmp 0))⟩, [], false, 0, 0⟩,
      ⟨⟨some 86, none, .prim (.mov (.tmp 11))⟩, [], false, 0, 0⟩,
      ⟨⟨some 87, none, .prim (.iadrs 1 (.tmp 85) (.tmp 86))⟩, [4, 5], false, 0, 0⟩,
      ⟨⟨some 88, none, .prim (.load 1 false (.tmp 87))⟩, [4, 5, 6], false, 0, 0⟩,
      ⟨⟨some 89, none, .prim (.mov (.tmp 0))⟩, [], false, 0, 0⟩,
      ⟨⟨some 90, none, .prim (.mov (.tmp 10))⟩, [], false, 0, 0⟩,
      ⟨⟨some 91, none, .prim (.iadrs 1 (.tmp 89) (.tmp 90))⟩, [8, 9], false, 0, 0⟩,
      ⟨⟨some 92, none, .prim (.load 1 false (.tmp 91))⟩, [8, 9, 10], false, 0, 0⟩,
      ⟨⟨some 93, none, .prim (.iadrs 1 (.tmp 81) (.tmp 82))⟩, [0, 1, 4, 5, 6, 7, 8, 9, 10, 11], false, 0, 0⟩,
      ⟨⟨none, none, .prim (.store 1 (.tmp 93) (.tmp 88))⟩, [0, 1, 4, 5, 6, 7, 8, 9, 10, 11, 12], true, 0, 0⟩,
      ⟨⟨some 94, none, .prim (.iadrs 1 (.tmp 83) (.tmp 84))⟩, [0, 1, 2, 3, 4, 5, 6, 7, 8, 9, 10, 11, 12, 13], false, 1, 1⟩,
      ⟨⟨none, none, .prim (.store 1 (.tmp 94) (.tmp 92))⟩, [0, 1, 2, 3, 4, 5, 6, 7, 8, 9, 10, 11, 12, 13, 14], true, 0, 0⟩])
    (.seq (.ops [⟨some 95, none, .prim (.mov (.tmp 10))⟩,
      ⟨some 96, none, .prim (.bin false .add (.tmp 95) (.const (Go.Value.int Go.IntKind.i64 1)))⟩,
      ⟨some 10, none, .prim (.mov (.tmp 96))⟩])
    (.seq (.ops [⟨some 97, none, .prim (.mov (.tmp 11))⟩,
      ⟨some 98, none, .prim (.bin false .sub (.tmp 97) (.const (Go.Value.int Go.IntKind.i64 1)))⟩,
      ⟨some 11, none, .prim (.mov (.tmp 98))⟩])
    (.seq (.block 4 (.loop [2, 3, 4, 5, 6, 7, 8, 9, 12, 13, 14, 15, 16, 17, 18, 19, 20, 21, 22, 23, 24, 25, 26, 27, 28, 29, 30, 31, 32, 33, 34, 35, 36, 37, 38, 39, 40, 41, 42, 43, 44, 45, 46, 47, 48, 49, 50, 51, 52, 53, 54, 55, 56, 57, 58, 59, 60, 61, 62, 63, 64, 65, 66, 67, 68, 69, 70, 71, 72, 73, 74, 75, 76, 77, 78, 79, 80, 81, 82, 83, 84, 85, 86, 87, 88, 89, 90, 91, 92, 93, 94, 95, 96, 97, 98, 99, 100, 101, 102, 103, 104, 105, 106, 107, 108, 109, 110, 111, 112, 113, 114, 115, 116, 117, 118, 119, 120, 121, 122, 123, 124, 125, 126, 127, 128, 129, 130, 131, 132, 133, 134, 135, 136, 137, 138, 139, 140, 141, 142, 143, 144, 145, 146, 147, 148, 149, 150, 151, 152, 153, 154, 155, 156, 157, 158, 159, 160, 161, 162, 163, 164, 165, 166, 167] (.block 5 (.seq (.block 6 (.loop [2, 3, 4, 5, 6, 7, 8, 9, 12, 13, 14, 15, 16, 17, 18, 19, 20, 21, 22, 23, 24, 25, 26, 27, 28, 29, 30, 31, 32, 33, 34, 35, 36, 37, 38, 39, 40, 41, 42, 43, 44, 45, 46, 47, 48, 49, 50, 51, 52, 53, 54, 55, 56, 57, 58, 59, 60, 61, 62, 63, 64, 65, 66, 67, 68, 69, 70, 71, 72, 73, 74, 75, 76, 77, 78, 79, 80, 81, 82, 83, 84, 85, 86, 87, 88, 89, 90, 91, 92, 93, 94, 95, 96, 97, 98, 99, 100, 101, 102, 103, 104, 105, 106, 107, 108, 109, 110, 111, 112, 113, 114, 115, 116, 117, 118, 119, 120, 121, 122, 123, 124, 125, 126, 127, 128, 129, 130, 131, 132, 133, 134, 135, 136, 137, 138, 139, 140, 141, 142, 143, 144, 145, 146, 147, 148, 149, 150, 151, 152, 153, 154, 155, 156, 157, 158, 159, 160, 161, 162, 163, 164, 165, 166, 167] (.seq (.seq (.draw [⟨⟨some 99, none, .prim (.mov (.tmp 10))⟩, [], false, 0, 0⟩,
      ⟨⟨some 100, none, .prim (.mov (.tmp 11))⟩, [], false, 0, 0⟩,
      ⟨⟨some 101, none, .prim (.bin false .leq (.tmp 99) (.tmp 100))⟩, [0, 1], false, 0, 0⟩,
      ⟨⟨some 102, none, .prim (.mov (.tmp 101))⟩, [0, 1, 2], false, 0, 0⟩,
      ⟨⟨some 103, (some (102, true)), .prim (.mov (.tmp 0))⟩, [0, 1, 2, 3], false, 0, 0⟩,
      ⟨⟨some 104, (some (102, true)), .prim (.mov (.tmp 10))⟩, [0, 1, 2, 3], false, 0, 0⟩,
      ⟨⟨some 105, (some (102, true)), .prim (.iadrs 1 (.tmp 103) (.tmp 104))⟩, [0, 1, 2, 3, 4, 5], false, 0, 0⟩,
      ⟨⟨some 106, (some (102, true)), .prim (.load 1 false (.tmp 105))⟩, [0, 1, 2, 3, 4, 5, 6], false, 0, 0⟩,
      ⟨⟨some 107, (some (102, true)), .prim (.mov (.tmp 0))⟩, [0, 1, 2, 3], false, 0, 0⟩,
      ⟨⟨some 108, (some (102, true)), .prim (.mov (.tmp 1))⟩, [0, 1, 2, 3], false, 0, 0⟩,
      ⟨⟨some 109, (some (102, true)), .prim (.iadrs 1 (.tmp 107) (.tmp 108))⟩, [0, 1, 2, 3, 8, 9], false, 0, 0⟩,
      ⟨⟨some 110, (some (102, true)), .prim (.load 1 false (.tmp 109))⟩, [0, 1, 2, 3, 8, 9, 10], false, 0, 0⟩,
      ⟨⟨some 111, (some (102, true)), .call (.func 75) [(.tmp 106), (.tmp 110)]⟩, [0, 1, 2, 3, 4, 5, 6, 7, 8, 9, 10, 11], true, 0, 0⟩,
      ⟨⟨some 112, none, .prim (.pick (.tmp 102) (.tmp 111) (.const (Go.Value.bool Bool.false)))⟩, [0, 1, 2, 3, 4, 5, 6, 7, 8, 9, 10, 11, 12], false, 1, 1⟩])
    (.cond (.tmp 112)
    .skip
    (.exit 6)))
    (.block 7 (.ops [⟨some 113, none, .prim (.mov (.tmp 10))⟩,
      ⟨some 114, none, .prim (.bin false .add (.tmp 113) (.const (Go.Value.int Go.IntKind.i64 1)))⟩,
      ⟨some 10, none, .prim (.mov (.tmp 114))⟩])))))
    (.seq (.block 8 (.loop [2, 3, 4, 5, 6, 7, 8, 9, 12, 13, 14, 15, 16, 17, 18, 19, 20, 21, 22, 23, 24, 25, 26, 27, 28, 29, 30, 31, 32, 33, 34, 35, 36, 37, 38, 39, 40, 41, 42, 43, 44, 45, 46, 47, 48, 49, 50, 51, 52, 53, 54, 55, 56, 57, 58, 59, 60, 61, 62, 63, 64, 65, 66, 67, 68, 69, 70, 71, 72, 73, 74, 75, 76, 77, 78, 79, 80, 81, 82, 83, 84, 85, 86, 87, 88, 89, 90, 91, 92, 93, 94, 95, 96, 97, 98, 99, 100, 101, 102, 103, 104, 105, 106, 107, 108, 109, 110, 111, 112, 113, 114, 115, 116, 117, 118, 119, 120, 121, 122, 123, 124, 125, 126, 127, 128, 129, 130, 131, 132, 133, 134, 135, 136, 137, 138, 139, 140, 141, 142, 143, 144, 145, 146, 147, 148, 149, 150, 151, 152, 153, 154, 155, 156, 157, 158, 159, 160, 161, 162, 163, 164, 165, 166, 167] (.seq (.seq (.draw [⟨⟨some 115, none, .prim (.mov (.tmp 10))⟩, [], false, 0, 0⟩,
      ⟨⟨some 116, none, .prim (.mov (.tmp 11))⟩, [], false, 0, 0⟩,
      ⟨⟨some 117, none, .prim (.bin false .leq (.tmp 115) (.tmp 116))⟩, [0, 1], false, 0, 0⟩,
      ⟨⟨some 118, none, .prim (.mov (.tmp 117))⟩, [0, 1, 2], false, 0, 0⟩,
      ⟨⟨some 119, (some (118, true)), .prim (.mov (.tmp 0))⟩, [0, 1, 2, 3], false, 0, 0⟩,
      ⟨⟨some 120, (some (118, true)), .prim (.mov (.tmp 11))⟩, [0, 1, 2, 3], false, 0, 0⟩,
      ⟨⟨some 121, (some (118, true)), .prim (.iadrs 1 (.tmp 119) (.tmp 120))⟩, [0, 1, 2, 3, 4, 5], false, 0, 0⟩,
      ⟨⟨some 122, (some (118, true)), .prim (.load 1 false (.tmp 121))⟩, [0, 1, 2, 3, 4, 5, 6], false, 0, 0⟩,
      ⟨⟨some 123, (some (118, true)), .prim (.mov (.tmp 0))⟩, [0, 1, 2, 3], false, 0, 0⟩,
      ⟨⟨some 124, (some (118, true)), .prim (.mov (.tmp 1))⟩, [0, 1, 2, 3], false, 0, 0⟩,
      ⟨⟨some 125, (some (118, true)), .prim (.iadrs 1 (.tmp 123) (.tmp 124))⟩, [0, 1, 2, 3, 8, 9], false, 0, 0⟩,
      ⟨⟨some 126, (some (118, true)), .prim (.load 1 false (.tmp 125))⟩, [0, 1, 2, 3, 8, 9, 10], false, 0, 0⟩,
      ⟨⟨some 127, (some (118, true)), .call (.func 75) [(.tmp 122), (.tmp 126)]⟩, [0, 1, 2, 3, 4, 5, 6, 7, 8, 9, 10, 11], true, 0, 0⟩,
      ⟨⟨some 128, (some (118, true)), .prim (.un .not (.tmp 127))⟩, [0, 1, 2, 3, 4, 5, 6, 7, 8, 9, 10, 11, 12], false, 1, 1⟩,
      ⟨⟨some 129, none, .prim (.pick (.tmp 118) (.tmp 128) (.const (Go.Value.bool Bool.false)))⟩, [0, 1, 2, 3, 4, 5, 6, 7, 8, 9, 10, 11, 12, 13], false, 1, 1⟩])
    (.cond (.tmp 129)
    .skip
    (.exit 8)))
    (.block 9 (.ops [⟨some 130, none, .prim (.mov (.tmp 11))⟩,
      ⟨some 131, none, .prim (.bin false .sub (.tmp 130) (.const (Go.Value.int Go.IntKind.i64 1)))⟩,
      ⟨some 11, none, .prim (.mov (.tmp 131))⟩])))))
    (.seq (.seq (.ops [⟨some 132, none, .prim (.mov (.tmp 10))⟩,
      ⟨some 133, none, .prim (.mov (.tmp 11))⟩,
      ⟨some 134, none, .prim (.bin false .gtr (.tmp 132) (.tmp 133))⟩])
    (.cond (.tmp 134)
    (.exit 4)
    .skip))
    (.seq (.draw [⟨⟨some 135, none, .prim (.mov (.tmp 0))⟩, [], false, 0, 0⟩,
      ⟨⟨some 136, none, .prim (.mov (.tmp 10))⟩, [], false, 0, 0⟩,
      ⟨⟨some 137, none, .prim (.mov (.tmp 0))⟩, [], false, 0, 1⟩,
      ⟨⟨some 138, none, .prim (.mov (.tmp 11))⟩, [], false, 0, 1⟩,
      ⟨⟨some 139, none, .prim (.mov (.tmp 0))⟩, [], false, 0, 0⟩,
      ⟨⟨some 140, none, .prim (.mov (.tmp 11))⟩, [], false, 0, 0⟩,
      ⟨⟨some 141, none, .prim (.iadrs 1 (.tmp 139) (.tmp 140))⟩, [4, 5], false, 0, 0⟩,
      ⟨⟨some 142, none, .prim (.load 1 false (.tmp 141))⟩, [4, 5, 6], false, 0, 0⟩,
      ⟨⟨some 143, none, .prim (.mov (.tmp 0))⟩, [], false, 0, 0⟩,
      ⟨⟨some 144, none, .prim (.mov (.tmp 10))⟩, [], false, 0, 0⟩,
      ⟨⟨some 145, none, .prim (.iadrs 1 (.tmp 143) (.tmp 144))⟩, [8, 9], false, 0, 0⟩,
      ⟨⟨some 146, none, .prim (.load 1 false (.tmp 145))⟩, [8, 9, 10], false, 0, 0⟩,
      ⟨⟨some 147, none, .prim (.iadrs 1 (.tmp 135) (.tmp 136))⟩, [0, 1, 4, 5, 6, 7, 8, 9, 10, 11], false, 0, 0⟩,
      ⟨⟨none, none, .prim (.store 1 (.tmp 147) (.tmp 142))⟩, [0, 1, 4, 5, 6, 7, 8, 9, 10, 11, 12], true, 0, 0⟩,
      ⟨⟨some 148, none, .prim (.iadrs 1 (.tmp 137) (.tmp 138))⟩, [0, 1, 2, 3, 4, 5, 6, 7, 8, 9, 10, 11, 12, 13], false, 1, 1⟩,
      ⟨⟨none, none, .prim (.store 1 (.tmp 148) (.tmp 146))⟩, [0, 1, 2, 3, 4, 5, 6, 7, 8, 9, 10, 11, 12, 13, 14], true, 0, 0⟩])
    (.seq (.ops [⟨some 149, none, .prim (.mov (.tmp 10))⟩,
      ⟨some 150, none, .prim (.bin false .add (.tmp 149) (.const (Go.Value.int Go.IntKind.i64 1)))⟩,
      ⟨some 10, none, .prim (.mov (.tmp 150))⟩])
    (.ops [⟨some 151, none, .prim (.mov (.tmp 11))⟩,
      ⟨some 152, none, .prim (.bin false .sub (.tmp 151) (.const (Go.Value.int Go.IntKind.i64 1)))⟩,
      ⟨some 11, none, .prim (.mov (.tmp 152))⟩])))))))))
    (.seq (.draw [⟨⟨some 153, none, .prim (.mov (.tmp 0))⟩, [], false, 0, 0⟩,
      ⟨⟨some 154, none, .prim (.mov (.tmp 11))⟩, [], false, 0, 0⟩,
      ⟨⟨some 155, none, .prim (.mov (.tmp 0))⟩, [], false, 0, 1⟩,
      ⟨⟨some 156, none, .prim (.mov (.tmp 1))⟩, [], false, 0, 1⟩,
      ⟨⟨some 157, none, .prim (.mov (.tmp 0))⟩, [], false, 0, 0⟩,
      ⟨⟨some 158, none, .prim (.mov (.tmp 1))⟩, [], false, 0, 0⟩,
      ⟨⟨some 159, none, .prim (.iadrs 1 (.tmp 157) (.tmp 158))⟩, [4, 5], false, 0, 0⟩,
      ⟨⟨some 160, none, .prim (.load 1 false (.tmp 159))⟩, [4, 5, 6], false, 0, 0⟩,
      ⟨⟨some 161, none, .prim (.mov (.tmp 0))⟩, [], false, 0, 0⟩,
      ⟨⟨some 162, none, .prim (.mov (.tmp 11))⟩, [], false, 0, 0⟩,
      ⟨⟨some 163, none, .prim (.iadrs 1 (.tmp 161) (.tmp 162))⟩, [8, 9], false, 0, 0⟩,
      ⟨⟨some 164, none, .prim (.load 1 false (.tmp 163))⟩, [8, 9, 10], false, 0, 0⟩,
      ⟨⟨some 165, none, .prim (.iadrs 1 (.tmp 153) (.tmp 154))⟩, [0, 1, 4, 5, 6, 7, 8, 9, 10, 11], false, 0, 0⟩,
      ⟨⟨none, none, .prim (.store 1 (.tmp 165) (.tmp 160))⟩, [0, 1, 4, 5, 6, 7, 8, 9, 10, 11, 12], true, 0, 0⟩,
      ⟨⟨some 166, none, .prim (.iadrs 1 (.tmp 155) (.tmp 156))⟩, [0, 1, 2, 3, 4, 5, 6, 7, 8, 9, 10, 11, 12, 13], false, 1, 1⟩,
      ⟨⟨none, none, .prim (.store 1 (.tmp 166) (.tmp 164))⟩, [0, 1, 2, 3, 4, 5, 6, 7, 8, 9, 10, 11, 12, 13, 14], true, 0, 0⟩])
    (.seq (.ops [⟨some 167, none, .prim (.mov (.tmp 11))⟩,
      ⟨some 8, none, .prim (.mov (.tmp 167))⟩,
      ⟨some 9, none, .prim (.mov (.const (Go.Value.bool Bool.false)))⟩])
    .ret))))))))))))
def o77 : List Tmp := []
def r77 : List RV := [.tmp 8, .tmp 9]
theorem t77 : Text Tryz.prog 77 o77 c77 r77 168 := ⟨⟨Tryz.f77, _, by kernel_rfl, by kernel_rfl, rfl, by kernel_rfl, by kernel_rfl, rfl⟩, by kernel_rfl⟩

/-- math/bits.Len32 -/
def c78 : ACode :=
  (.seq (.ops [⟨some 2, none, .prim (.mov (.const (Go.Value.int Go.IntKind.i64 0)))⟩])
    (.seq (.seq (.ops [⟨some 3, none, .prim (.mov (.tmp 0))⟩,
      ⟨some 4, none, .prim (.bin false .geq (.tmp 3) (.const (Go.Value.int Go.IntKind.u32 65536)))⟩])
    (.cond (.tmp 4)
    (.seq (.ops [⟨some 5, none, .prim (.mov (.tmp 0))⟩,
      ⟨some 6, none, .prim (.bin false .shr (.tmp 5) (.const (Go.Value.int Go.IntKind.u64 16)))⟩,
      ⟨some 0, none, .prim (.mov (.tmp 6))⟩])
    (.ops [⟨some 2, none, .prim (.mov (.const (Go.Value.int Go.IntKind.i64 16)))⟩]))
    .skip))
    (.seq (.seq (.ops [⟨some 7, none, .prim (.mov (.tmp 0))⟩,
      ⟨some 8, none, .prim (.bin false .geq (.tmp 7) (.const (Go.Value.int Go.IntKind.u32 256)))⟩])
    (.cond (.tmp 8)
    (.seq (.ops [⟨some 9, none, .prim (.mov (.tmp 0))⟩,
      ⟨some 10, none, .prim (.bin false .shr (.tmp 9) (.const (Go.Value.int Go.IntKind.u64 8)))⟩,
      ⟨some 0, none, .prim (.mov (.tmp 10))⟩])
    (.ops [⟨some 11, none, .prim (.mov (.tmp 2))⟩,
      ⟨some 12, none, .prim (.bin false .add (.tmp 11) (.const (Go.Value.int Go.IntKind.i64 8)))⟩,
      ⟨some 2, none, .prim (.mov (.tmp 12))⟩]))
    .skip))
    (.seq (.ops [⟨some 13, none, .prim (.mov (.tmp 2))⟩,
      ⟨some 14, none, .prim (.mov (.tmp 0))⟩,
      ⟨some 15, none, .prim (.convi .u8 (.tmp 14))⟩,
      ⟨some 16, none, .prim (.idxs (.const (Go.Value.string (ByteArray.mk #[0, 1, 2, 2, 3, 3, 3, 3, 4, 4, 4, 4, 4, 4, 4, 4, 5, 5, 5, 5, 5, 5, 5, 5, 5, 5, 5, 5, 5, 5, 5, 5, 6, 6, 6, 6, 6, 6, 6, 6, 6, 6, 6, 6, 6, 6, 6, 6, 6, 6, 6, 6, 6, 6, 6, 6, 6, 6, 6, 6, 6, 6, 6, 6, 7, 7, 7, 7, 7, 7, 7, 7, 7, 7, 7, 7, 7, 7, 7, 7, 7, 7, 7, 7, 7, 7, 7, 7, 7, 7, 7, 7, 7, 7, 7, 7, 7, 7, 7, 7, 7, 7, 7, 7, 7, 7, 7, 7, 7, 7, 7, 7, 7, 7, 7, 7, 7, 7, 7, 7, 7, 7, 7, 7, 7, 7, 7, 7, 8, 8, 8, 8, 8, 8, 8, 8, 8, 8, 8, 8, 8, 8, 8, 8, 8, 8, 8, 8, 8, 8, 8, 8, 8, 8, 8, 8, 8, 8, 8, 8, 8, 8, 8, 8, 8, 8, 8, 8, 8, 8, 8, 8, 8, 8, 8, 8, 8, 8, 8, 8, 8, 8, 8, 8, 8, 8, 8, 8, 8, 8, 8, 8, 8, 8, 8, 8, 8, 8, 8, 8, 8, 8, 8, 8, 8, 8, 8, 8, 8, 8, 8, 8, 8, 8, 8, 8, 8, 8, 8, 8, 8, 8, 8, 8, 8, 8, 8, 8, 8, 8, 8, 8, 8, 8, 8, 8, 8, 8, 8, 8, 8, 8, 8, 8, 8, 8, 8, 8, 8, 8, 8, 8, 8, 8, 8, 8]))) (.tmp 15))⟩,
      ⟨some 17, none, .prim (.convi .i64 (.tmp 16))⟩,
      ⟨some 18, none, .prim (.bin false .add (.tmp 13) (.tmp 17))⟩,
      ⟨some 2, none, .prim (.mov (.tmp 18))⟩])
    .ret))))
def o78 : List Tmp := []
def r78 : List RV := [.tmp 2]
theorem t78 : Text Tryz.prog 78 o78 c78 r78 19 := ⟨⟨Tryz.f78, _, by kernel_rfl, by kernel_rfl, rfl, by kernel_rfl, by kernel_rfl, rfl⟩, by kernel_rfl⟩

/-- math/bits.Len64 -/
def c79 : ACode :=
  (.seq (.ops [⟨some 2, none, .prim (.mov (.const (Go.Value.int Go.IntKind.i64 0)))⟩])
    (.seq (.seq (.ops [⟨some 3, none, .prim (.mov (.tmp 0))⟩,
      ⟨some 4, none, .prim (.bin false .geq (.tmp 3) (.const (Go.Value.int Go.IntKind.u64 4294967296)))⟩])
    (.cond (.tmp 4)
    (.seq (.ops [⟨some 5, none, .prim (.mov (.tmp 0))⟩,
      ⟨some 6, none, .prim (.bin false .shr (.tmp 5) (.const (Go.Value.int Go.IntKind.u64 32)))⟩,
      ⟨some 0, none, .prim (.mov (.tmp 6))⟩])
    (.ops [⟨some 2, none, .prim (.mov (.const (Go.Value.int Go.IntKind.i64 32)))⟩]))
    .skip))
    (.seq (.seq (.ops [⟨some 7, none, .prim (.mov (.tmp 0))⟩,
      ⟨some 8, none, .prim (.bin false .geq (.tmp 7) (.const (Go.Value.int Go.IntKind.u64 65536)))⟩])
    (.cond (.tmp 8)
    (.seq (.ops [⟨some 9, none, .prim (.mov (.tmp 0))⟩,
      ⟨some 10, none, .prim (.bin false .shr (.tmp 9) (.const (Go.Value.int Go.IntKind.u64 16)))⟩,
      ⟨some 0, none, .prim (.mov (.tmp 10))⟩])
    (.ops [⟨some 11, none, .prim (.mov (.tmp 2))⟩,
      ⟨some 12, none, .prim (.bin false .add (.tmp 11) (.const (Go.Value.int Go.IntKind.i64 16)))⟩,
      ⟨some 2, none, .prim (.mov (.tmp 12))⟩]))
    .skip))
    (.seq (.seq (.ops [⟨some 13, none, .prim (.mov (.tmp 0))⟩,
      ⟨some 14, none, .prim (.bin false .geq (.tmp 13) (.const (Go.Value.int Go.IntKind.u64 256)))⟩])
    (.cond (.tmp 14)
    (.seq (.ops [⟨some 15, none, .prim (.mov (.tmp 0))⟩,
      ⟨some 16, none, .prim (.bin false .shr (.tmp 15) (.const (Go.Value.int Go.IntKind.u64 8)))⟩,
      ⟨some 0, none, .prim (.mov (.tmp 16))⟩])
    (.ops [⟨some 17, none, .prim (.mov (.tmp 2))⟩,
      ⟨some 18, none, .prim (.bin false .add (.tmp 17) (.const (Go.Value.int Go.IntKind.i64 8)))⟩,
      ⟨some 2, none, .prim (.mov (.tmp 18))⟩]))
    .skip))
    (.seq (.ops [⟨some 19, none, .prim (.mov (.tmp 2))⟩,
      ⟨some 20, none, .prim (.mov (.tmp 0))⟩,
      ⟨some 21, none, .prim (.convi .u8 (.tmp 20))⟩,
      ⟨some 22, none, .prim (.idxs (.const (Go.Value.string (ByteArray.mk #[0, 1, 2, 2, 3, 3, 3, 3, 4, 4, 4, 4, 4, 4, 4, 4, 5, 5, 5, 5, 5, 5, 5, 5, 5, 5, 5, 5, 5, 5, 5, 5, 6, 6, 6, 6, 6, 6, 6, 6, 6, 6, 6, 6, 6, 6, 6, 6, 6, 6, 6, 6, 6, 6, 6, 6, 6, 6, 6, 6, 6, 6, 6, 6, 7, 7, 7, 7, 7, 7, 7, 7, 7, 7, 7, 7, 7, 7, 7, 7, 7, 7, 7, 7, 7, 7, 7, 7, 7, 7, 7, 7, 7, 7, 7, 7, 7, 7, 7, 7, 7, 7, 7, 7, 7, 7, 7, 7, 7, 7, 7, 7, 7, 7, 7, 7, 7, 7, 7, 7, 7, 7, 7, 7, 7, 7, 7, 7, 8, 8, 8, 8, 8, 8, 8, 8, 8, 8, 8, 8, 8, 8, 8, 8, 8, 8, 8, 8, 8, 8, 8, 8, 8, 8, 8, 8, 8, 8, 8, 8, 8, 8, 8, 8, 8, 8, 8, 8, 8, 8, 8, 8, 8, 8, 8, 8, 8, 8, 8, 8, 8, 8, 8, 8, 8, 8, 8, 8, 8, 8, 8, 8, 8, 8, 8, 8, 8, 8, 8, 8, 8, 8, 8, 8, 8, 8, 8, 8, 8, 8, 8, 8, 8, 8, 8, 8, 8, 8, 8, 8, 8, 8, 8, 8, 8, 8, 8, 8, 8, 8, 8, 8, 8, 8, 8, 8, 8, 8, 8, 8, 8, 8, 8, 8, 8, 8, 8, 8, 8, 8, 8, 8, 8, 8, 8, 8]))) (.tmp 21))⟩,
      ⟨some 23, none, .prim (.convi .i64 (.tmp 22))⟩,
      ⟨some 24, none, .prim (.bin false .add (.tmp 19) (.tmp 23))⟩,
      ⟨some 2, none, .prim (.mov (.tmp 24))⟩])
    .ret)))))
def o79 : List Tmp := []
def r79 : List RV := [.tmp 2]
theorem t79 : Text Tryz.prog 79 o79 c79 r79 25 := ⟨⟨Tryz.f79, _, by kernel_rfl, by kernel_rfl, rfl, by kernel_rfl, by kernel_rfl, rfl⟩, by kernel_rfl⟩

/-- sordine/labels.letter -/
def c80 : ACode :=
  (.seq (.ops [⟨some 2, none, .prim (.mov (.const (Go.Value.bool Bool.false)))⟩])
    (.seq (.ops [⟨some 3, none, .prim (.mov (.tmp 0))⟩,
      ⟨some 4, none, .prim (.bin false .geq (.tmp 3) (.const (Go.Value.int Go.IntKind.u8 97)))⟩,
      ⟨some 5, none, .prim (.mov (.tmp 4))⟩,
      ⟨some 6, (some (5, true)), .prim (.mov (.tmp 0))⟩,
      ⟨some 7, (some (5, true)), .prim (.bin false .leq (.tmp 6) (.const (Go.Value.int Go.IntKind.u8 122)))⟩,
      ⟨some 8, none, .prim (.pick (.tmp 5) (.tmp 7) (.const (Go.Value.bool Bool.false)))⟩,
      ⟨some 9, none, .prim (.mov (.tmp 8))⟩,
      ⟨some 10, (some (9, false)), .prim (.mov (.tmp 0))⟩,
      ⟨some 11, (some (9, false)), .prim (.bin false .geq (.tmp 10) (.const (Go.Value.int Go.IntKind.u8 65)))⟩,
      ⟨some 12, (some (9, false)), .prim (.mov (.tmp 11))⟩,
      ⟨some 13, (some (12, true)), .prim (.mov (.tmp 0))⟩,
      ⟨some 14, (some (12, true)), .prim (.bin false .leq (.tmp 13) (.const (Go.Value.int Go.IntKind.u8 90)))⟩,
      ⟨some 15, (some (9, false)), .prim (.pick (.tmp 12) (.tmp 14) (.const (Go.Value.bool Bool.false)))⟩,
      ⟨some 16, none, .prim (.pick (.tmp 9) (.const (Go.Value.bool Bool.true)) (.tmp 15))⟩,
      ⟨some 17, none, .prim (.mov (.tmp 16))⟩,
      ⟨some 18, (some (17, false)), .prim (.mov (.tmp 0))⟩,
      ⟨some 19, (some (17, false)), .prim (.bin false .eql (.tmp 18) (.const (Go.Value.int Go.IntKind.u8 95)))⟩,
      ⟨some 20, none, .prim (.pick (.tmp 17) (.const (Go.Value.bool Bool.true)) (.tmp 19))⟩,
      ⟨some 2, none, .prim (.mov (.tmp 20))⟩])
    .ret))
def o80 : List Tmp := []
def r80 : List RV := [.tmp 2]
theorem t80 : Text Tryz.prog 80 o80 c80 r80 21 := ⟨⟨Tryz.f80, _, by kernel_rfl, by kernel_rfl, rfl, by kernel_rfl, by kernel_rfl, rfl⟩, by kernel_rfl⟩

/-- (*sordine/rex.parser).ways -/
def c81 : ACode :=
  (.seq (.ops [⟨some 4, none, .prim (.allocm [.pl (.int .i64 0), .pl (.int .u64 0), .pl (.int .u64 0), .pl (.int .u64 0), .pl (.int .u64 0), .nils])⟩])
    (.seq (.ops [⟨some 6, none, .prim (.mov (.tmp 0))⟩,
      ⟨some 7, none, .prim (.mov (.tmp 1))⟩,
      ⟨some 8, none, .call (.func 89) [(.tmp 6), (.tmp 7)]⟩,
      ⟨some 9, none, .prim (.bsl true 6 true 1 [.pl (.int .i64 0), .pl (.int .u64 0), .pl (.int .u64 0), .pl (.int .u64 0), .pl (.int .u64 0), .nils] [(0, 6, (.tmp 8))])⟩,
      ⟨some 5, none, .prim (.mov (.tmp 9))⟩])
    (.seq (.block 0 (.loop [2, 3, 6, 7, 8, 9, 10, 11, 12, 13, 14, 15, 16, 17, 18, 19, 20, 21, 22, 23, 24, 25] (.seq (.seq (.ops [⟨some 10, none, .prim (.mov (.tmp 0))⟩,
      ⟨some 11, none, .call (.func 90) [(.tmp 10), (.const (Go.Value.int Go.IntKind.u8 124))]⟩])
    (.cond (.tmp 11)
    .skip
    (.exit 0)))
    (.block 1 (.ops [⟨some 12, none, .prim (.mov (.tmp 5))⟩,
      ⟨some 13, none, .prim (.mov (.tmp 0))⟩,
      ⟨some 14, none, .prim (.mov (.tmp 1))⟩,
      ⟨some 15, none, .call (.func 89) [(.tmp 13), (.tmp 14)]⟩,
      ⟨some 16, none, .prim (.bsl false 6 true 1 [.pl (.int .i64 0), .pl (.int .u64 0), .pl (.int .u64 0), .pl (.int .u64 0), .pl (.int .u64 0), .nils] [(0, 6, (.tmp 15))])⟩,
      ⟨some 17, none, .prim (.app 6 (.tmp 12) (.tmp 16))⟩,
      ⟨some 5, none, .prim (.mov (.tmp 17))⟩])))))
    (.seq (.seq (.ops [⟨some 18, none, .prim (.mov (.tmp 5))⟩,
      ⟨some 19, none, .prim (.lenv (.tmp 18))⟩,
      ⟨some 20, none, .prim (.bin false .eql (.tmp 19) (.const (Go.Value.int Go.IntKind.i64 1)))⟩])
    (.cond (.tmp 20)
    (.seq (.ops [⟨some 21, none, .prim (.mov (.tmp 5))⟩,
      ⟨some 22, none, .prim (.iadrs 6 (.tmp 21) (.const (Go.Value.int Go.IntKind.i64 0)))⟩,
      ⟨some 23, none, .prim (.load 6 true (.tmp 22))⟩,
      ⟨none, none, .prim (.store 6 (.tmp 4) (.tmp 23))⟩])
    .ret)
    .skip))
    (.seq (.ghost (.shut 5) (.ops [⟨some 24, none, .prim (.mov (.tmp 5))⟩,
      ⟨some 25, none, .prim (.build [.pl (.int .i64 0), .pl (.int .u64 0), .pl (.int .u64 0), .pl (.int .u64 0), .pl (.int .u64 0), .nils] [(0, 1, (.const (Go.Value.int Go.IntKind.i64 3))), (5, 1, (.tmp 24))])⟩,
      ⟨none, none, .prim (.store 6 (.tmp 4) (.tmp 25))⟩]))
    .ret)))))
def o81 : List Tmp := [4, 9]
def r81 : List RV := [.cell 4 6 true]
theorem t81 : Text Tryz.prog 81 o81 c81 r81 26 := ⟨⟨Tryz.f81, _, by kernel_rfl, by kernel_rfl, rfl, by kernel_rfl, by kernel_rfl, rfl⟩, by kernel_rfl⟩

/-- internal/bytealg.CompareString -/
def c82 : ACode :=
  (.seq (.ops [⟨some 4, none, .prim (.mov (.const (Go.Value.int Go.IntKind.i64 0)))⟩])
    (.seq (.ops [⟨some 5, none, .prim (.mov (.tmp 0))⟩,
      ⟨some 6, none, .prim (.mov (.tmp 1))⟩,
      ⟨some 7, none, .call (.func 91) [(.tmp 5), (.tmp 6)]⟩,
      ⟨some 4, none, .prim (.mov (.tmp 7))⟩])
    .ret))
def o82 : List Tmp := []
def r82 : List RV := [.tmp 4]
theorem t82 : Text Tryz.prog 82 o82 c82 r82 8 := ⟨⟨Tryz.f82, _, by kernel_rfl, by kernel_rfl, rfl, by kernel_rfl, by kernel_rfl, rfl⟩, by kernel_rfl⟩

/-- cmp.isNaN[int] -/
def c83 : ACode :=
  (.seq (.ops [⟨some 2, none, .prim (.mov (.const (Go.Value.bool Bool.false)))⟩])
    (.seq (.ops [⟨some 3, none, .prim (.mov (.tmp 0))⟩,
      ⟨some 4, none, .prim (.mov (.tmp 0))⟩,
      ⟨some 5, none, .prim (.bin false .neq (.tmp 3) (.tmp 4))⟩,
      ⟨some 2, none, .prim (.mov (.tmp 5))⟩])
    .ret))
def o83 : List Tmp := []
def r83 : List RV := [.tmp 2]
theorem t83 : Text Tryz.prog 83 o83 c83 r83 6 := ⟨⟨Tryz.f83, _, by kernel_rfl, by kernel_rfl, rfl, by kernel_rfl, by kernel_rfl, rfl⟩, by kernel_rfl⟩

/-- slices.siftDownOrdered[int] -/
def c84 : ACode :=
  (.seq (.ops [⟨some 10, none, .prim (.mov (.tmp 1))⟩,
      ⟨some 8, none, .prim (.mov (.tmp 10))⟩])
    (.block 0 (.loop [1, 4, 5, 6, 7, 9, 10, 11, 12, 13, 14, 15, 16, 17, 18, 19, 20, 21, 22, 23, 24, 25, 26, 27, 28, 29, 30, 31, 32, 33, 34, 35, 36, 37, 38, 39, 40, 41, 42, 43, 44, 45, 46, 47, 48, 49, 50, 51, 52, 53, 54, 55, 56, 57, 58, 59, 60, 61, 62, 63, 64, 65, 66, 67, 68, 69, 70, 71, 72, 73, 74, 75] (.block 1 (.seq (.ops [⟨some 11, none, .prim (.mov (.tmp 8))⟩,
      ⟨some 12, none, .prim (.bin false .mul (.const (Go.Value.int Go.IntKind.i64 2)) (.tmp 11))⟩,
      ⟨some 13, none, .prim (.bin false .add (.tmp 12) (.const (Go.Value.int Go.IntKind.i64 1)))⟩,
      ⟨some 9, none, .prim (.mov (.tmp 13))⟩])
    (.seq (.seq (.ops [⟨some 14, none, .prim (.mov (.tmp 9))⟩,
      ⟨some 15, none, .prim (.mov (.tmp 2))⟩,
      ⟨some 16, none, .prim (.bin false .geq (.tmp 14) (.tmp 15))⟩])
    (.cond (.tmp 16)
    (.exit 0)
    .skip))
    (.seq (.seq (.draw [⟨⟨some 17, none, .prim (.mov (.tmp 9))⟩, [], false, 0, 0⟩,
      ⟨⟨some 18, none, .prim (.bin false .add (.tmp 17) (.const (Go.Value.int Go.IntKind.i64 1)))⟩, [0], false, 0, 0⟩,
      ⟨⟨some 19, none, .prim (.mov (.tmp 2))⟩, [], false, 0, 0⟩,
      ⟨⟨some 20, none, .prim (.bin false .lss (.tmp 18) (.tmp 19))⟩, [0, 1, 2], false, 0, 0⟩,
      ⟨⟨some 21, none, .prim (.mov (.tmp 20))⟩, [0, 1, 2, 3], false, 0, 0⟩,
      ⟨⟨some 22, (some (21, true)), .prim (.mov (.tmp 0))⟩, [0, 1, 2, 3, 4], false, 0, 0⟩,
      ⟨⟨some 23, (some (21, true)), .prim (.mov (.tmp 3))⟩, [0, 1, 2, 3, 4], false, 0, 0⟩,
      ⟨⟨some 24, (some (21, true)), .prim (.mov (.tmp 9))⟩, [0, 1, 2, 3, 4], false, 0, 0⟩,
      ⟨⟨some 25, (some (21, true)), .prim (.bin false .add (.tmp 23) (.tmp 24))⟩, [0, 1, 2, 3, 4, 6, 7], false, 0, 0⟩,
      ⟨⟨some 26, (some (21, true)), .prim (.iadrs 1 (.tmp 22) (.tmp 25))⟩, [0, 1, 2, 3, 4, 5, 6, 7, 8], false, 0, 0⟩,
      ⟨⟨some 27, (some (21, true)), .prim (.load 1 false (.tmp 26))⟩, [0, 1, 2, 3, 4, 5, 6, 7, 8, 9], false, 0, 0⟩,
      ⟨⟨some 28, (some (21, true)), .prim (.mov (.tmp 0))⟩, [0, 1, 2, 3, 4], false, 0, 0⟩,
      ⟨⟨some 29, (some (21, true)), .prim (.mov (.tmp 3))⟩, [0, 1, 2, 3, 4], false, 0, 0⟩,
      ⟨⟨some 30, (some (21, true)), .prim (.mov (.tmp 9))⟩, [0, 1, 2, 3, 4], false, 0, 0⟩,
      ⟨⟨some 31, (some (21, true)), .prim (.bin false .add (.tmp 29) (.tmp 30))⟩, [0, 1, 2, 3, 4, 12, 13], false, 0, 0⟩,
      ⟨⟨some 32, (some (21, true)), .prim (.bin false .add (.tmp 31) (.const (Go.Value.int Go.IntKind.i64 1)))⟩, [0, 1, 2, 3, 4, 12, 13, 14], false, 0, 0⟩,
      ⟨⟨some 33, (some (21, true)), .prim (.iadrs 1 (.tmp 28) (.tmp 32))⟩, [0, 1, 2, 3, 4, 11, 12, 13, 14, 15], false, 0, 0⟩,
      ⟨⟨some 34, (some (21, true)), .prim (.load 1 false (.tmp 33))⟩, [0, 1, 2, 3, 4, 11, 12, 13, 14, 15, 16], false, 0, 0⟩,
      ⟨⟨some 35, (some (21, true)), .call (.func 75) [(.tmp 27), (.tmp 34)]⟩, [0, 1, 2, 3, 4, 5, 6, 7, 8, 9, 10, 11, 12, 13, 14, 15, 16, 17], true, 0, 0⟩,
      ⟨⟨some 36, none, .prim (.pick (.tmp 21) (.tmp 35) (.const (Go.Value.bool Bool.false)))⟩, [0, 1, 2, 3, 4, 5, 6, 7, 8, 9, 10, 11, 12, 13, 14, 15, 16, 17, 18], false, 1, 1⟩])
    (.cond (.tmp 36)
    (.ops [⟨some 37, none, .prim (.mov (.tmp 9))⟩,
      ⟨some 38, none, .prim (.bin false .add (.tmp 37) (.const (Go.Value.int Go.IntKind.i64 1)))⟩,
      ⟨some 9, none, .prim (.mov (.tmp 38))⟩])
    .skip))
    (.seq (.seq (.draw [⟨⟨some 39, none, .prim (.mov (.tmp 0))⟩, [], false, 0, 0⟩,
      ⟨⟨some 40, none, .prim (.mov (.tmp 3))⟩, [], false, 0, 0⟩,
      ⟨⟨some 41, none, .prim (.mov (.tmp 8))⟩, [], false, 0, 0⟩,
      ⟨⟨some 42, none, .prim (.bin false .add (.tmp 40) (.tmp 41))⟩, [1, 2], false, 0, 0⟩,
      ⟨⟨some 43, none, .prim (.iadrs 1 (.tmp 39) (.tmp 42))⟩, [0, 1, 2, 3], false, 0, 0⟩,
      ⟨⟨some 44, none, .prim (.load 1 false (.tmp 43))⟩, [0, 1, 2, 3, 4], false, 0, 0⟩,
      ⟨⟨some 45, none, .prim (.mov (.tmp 0))⟩, [], false, 0, 0⟩,
      ⟨⟨some 46, none, .prim (.mov (.tmp 3))⟩, [], false, 0, 0⟩,
      ⟨⟨some 47, none, .prim (.mov (.tmp 9))⟩, [], false, 0, 0⟩,
      ⟨⟨some 48, none, .prim (.bin false .add (.tmp 46) (.tmp 47))⟩, [7, 8], false, 0, 0⟩,
      ⟨⟨some 49, none, .prim (.iadrs 1 (.tmp 45) (.tmp 48))⟩, [6, 7, 8, 9], false, 0, 0⟩,
      ⟨⟨some 50, none, .prim (.load 1 false (.tmp 49))⟩, [6, 7, 8, 9, 10], false, 0, 0⟩,
      ⟨⟨some 51, none, .call (.func 75) [(.tmp 44), (.tmp 50)]⟩, [0, 1, 2, 3, 4, 5, 6, 7, 8, 9, 10, 11], true, 0, 0⟩,
      ⟨⟨some 52, none, .prim (.un .not (.tmp 51))⟩, [0, 1, 2, 3, 4, 5, 6, 7, 8, 9, 10, 11, 12], false, 1, 1⟩])
    (.cond (.tmp 52)
    .ret
    .skip))
    (.seq (.draw [⟨⟨some 53, none, .prim (.mov (.tmp 0))⟩, [], false, 0, 0⟩,
      ⟨⟨some 54, none, .prim (.mov (.tmp 3))⟩, [], false, 0, 0⟩,
      ⟨⟨some 55, none, .prim (.mov (.tmp 8))⟩, [], false, 0, 0⟩,
      ⟨⟨some 56, none, .prim (.bin false .add (.tmp 54) (.tmp 55))⟩, [1, 2], false, 0, 0⟩,
      ⟨⟨some 57, none, .prim (.mov (.tmp 0))⟩, [], false, 0, 1⟩,
      ⟨⟨some 58, none, .prim (.mov (.tmp 3))⟩, [], false, 0, 1⟩,
      ⟨⟨some 59, none, .prim (.mov (.tmp 9))⟩, [], false, 0, 1⟩,
      ⟨⟨some 60, none, .prim (.bin false .add (.tmp 58) (.tmp 59))⟩, [5, 6], false, 0, 1⟩,
      ⟨⟨some 61, none, .prim (.mov (.tmp 0))⟩, [], false, 0, 0⟩,
      ⟨⟨some 62, none, .prim (.mov (.tmp 3))⟩, [], false, 0, 0⟩,
      ⟨⟨some 63, none, .prim (.mov (.tmp 9))⟩, [], false, 0, 0⟩,
      ⟨⟨some 64, none, .prim (.bin false .add (.tmp 62) (.tmp 63))⟩, [9, 10], false, 0, 0⟩,
      ⟨⟨some 65, none, .prim (.iadrs 1 (.tmp 61) (.tmp 64))⟩, [8, 9, 10, 11], false, 0, 0⟩,
      ⟨⟨some 66, none, .prim (.load 1 false (.tmp 65))⟩, [8, 9, 10, 11, 12], false, 0, 0⟩,
      ⟨⟨some 67, none, .prim (.mov (.tmp 0))⟩, [], false, 0, 0⟩,
      ⟨⟨some 68, none, .prim (.mov (.tmp 3))⟩, [], false, 0, 0⟩,
      ⟨⟨some 69, none, .prim (.mov (.tmp 8))⟩, [], false, 0, 0⟩,
      ⟨⟨some 70, none, .prim (.bin false .add (.tmp 68) (.tmp 69))⟩, [15, 16], false, 0, 0⟩,
      ⟨⟨some 71, none, .prim (.iadrs 1 (.tmp 67) (.tmp 70))⟩, [14, 15, 16, 17], false, 0, 0⟩,
      ⟨⟨some 72, none, .prim (.load 1 false (.tmp 71))⟩, [14, 15, 16, 17, 18], false, 0, 0⟩,
      ⟨⟨some 73, none, .prim (.iadrs 1 (.tmp 53) (.tmp 56))⟩, [0, 1, 2, 3, 8, 9, 10, 11, 12, 13, 14, 15, 16, 17, 18, 19], false, 0, 0⟩,
      ⟨⟨none, none, .prim (.store 1 (.tmp 73) (.tmp 66))⟩, [0, 1, 2, 3, 8, 9, 10, 11, 12, 13, 14, 15, 16, 17, 18, 19, 20], true, 0, 0⟩,
      ⟨⟨some 74, none, .prim (.iadrs 1 (.tmp 57) (.tmp 60))⟩, [0, 1, 2, 3, 4, 5, 6, 7, 8, 9, 10, 11, 12, 13, 14, 15, 16, 17, 18, 19, 20, 21], false, 1, 1⟩,
      ⟨⟨none, none, .prim (.store 1 (.tmp 74) (.tmp 72))⟩, [0, 1, 2, 3, 4, 5, 6, 7, 8, 9, 10, 11, 12, 13, 14, 15, 16, 17, 18, 19, 20, 21, 22], true, 0, 0⟩])
    (.ops [⟨some 75, none, .prim (.mov (.tmp 9))⟩,
      ⟨some 8, none, .prim (.mov (.tmp 75))⟩]))))))))))
def o84 : List Tmp := []
def r84 : List RV := []
theorem t84 : Text Tryz.prog 84 o84 c84 r84 76 := ⟨⟨Tryz.f84, _, by kernel_rfl, by kernel_rfl, rfl, by kernel_rfl, by kernel_rfl, rfl⟩, by kernel_rfl⟩

/-- slices.nextPowerOfTwo -/
def c85 : ACode :=
  (.seq (.ops [⟨some 2, none, .prim (.mov (.const (Go.Value.int Go.IntKind.u64 0)))⟩])
    (.seq (.ops [⟨some 3, none, .prim (.mov (.tmp 0))⟩,
      ⟨some 4, none, .prim (.convi .u64 (.tmp 3))⟩,
      ⟨some 5, none, .call (.func 60) [(.tmp 4)]⟩,
      ⟨some 6, none, .prim (.bin false .shl (.const (Go.Value.int Go.IntKind.u64 1)) (.tmp 5))⟩,
      ⟨some 2, none, .prim (.mov (.tmp 6))⟩])
    .ret))
def o85 : List Tmp := []
def r85 : List RV := [.tmp 2]
theorem t85 : Text Tryz.prog 85 o85 c85 r85 7 := ⟨⟨Tryz.f85, _, by kernel_rfl, by kernel_rfl, rfl, by kernel_rfl, by kernel_rfl, rfl⟩, by kernel_rfl⟩

/-- (*slices.xorshift).Next -/
def c86 : ACode :=
  (.seq (.ops [⟨some 2, none, .prim (.mov (.const (Go.Value.int Go.IntKind.u64 0)))⟩])
    (.seq (.draw [⟨⟨some 3, none, .prim (.mov (.tmp 0))⟩, [], false, 0, 0⟩,
      ⟨⟨some 4, none, .prim (.nilc (.tmp 3))⟩, [0], false, 0, 0⟩,
      ⟨⟨some 5, none, .prim (.load 1 false (.tmp 4))⟩, [0, 1], false, 0, 0⟩,
      ⟨⟨some 6, none, .prim (.mov (.tmp 0))⟩, [], false, 0, 0⟩,
      ⟨⟨some 7, none, .prim (.nilc (.tmp 6))⟩, [3], false, 0, 0⟩,
      ⟨⟨some 8, none, .prim (.load 1 false (.tmp 7))⟩, [3, 4], false, 0, 0⟩,
      ⟨⟨some 9, none, .prim (.bin false .shl (.tmp 8) (.const (Go.Value.int Go.IntKind.u64 13)))⟩, [3, 4, 5], false, 0, 0⟩,
      ⟨⟨some 10, none, .prim (.bin false .xor (.tmp 5) (.tmp 9))⟩, [0, 1, 2, 3, 4, 5, 6], false, 0, 0⟩,
      ⟨⟨some 11, none, .prim (.nilc (.tmp 3))⟩, [0, 1, 2, 3, 4, 5, 6, 7], false, 0, 0⟩,
      ⟨⟨none, none, .prim (.store 1 (.tmp 11) (.tmp 10))⟩, [0, 1, 2, 3, 4, 5, 6, 7, 8], true, 0, 0⟩])
    (.seq (.draw [⟨⟨some 12, none, .prim (.mov (.tmp 0))⟩, [], false, 0, 0⟩,
      ⟨⟨some 13, none, .prim (.nilc (.tmp 12))⟩, [0], false, 0, 0⟩,
      ⟨⟨some 14, none, .prim (.load 1 false (.tmp 13))⟩, [0, 1], false, 0, 0⟩,
      ⟨⟨some 15, none, .prim (.mov (.tmp 0))⟩, [], false, 0, 0⟩,
      ⟨⟨some 16, none, .prim (.nilc (.tmp 15))⟩, [3], false, 0, 0⟩,
      ⟨⟨some 17, none, .prim (.load 1 false (.tmp 16))⟩, [3, 4], false, 0, 0⟩,
      ⟨⟨some 18, none, .prim (.bin false .shr (.tmp 17) (.const (Go.Value.int Go.IntKind.u64 7)))⟩, [3, 4, 5], false, 0, 0⟩,
      ⟨⟨some 19, none, .prim (.bin false .xor (.tmp 14) (.tmp 18))⟩, [0, 1, 2, 3, 4, 5, 6], false, 0, 0⟩,
      ⟨⟨some 20, none, .prim (.nilc (.tmp 12))⟩, [0, 1, 2, 3, 4, 5, 6, 7], false, 0, 0⟩,
      ⟨⟨none, none, .prim (.store 1 (.tmp 20) (.tmp 19))⟩, [0, 1, 2, 3, 4, 5, 6, 7, 8], true, 0, 0⟩])
    (.seq (.draw [⟨⟨some 21, none, .prim (.mov (.tmp 0))⟩, [], false, 0, 0⟩,
      ⟨⟨some 22, none, .prim (.nilc (.tmp 21))⟩, [0], false, 0, 0⟩,
      ⟨⟨some 23, none, .prim (.load 1 false (.tmp 22))⟩, [0, 1], false, 0, 0⟩,
      ⟨⟨some 24, none, .prim (.mov (.tmp 0))⟩, [], false, 0, 0⟩,
      ⟨⟨some 25, none, .prim (.nilc (.tmp 24))⟩, [3], false, 0, 0⟩,
      ⟨⟨some 26, none, .prim (.load 1 false (.tmp 25))⟩, [3, 4], false, 0, 0⟩,
      ⟨⟨some 27, none, .prim (.bin false .shl (.tmp 26) (.const (Go.Value.int Go.IntKind.u64 17)))⟩, [3, 4, 5], false, 0, 0⟩,
      ⟨⟨some 28, none, .prim (.bin false .xor (.tmp 23) (.tmp 27))⟩, [0, 1, 2, 3, 4, 5, 6], false, 0, 0⟩,
      ⟨⟨some 29, none, .prim (.nilc (.tmp 21))⟩, [0, 1, 2, 3, 4, 5, 6, 7], false, 0, 0⟩,
      ⟨⟨none, none, .prim (.store 1 (.tmp 29) (.tmp 28))⟩, [0, 1, 2, 3, 4, 5, 6, 7, 8], true, 0, 0⟩])
    (.seq (.ops [⟨some 30, none, .prim (.mov (.tmp 0))⟩,
      ⟨some 31, none, .prim (.nilc (.tmp 30))⟩,
      ⟨some 32, none, .prim (.load 1 false (.tmp 31))⟩,
      ⟨some 2, none, .prim (.mov (.tmp 32))⟩])
    .ret)))))
def o86 : List Tmp := []
def r86 : List RV := [.tmp 2]
theorem t86 : Text Tryz.prog 86 o86 c86 r86 33 := ⟨⟨Tryz.f86, _, by kernel_rfl, by kernel_rfl, rfl, by kernel_rfl, by kernel_rfl, rfl⟩, by kernel_rfl⟩

/-- slices.medianAdjacentOrdered[int] -/
def c87 : ACode :=
  (.seq (.ops [⟨some 6, none, .prim (.mov (.const (Go.Value.int Go.IntKind.i64 0)))⟩])
    (.seq (.ops [⟨some 7, none, .prim (.mov (.tmp 0))⟩,
      ⟨some 8, none, .prim (.mov (.tmp 1))⟩,
      ⟨some 9, none, .prim (.bin false .sub (.tmp 8) (.const (Go.Value.int Go.IntKind.i64 1)))⟩,
      ⟨some 10, none, .prim (.mov (.tmp 1))⟩,
      ⟨some 11, none, .prim (.mov (.tmp 1))⟩,
      ⟨some 12, none, .prim (.bin false .add (.tmp 11) (.const (Go.Value.int Go.IntKind.i64 1)))⟩,
      ⟨some 13, none, .prim (.mov (.tmp 2))⟩,
      ⟨some 14, none, .call (.func 88) [(.tmp 7), (.tmp 9), (.tmp 10), (.tmp 12), (.tmp 13)]⟩,
      ⟨some 6, none, .prim (.mov (.tmp 14))⟩])
    .ret))
def o87 : List Tmp := []
def r87 : List RV := [.tmp 6]
theorem t87 : Text Tryz.prog 87 o87 c87 r87 15 := ⟨⟨Tryz.f87, _, by kernel_rfl, by kernel_rfl, rfl, by kernel_rfl, by kernel_rfl, rfl⟩, by kernel_rfl⟩

/-- slices.medianOrdered[int] -/
def c88 : ACode :=
  (.seq (.ops [⟨some 10, none, .prim (.mov (.const (Go.Value.int Go.IntKind.i64 0)))⟩])
    (.seq (.ops [⟨some 12, none, .prim (.mov (.tmp 0))⟩,
      ⟨some 13, none, .prim (.mov (.tmp 1))⟩,
      ⟨some 14, none, .prim (.mov (.tmp 2))⟩,
      ⟨some 15, none, .prim (.mov (.tmp 4))⟩,
      ⟨some 16, none, .call (.func 92) [(.tmp 12), (.tmp 13), (.tmp 14), (.tmp 15)]⟩,
      ⟨some 11, none, .prim (.mov (.tmp 16))⟩,
      ⟨some 17, none, .prim (.extr 0 (.tmp 11))⟩,
      ⟨some 18, none, .prim (.extr 1 (.tmp 11))⟩,
      ⟨some 1, none, .prim (.mov (.tmp 17))⟩,
      ⟨some 2, none, .prim (.mov (.tmp 18))⟩])
    (.seq (.ops [⟨some 20, none, .prim (.mov (.tmp 0))⟩,
      ⟨some 21, none, .prim (.mov (.tmp 2))⟩,
      ⟨some 22, none, .prim (.mov (.tmp 3))⟩,
      ⟨some 23, none, .prim (.mov (.tmp 4))⟩,
      ⟨some 24, none, .call (.func 92) [(.tmp 20), (.tmp 21), (.tmp 22), (.tmp 23)]⟩,
      ⟨some 19, none, .prim (.mov (.tmp 24))⟩,
      ⟨some 25, none, .prim (.extr 0 (.tmp 19))⟩,
      ⟨some 26, none, .prim (.extr 1 (.tmp 19))⟩,
      ⟨some 2, none, .prim (.mov (.tmp 25))⟩,
      ⟨some 3, none, .prim (.mov (.tmp 26))⟩])
    (.seq (.ops [⟨some 28, none, .prim (.mov (.tmp 0))⟩,
      ⟨some 29, none, .prim (.mov (.tmp 1))⟩,
      ⟨some 30, none, .prim (.mov (.tmp 2))⟩,
      ⟨some 31, none, .prim (.mov (.tmp 4))⟩,
      ⟨some 32, none, .call (.func 92) [(.tmp 28), (.tmp 29), (.tmp 30), (.tmp 31)]⟩,
      ⟨some 27, none, .prim (.mov (.tmp 32))⟩,
      ⟨some 33, none, .prim (.extr 0 (.tmp 27))⟩,
      ⟨some 34, none, .prim (.extr 1 (.tmp 27))⟩,
      ⟨some 1, none, .prim (.mov (.tmp 33))⟩,
      ⟨some 2, none, .prim (.mov (.tmp 34))⟩])
    (.seq (.ops [⟨some 35, none, .prim (.mov (.tmp 2))⟩,
      ⟨some 10, none, .prim (.mov (.tmp 35))⟩])
    .ret)))))
def o88 : List Tmp := []
def r88 : List RV := [.tmp 10]
theorem t88 : Text Tryz.prog 88 o88 c88 r88 36 := ⟨⟨Tryz.f88, _, by kernel_rfl, by kernel_rfl, rfl, by kernel_rfl, by kernel_rfl, rfl⟩, by kernel_rfl⟩

/-- (*sordine/rex.parser).way -/
def c89 : ACode :=
  (.seq (.ops [⟨some 4, none, .prim (.allocm [.pl (.int .i64 0), .pl (.int .u64 0), .pl (.int .u64 0), .pl (.int .u64 0), .pl (.int .u64 0), .nils])⟩])
    (.seq (.ops [⟨some 5, none, .prim (.mov (.const (Go.Value.slice Option.none 0 0)))⟩])
    (.seq (.block 0 (.loop [2, 3, 6, 7, 8, 9, 10, 11, 12, 13, 14, 15, 16, 17, 18, 19, 20, 21, 22, 23, 24, 25, 26, 27, 28, 29, 30, 31, 32] (.seq (.seq (.ops [⟨some 6, none, .prim (.mov (.tmp 0))⟩,
      ⟨some 7, none, .call (.func 93) [(.tmp 6)]⟩,
      ⟨some 8, none, .prim (.un .not (.tmp 7))⟩,
      ⟨some 9, none, .prim (.mov (.tmp 8))⟩,
      ⟨some 10, (some (9, true)), .prim (.mov (.tmp 0))⟩,
      ⟨some 11, (some (9, true)), .call (.func 94) [(.tmp 10), (.const (Go.Value.int Go.IntKind.u8 124))]⟩,
      ⟨some 12, (some (9, true)), .prim (.un .not (.tmp 11))⟩,
      ⟨some 13, none, .prim (.pick (.tmp 9) (.tmp 12) (.const (Go.Value.bool Bool.false)))⟩,
      ⟨some 14, none, .prim (.mov (.tmp 13))⟩,
      ⟨some 15, (some (14, true)), .prim (.mov (.tmp 0))⟩,
      ⟨some 16, (some (14, true)), .call (.func 94) [(.tmp 15), (.const (Go.Value.int Go.IntKind.u8 41))]⟩,
      ⟨some 17, (some (14, true)), .prim (.un .not (.tmp 16))⟩,
      ⟨some 18, none, .prim (.pick (.tmp 14) (.tmp 17) (.const (Go.Value.bool Bool.false)))⟩])
    (.cond (.tmp 18)
    .skip
    (.exit 0)))
    (.block 1 (.ops [⟨some 19, none, .prim (.mov (.tmp 5))⟩,
      ⟨some 20, none, .prim (.mov (.tmp 0))⟩,
      ⟨some 21, none, .prim (.mov (.tmp 1))⟩,
      ⟨some 22, none, .call (.func 95) [(.tmp 20), (.tmp 21)]⟩,
      ⟨some 23, none, .prim (.bsl false 6 true 1 [.pl (.int .i64 0), .pl (.int .u64 0), .pl (.int .u64 0), .pl (.int .u64 0), .pl (.int .u64 0), .nils] [(0, 6, (.tmp 22))])⟩,
      ⟨some 24, none, .prim (.app 6 (.tmp 19) (.tmp 23))⟩,
      ⟨some 5, none, .prim (.mov (.tmp 24))⟩])))))
    (.seq (.seq (.ops [⟨some 25, none, .prim (.mov (.tmp 5))⟩,
      ⟨some 26, none, .prim (.lenv (.tmp 25))⟩,
      ⟨some 27, none, .prim (.bin false .eql (.tmp 26) (.const (Go.Value.int Go.IntKind.i64 1)))⟩])
    (.cond (.tmp 27)
    (.seq (.ops [⟨some 28, none, .prim (.mov (.tmp 5))⟩,
      ⟨some 29, none, .prim (.iadrs 6 (.tmp 28) (.const (Go.Value.int Go.IntKind.i64 0)))⟩,
      ⟨some 30, none, .prim (.load 6 true (.tmp 29))⟩,
      ⟨none, none, .prim (.store 6 (.tmp 4) (.tmp 30))⟩])
    .ret)
    .skip))
    (.seq (.ghost (.shut 5) (.ops [⟨some 31, none, .prim (.mov (.tmp 5))⟩,
      ⟨some 32, none, .prim (.build [.pl (.int .i64 0), .pl (.int .u64 0), .pl (.int .u64 0), .pl (.int .u64 0), .pl (.int .u64 0), .nils] [(0, 1, (.const (Go.Value.int Go.IntKind.i64 2))), (5, 1, (.tmp 31))])⟩,
      ⟨none, none, .prim (.store 6 (.tmp 4) (.tmp 32))⟩]))
    .ret)))))
def o89 : List Tmp := [4]
def r89 : List RV := [.cell 4 6 true]
theorem t89 : Text Tryz.prog 89 o89 c89 r89 33 := ⟨⟨Tryz.f89, _, by kernel_rfl, by kernel_rfl, rfl, by kernel_rfl, by kernel_rfl, rfl⟩, by kernel_rfl⟩

/-- (*sordine/rex.parser).next -/
def c90 : ACode :=
  (.seq (.ops [⟨some 4, none, .prim (.mov (.const (Go.Value.bool Bool.false)))⟩])
    (.seq (.seq (.ops [⟨some 5, none, .prim (.mov (.tmp 0))⟩,
      ⟨some 6, none, .prim (.mov (.tmp 1))⟩,
      ⟨some 7, none, .call (.func 94) [(.tmp 5), (.tmp 6)]⟩,
      ⟨some 8, none, .prim (.un .not (.tmp 7))⟩])
    (.cond (.tmp 8)
    (.seq (.ops [⟨some 4, none, .prim (.mov (.const (Go.Value.bool Bool.false)))⟩])
    .ret)
    .skip))
    (.seq (.ops [⟨some 9, none, .prim (.mov (.tmp 0))⟩,
      ⟨some 10, none, .prim (.nilc (.tmp 9))⟩,
      ⟨some 11, none, .prim (.fadr 1 (.tmp 10))⟩,
      ⟨some 12, none, .prim (.load 1 false (.tmp 11))⟩,
      ⟨some 13, none, .prim (.bin false .add (.tmp 12) (.const (Go.Value.int Go.IntKind.i64 1)))⟩,
      ⟨some 14, none, .prim (.nilc (.tmp 9))⟩,
      ⟨some 15, none, .prim (.fadr 1 (.tmp 14))⟩,
      ⟨none, none, .prim (.store 1 (.tmp 15) (.tmp 13))⟩])
    (.seq (.ops [⟨some 4, none, .prim (.mov (.const (Go.Value.bool Bool.true)))⟩])
    .ret))))
def o90 : List Tmp := []
def r90 : List RV := [.tmp 4]
theorem t90 : Text Tryz.prog 90 o90 c90 r90 16 := ⟨⟨Tryz.f90, _, by kernel_rfl, by kernel_rfl, rfl, by kernel_rfl, by kernel_rfl, rfl⟩, by kernel_rfl⟩

end Go.Proofs.YtgnoebkcephdmabGreat
