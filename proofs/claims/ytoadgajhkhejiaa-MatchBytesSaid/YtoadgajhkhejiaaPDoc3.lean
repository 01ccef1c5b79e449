/- What stands in brackets, as the document reads it. No condition. -/
import Derived.Test.YtoadgajhkhejiaaPDoc1
set_option linter.unusedSimpArgs false
set_option linter.unusedVariables false
namespace Go.Proofs.Ytoadgajhkhejiaa
open Go Go.Ab
set_option maxRecDepth 100000
open Rex
def dTo (s : ByteArray) (a : Nat) : Nat × Nat × Bool :=
  if sees s (dmember s a).2.1 (dmember s a).2.2 45 then dmember s ((dmember s a).2.1 + 1) else dmember s a
def dBad (s : ByteArray) (a : Nat) : Bool := (dTo s a).2.2 || decide ((dTo s a).1 < (dmember s a).1)
def dGo (s : ByteArray) (a : Nat) (b : Bool) : Bool := !over s a b && !sees s a b 93
def dclassL (s : ByteArray) : Nat → List Int → Nat → Bool → Nat → List Int × Nat × Bool × Nat
  | 0, S, a, b, n => (S, a, b, n)
  | k + 1, S, a, b, n => if dGo s a b then
      dclassL s k (addR S (dmember s a).1 ((dTo s a).1 + 1 - (dmember s a).1)) (dTo s a).2.1 (dBad s a) (n + 1)
    else (S, a, b, n)
def zeroR : Rex := .mk 0 0 0 0 0 []
def dOut (s : ByteArray) (neg : Bool) (l : List Int × Nat × Bool × Nat) : Rex × Nat × Bool :=
  if over s l.2.1 l.2.2.1 || l.2.2.2 == 0 then (zeroR, l.2.1, true)
  else (ofSet (if neg then turnS l.1 else l.1), l.2.1 + 1, false)
def dclass (s : ByteArray) (a : Nat) : Rex × Nat × Bool :=
  dOut s (sees s a false 94) (dclassL s (s.size + 3) z4 (nextA s a false 94) false 0)
def c55c : List Tmp := [1, 6, 7, 8, 9, 10, 11, 12, 13, 14, 15, 16, 17, 18, 19, 20, 21, 22, 23, 24, 25, 26, 27, 28, 29, 30, 31, 32, 33, 34, 35, 36, 37, 38, 39, 40, 41, 42, 43, 44, 45, 46, 47, 48, 49, 50, 51, 52, 53, 54, 55, 56, 57, 58, 59, 60, 61, 62, 63, 64, 65, 66, 67, 68, 69, 70, 71, 72, 73, 74, 75, 76, 77, 78, 79, 80, 81, 82, 83, 84, 85, 86, 87, 88, 89, 90, 91, 92, 93, 94, 95, 96, 97, 98, 99, 100, 101, 102, 103, 104, 105, 106, 107, 108, 109, 110, 111, 112, 113, 114, 115, 116, 117, 118, 119, 120, 121, 122, 123, 124, 125, 126, 127, 128]
def c55x : ACode :=
  (.seq (.seq (.draw [⟨⟨some 32, none, .prim (.mov (.tmp 0))⟩, [], false, 0, 0⟩,
      ⟨⟨some 33, none, .call (.func 120) [(.tmp 32)]⟩, [0], true, 0, 0⟩,
      ⟨⟨some 34, none, .prim (.mov (.tmp 33))⟩, [0, 1], false, 1, 1⟩,
      ⟨⟨some 35, (some (34, true)), .prim (.mov (.tmp 0))⟩, [0, 1, 2], false, 1, 1⟩,
      ⟨⟨some 36, (some (34, true)), .prim (.nilc (.tmp 35))⟩, [0, 1, 2, 3], false, 1, 1⟩,
      ⟨⟨some 37, (some (34, true)), .prim (.fadr 0 (.tmp 36))⟩, [0, 1, 2, 3, 4], false, 1, 1⟩,
      ⟨⟨some 38, (some (34, true)), .prim (.load 1 false (.tmp 37))⟩, [0, 1, 2, 3, 4, 5], false, 1, 1⟩,
      ⟨⟨some 39, (some (34, true)), .prim (.mov (.tmp 0))⟩, [0, 1, 2], false, 1, 1⟩,
      ⟨⟨some 40, (some (34, true)), .prim (.nilc (.tmp 39))⟩, [0, 1, 2, 7], false, 1, 1⟩,
      ⟨⟨some 41, (some (34, true)), .prim (.fadr 1 (.tmp 40))⟩, [0, 1, 2, 7, 8], false, 1, 1⟩,
      ⟨⟨some 42, (some (34, true)), .prim (.load 1 false (.tmp 41))⟩, [0, 1, 2, 7, 8, 9], false, 1, 1⟩,
      ⟨⟨some 43, (some (34, true)), .prim (.idxs (.tmp 38) (.tmp 42))⟩, [0, 1, 2, 3, 4, 5, 6, 7, 8, 9, 10], false, 1, 1⟩,
      ⟨⟨some 44, (some (34, true)), .prim (.bin false .neq (.tmp 43) (.const (Go.Value.int Go.IntKind.u8 93)))⟩, [0, 1, 2, 3, 4, 5, 6, 7, 8, 9, 10, 11], false, 1, 1⟩,
      ⟨⟨some 45, none, .prim (.pick (.tmp 34) (.tmp 44) (.const (Go.Value.bool Bool.false)))⟩, [0, 1, 2, 3, 4, 5, 6, 7, 8, 9, 10, 11, 12], false, 1, 1⟩])
    (.cond (.tmp 45)
    .skip
    (.exit 0)))
    (.block 1 (.seq (.ops [⟨some 46, none, .prim (.mov (.tmp 0))⟩,
      ⟨some 47, none, .call (.func 158) [(.tmp 46)]⟩,
      ⟨some 6, none, .prim (.mov (.tmp 47))⟩])
    (.seq (.ops [⟨some 48, none, .prim (.mov (.tmp 6))⟩,
      ⟨some 7, none, .prim (.mov (.tmp 48))⟩])
    (.seq (.seq (.draw [⟨⟨some 49, none, .prim (.mov (.tmp 0))⟩, [], false, 0, 0⟩,
      ⟨⟨some 50, none, .call (.func 120) [(.tmp 49)]⟩, [0], true, 0, 0⟩,
      ⟨⟨some 51, none, .prim (.mov (.tmp 50))⟩, [0, 1], false, 1, 1⟩,
      ⟨⟨some 52, (some (51, true)), .prim (.mov (.tmp 0))⟩, [0, 1, 2], false, 1, 1⟩,
      ⟨⟨some 53, (some (51, true)), .prim (.nilc (.tmp 52))⟩, [0, 1, 2, 3], false, 1, 1⟩,
      ⟨⟨some 54, (some (51, true)), .prim (.fadr 0 (.tmp 53))⟩, [0, 1, 2, 3, 4], false, 1, 1⟩,
      ⟨⟨some 55, (some (51, true)), .prim (.load 1 false (.tmp 54))⟩, [0, 1, 2, 3, 4, 5], false, 1, 1⟩,
      ⟨⟨some 56, (some (51, true)), .prim (.mov (.tmp 0))⟩, [0, 1, 2], false, 1, 1⟩,
      ⟨⟨some 57, (some (51, true)), .prim (.nilc (.tmp 56))⟩, [0, 1, 2, 7], false, 1, 1⟩,
      ⟨⟨some 58, (some (51, true)), .prim (.fadr 1 (.tmp 57))⟩, [0, 1, 2, 7, 8], false, 1, 1⟩,
      ⟨⟨some 59, (some (51, true)), .prim (.load 1 false (.tmp 58))⟩, [0, 1, 2, 7, 8, 9], false, 1, 1⟩,
      ⟨⟨some 60, (some (51, true)), .prim (.idxs (.tmp 55) (.tmp 59))⟩, [0, 1, 2, 3, 4, 5, 6, 7, 8, 9, 10], false, 1, 1⟩,
      ⟨⟨some 61, (some (51, true)), .prim (.bin false .eql (.tmp 60) (.const (Go.Value.int Go.IntKind.u8 45)))⟩, [0, 1, 2, 3, 4, 5, 6, 7, 8, 9, 10, 11], false, 1, 1⟩,
      ⟨⟨some 62, none, .prim (.pick (.tmp 51) (.tmp 61) (.const (Go.Value.bool Bool.false)))⟩, [0, 1, 2, 3, 4, 5, 6, 7, 8, 9, 10, 11, 12], false, 1, 1⟩])
    (.cond (.tmp 62)
    (.seq (.ops [⟨some 63, none, .prim (.mov (.tmp 0))⟩,
      ⟨some 64, none, .prim (.nilc (.tmp 63))⟩,
      ⟨some 65, none, .prim (.fadr 1 (.tmp 64))⟩,
      ⟨some 66, none, .prim (.load 1 false (.tmp 65))⟩,
      ⟨some 67, none, .prim (.bin false .add (.tmp 66) (.const (Go.Value.int Go.IntKind.i64 1)))⟩,
      ⟨some 68, none, .prim (.nilc (.tmp 63))⟩,
      ⟨some 69, none, .prim (.fadr 1 (.tmp 68))⟩,
      ⟨none, none, .prim (.store 1 (.tmp 69) (.tmp 67))⟩])
    (.ops [⟨some 70, none, .prim (.mov (.tmp 0))⟩,
      ⟨some 71, none, .call (.func 158) [(.tmp 70)]⟩,
      ⟨some 7, none, .prim (.mov (.tmp 71))⟩]))
    .skip))
    (.seq (.seq (.ops [⟨some 72, none, .prim (.mov (.tmp 7))⟩,
      ⟨some 73, none, .prim (.mov (.tmp 6))⟩,
      ⟨some 74, none, .prim (.bin false .lss (.tmp 72) (.tmp 73))⟩])
    (.cond (.tmp 74)
    (.ops [⟨some 75, none, .prim (.mov (.tmp 0))⟩,
      ⟨some 76, none, .call (.func 152) [(.tmp 75)]⟩])
    .skip))
    (.seq (.seq (.ops [⟨some 77, none, .prim (.mov (.tmp 6))⟩,
      ⟨some 78, none, .prim (.convi .i64 (.tmp 77))⟩,
      ⟨some 8, none, .prim (.mov (.tmp 78))⟩])
    (.block 2 (.loop [1, 6, 9, 10, 11, 12, 13, 14, 15, 16, 17, 18, 19, 20, 21, 22, 23, 24, 25, 26, 27, 28, 29, 30, 31, 32, 33, 34, 35, 36, 37, 38, 39, 40, 41, 42, 43, 44, 45, 46, 47, 48, 49, 50, 51, 52, 53, 54, 55, 56, 57, 58, 59, 60, 61, 62, 63, 64, 65, 66, 67, 68, 69, 70, 71, 72, 73, 74, 75, 76, 77, 78, 79, 80, 81, 82, 83, 84, 85, 86, 87, 88, 89, 90, 91, 92, 93, 94, 95, 96, 97, 98, 99, 100, 101, 102, 103, 104, 105, 106, 107, 108, 109, 110, 111, 112, 113, 114, 115, 116, 117, 118, 119, 120, 121, 122, 123, 124, 125, 126, 127, 128] (.seq (.seq (.ops [⟨some 79, none, .prim (.mov (.tmp 8))⟩,
      ⟨some 80, none, .prim (.mov (.tmp 7))⟩,
      ⟨some 81, none, .prim (.convi .i64 (.tmp 80))⟩,
      ⟨some 82, none, .prim (.bin false .leq (.tmp 79) (.tmp 81))⟩])
    (.cond (.tmp 82)
    .skip
    (.exit 2)))
    (.seq (.block 3 (.ops [⟨some 85, none, .prim (.mov (.tmp 8))⟩,
      ⟨some 86, none, .prim (.bin false .quo (.tmp 85) (.const (Go.Value.int Go.IntKind.i64 64)))⟩,
      ⟨some 87, none, .prim (.mov (.tmp 8))⟩,
      ⟨some 88, none, .prim (.bin false .quo (.tmp 87) (.const (Go.Value.int Go.IntKind.i64 64)))⟩,
      ⟨some 89, none, .prim (.iadra 1 4 (.tmp 4) (.tmp 88))⟩,
      ⟨some 90, none, .prim (.load 1 false (.tmp 89))⟩,
      ⟨some 91, none, .prim (.mov (.tmp 8))⟩,
      ⟨some 92, none, .prim (.bin false .rem (.tmp 91) (.const (Go.Value.int Go.IntKind.i64 64)))⟩,
      ⟨some 93, none, .prim (.convi .u64 (.tmp 92))⟩,
      ⟨some 94, none, .prim (.bin false .shl (.const (Go.Value.int Go.IntKind.u64 1)) (.tmp 93))⟩,
      ⟨some 95, none, .prim (.bin false .or (.tmp 90) (.tmp 94))⟩,
      ⟨some 96, none, .prim (.iadra 1 4 (.tmp 4) (.tmp 86))⟩,
      ⟨none, none, .prim (.store 1 (.tmp 96) (.tmp 95))⟩]))
    (.ops [⟨some 83, none, .prim (.mov (.tmp 8))⟩,
      ⟨some 84, none, .prim (.bin false .add (.tmp 83) (.const (Go.Value.int Go.IntKind.i64 1)))⟩,
      ⟨some 8, none, .prim (.mov (.tmp 84))⟩]))))))
    (.ops [⟨some 97, none, .prim (.mov (.tmp 5))⟩,
      ⟨some 98, none, .prim (.bin false .add (.tmp 97) (.const (Go.Value.int Go.IntKind.i64 1)))⟩,
      ⟨some 5, none, .prim (.mov (.tmp 98))⟩]))))))))
def c55k : ACode :=
  (.seq (.seq (.ops [⟨some 99, none, .prim (.mov (.tmp 0))⟩,
      ⟨some 100, none, .call (.func 120) [(.tmp 99)]⟩,
      ⟨some 101, none, .prim (.un .not (.tmp 100))⟩,
      ⟨some 102, none, .prim (.mov (.tmp 101))⟩,
      ⟨some 103, (some (102, false)), .prim (.mov (.tmp 5))⟩,
      ⟨some 104, (some (102, false)), .prim (.bin false .eql (.tmp 103) (.const (Go.Value.int Go.IntKind.i64 0)))⟩,
      ⟨some 105, none, .prim (.pick (.tmp 102) (.const (Go.Value.bool Bool.true)) (.tmp 104))⟩])
    (.cond (.tmp 105)
    (.seq (.ops [⟨some 106, none, .prim (.mov (.tmp 0))⟩,
      ⟨some 107, none, .call (.func 152) [(.tmp 106)]⟩])
    (.seq (.ops [⟨some 108, none, .prim (.build [.pl (.int .i64 0), .pl (.int .u64 0), .pl (.int .u64 0), .pl (.int .u64 0), .pl (.int .u64 0), .nils] [])⟩,
      ⟨none, none, .prim (.store 6 (.tmp 2) (.tmp 108))⟩])
    .ret))
    .skip))
    (.seq (.ops [⟨some 109, none, .prim (.mov (.tmp 0))⟩,
      ⟨some 110, none, .prim (.nilc (.tmp 109))⟩,
      ⟨some 111, none, .prim (.fadr 1 (.tmp 110))⟩,
      ⟨some 112, none, .prim (.load 1 false (.tmp 111))⟩,
      ⟨some 113, none, .prim (.bin false .add (.tmp 112) (.const (Go.Value.int Go.IntKind.i64 1)))⟩,
      ⟨some 114, none, .prim (.nilc (.tmp 109))⟩,
      ⟨some 115, none, .prim (.fadr 1 (.tmp 114))⟩,
      ⟨none, none, .prim (.store 1 (.tmp 115) (.tmp 113))⟩])
    (.seq (.seq (.ops [⟨some 116, none, .prim (.mov (.tmp 3))⟩])
    (.cond (.tmp 116)
    (.seq (.ops [⟨some 9, none, .prim (.mov (.const (Go.Value.int Go.IntKind.i64 0)))⟩])
    (.block 4 (.loop [0, 1, 3, 5, 6, 7, 8, 10, 11, 12, 13, 14, 15, 16, 17, 18, 19, 20, 21, 22, 23, 24, 25, 26, 27, 28, 29, 30, 31, 32, 33, 34, 35, 36, 37, 38, 39, 40, 41, 42, 43, 44, 45, 46, 47, 48, 49, 50, 51, 52, 53, 54, 55, 56, 57, 58, 59, 60, 61, 62, 63, 64, 65, 66, 67, 68, 69, 70, 71, 72, 73, 74, 75, 76, 77, 78, 79, 80, 81, 82, 83, 84, 85, 86, 87, 88, 89, 90, 91, 92, 93, 94, 95, 96, 97, 98, 99, 100, 101, 102, 103, 104, 105, 106, 107, 108, 109, 110, 111, 112, 113, 114, 115, 116, 117, 118, 119, 120, 121, 122, 123, 124, 125, 126, 127, 128] (.seq (.seq (.ops [⟨some 117, none, .prim (.mov (.tmp 9))⟩,
      ⟨some 118, none, .prim (.bin false .lss (.tmp 117) (.const (Go.Value.int Go.IntKind.i64 4)))⟩])
    (.cond (.tmp 118)
    .skip
    (.exit 4)))
    (.seq (.block 5 (.ops [⟨some 121, none, .prim (.mov (.tmp 9))⟩,
      ⟨some 122, none, .prim (.mov (.tmp 9))⟩,
      ⟨some 123, none, .prim (.iadra 1 4 (.tmp 4) (.tmp 122))⟩,
      ⟨some 124, none, .prim (.load 1 false (.tmp 123))⟩,
      ⟨some 125, none, .prim (.un .xor (.tmp 124))⟩,
      ⟨some 126, none, .prim (.iadra 1 4 (.tmp 4) (.tmp 121))⟩,
      ⟨none, none, .prim (.store 1 (.tmp 126) (.tmp 125))⟩]))
    (.ops [⟨some 119, none, .prim (.mov (.tmp 9))⟩,
      ⟨some 120, none, .prim (.bin false .add (.tmp 119) (.const (Go.Value.int Go.IntKind.i64 1)))⟩,
      ⟨some 9, none, .prim (.mov (.tmp 120))⟩]))))))
    .skip))
    (.seq (.ops [⟨some 127, none, .prim (.load 4 true (.tmp 4))⟩,
      ⟨some 128, none, .prim (.build [.pl (.int .i64 0), .pl (.int .u64 0), .pl (.int .u64 0), .pl (.int .u64 0), .pl (.int .u64 0), .nils] [(0, 1, (.const (Go.Value.int Go.IntKind.i64 1))), (1, 4, (.tmp 127))])⟩,
      ⟨none, none, .prim (.store 6 (.tmp 2) (.tmp 128))⟩])
    .ret))))
def c55d : List Tmp := [1, 6, 9, 10, 11, 12, 13, 14, 15, 16, 17, 18, 19, 20, 21, 22, 23, 24, 25, 26, 27, 28, 29, 30, 31, 32, 33, 34, 35, 36, 37, 38, 39, 40, 41, 42, 43, 44, 45, 46, 47, 48, 49, 50, 51, 52, 53, 54, 55, 56, 57, 58, 59, 60, 61, 62, 63, 64, 65, 66, 67, 68, 69, 70, 71, 72, 73, 74, 75, 76, 77, 78, 79, 80, 81, 82, 83, 84, 85, 86, 87, 88, 89, 90, 91, 92, 93, 94, 95, 96, 97, 98, 99, 100, 101, 102, 103, 104, 105, 106, 107, 108, 109, 110, 111, 112, 113, 114, 115, 116, 117, 118, 119, 120, 121, 122, 123, 124, 125, 126, 127, 128]
def c55y : ACode :=
  (.seq (.seq (.ops [⟨some 79, none, .prim (.mov (.tmp 8))⟩,
      ⟨some 80, none, .prim (.mov (.tmp 7))⟩,
      ⟨some 81, none, .prim (.convi .i64 (.tmp 80))⟩,
      ⟨some 82, none, .prim (.bin false .leq (.tmp 79) (.tmp 81))⟩])
    (.cond (.tmp 82)
    .skip
    (.exit 2)))
    (.seq (.block 3 (.ops [⟨some 85, none, .prim (.mov (.tmp 8))⟩,
      ⟨some 86, none, .prim (.bin false .quo (.tmp 85) (.const (Go.Value.int Go.IntKind.i64 64)))⟩,
      ⟨some 87, none, .prim (.mov (.tmp 8))⟩,
      ⟨some 88, none, .prim (.bin false .quo (.tmp 87) (.const (Go.Value.int Go.IntKind.i64 64)))⟩,
      ⟨some 89, none, .prim (.iadra 1 4 (.tmp 4) (.tmp 88))⟩,
      ⟨some 90, none, .prim (.load 1 false (.tmp 89))⟩,
      ⟨some 91, none, .prim (.mov (.tmp 8))⟩,
      ⟨some 92, none, .prim (.bin false .rem (.tmp 91) (.const (Go.Value.int Go.IntKind.i64 64)))⟩,
      ⟨some 93, none, .prim (.convi .u64 (.tmp 92))⟩,
      ⟨some 94, none, .prim (.bin false .shl (.const (Go.Value.int Go.IntKind.u64 1)) (.tmp 93))⟩,
      ⟨some 95, none, .prim (.bin false .or (.tmp 90) (.tmp 94))⟩,
      ⟨some 96, none, .prim (.iadra 1 4 (.tmp 4) (.tmp 86))⟩,
      ⟨none, none, .prim (.store 1 (.tmp 96) (.tmp 95))⟩]))
    (.ops [⟨some 83, none, .prim (.mov (.tmp 8))⟩,
      ⟨some 84, none, .prim (.bin false .add (.tmp 83) (.const (Go.Value.int Go.IntKind.i64 1)))⟩,
      ⟨some 8, none, .prim (.mov (.tmp 84))⟩])))
theorem dmember_ge (s : ByteArray) (a : Nat) : a ≤ (dmember s a).2.1 := by
  unfold dmember
  repeat' split
  all_goals simp only
  all_goals omega
theorem dmember_gt (s : ByteArray) (a : Nat) (h : over s a false = false) : a + 1 ≤ (dmember s a).2.1 := by
  unfold dmember
  rw [h]
  simp only [Bool.false_eq_true, if_false]
  repeat' split
  all_goals simp only
  all_goals omega
theorem dmember_lt (s : ByteArray) (a : Nat) : (dmember s a).1 < 256 := by
  unfold dmember
  repeat' split
  all_goals first
  | exact byteAt_lt _ _
  | (show 0 < 256; decide)
theorem dTo_ge (s : ByteArray) (a : Nat) : (dmember s a).2.1 ≤ (dTo s a).2.1 := by
  unfold dTo; split
  · exact Nat.le_trans (Nat.le_succ _) (dmember_ge _ _)
  · exact Nat.le_refl _
theorem dTo_lt (s : ByteArray) (a : Nat) : (dTo s a).1 < 256 := by
  unfold dTo; split <;> exact dmember_lt _ _
section
variable {σ : St} {p : Nat} {s : ByteArray}
theorem more_ex (hp : p < σ.length) (a d : Nat) (b : Bool) (ex : St) : Ans Try.prog 120 [.ptr p 0] (σ.set p (dob s a d b) ++ ex) (Bo (!over s a b)) (σ.set p (dob s a d b) ++ ex) :=
  more_ans _ p s a d b (gA hp _ _)
theorem fail_ex (hp : p < σ.length) (a d : Nat) (b : Bool) (ex : St) : Ans Try.prog 152 [.ptr p 0] (σ.set p (dob s a d b) ++ ex) (.tup []) (σ.set p (dob s a d true) ++ ex) := by
  have := fail_ans _ p s a d b (gA hp (dob s a d b) ex)
  rwa [sA hp] at this
theorem dmember_ex (hp : p < σ.length) (a d : Nat) (hs : s.size ≤ 40) (ex : St) : Ans Try.prog 158 [.ptr p 0] (σ.set p (dob s a d false) ++ ex) (B8 (dmember s a).1) (σ.set p (dob s (dmember s a).2.1 d (dmember s a).2.2) ++ ex) := by
  have := dmember_ans _ p s a d hs (gA hp (dob s a d false) ex)
  rwa [sA hp] at this
end
theorem bel_dob (n : Nat) (s : ByteArray) (a d : Nat) (b : Bool) : BelO n (dob s a d b) := by
  intro x hx
  simp only [List.mem_cons, List.not_mem_nil, or_false] at hx
  rcases hx with rfl | rfl | rfl | rfl <;> exact .pl _
theorem bel_dat {σ : St} {p : Nat} {s : ByteArray} {a d : Nat} {b : Bool} (h : ∀ o ∈ σ.set p (dob s a d b), BelO (σ.set p (dob s a d b)).length o) (a' d' : Nat) (b' : Bool) :
    ∀ o ∈ σ.set p (dob s a' d' b'), BelO (σ.set p (dob s a' d' b')).length o := by
  have e : σ.set p (dob s a' d' b') = (σ.set p (dob s a d b)).set p (dob s a' d' b') := by rw [List.set_set]
  have el : (σ.set p (dob s a' d' b')).length = (σ.set p (dob s a d b)).length := by simp
  rw [el, e]
  exact bel_set h (bel_dob _ _ _ _ _)
theorem sees_byte {s : ByteArray} {a : Nat} (h : over s a false = false) (c : Nat) : sees s a false c = (byteAt s a == c) := by simp [sees, h]
section
variable (σ : St) (p : Nat) (s : ByteArray) (a d : Nat)
theorem cls_inner (hp : p < σ.length) (neg : Bool) (n f t aT : Nat) (bT : Bool) (S : List Int) (h3 : S.length = 4) (hf : f < 256) (ht : t < 256) (k : List Fr) (B : Bs)
    (h : N Try.prog σ.length k B (mkE 129 [(0, .ptr p 0), (2, .ptr σ.length 0), (3, Bo neg), (4, .ptr (σ.length + 1) 0), (5, I n), (7, B8 t), (8, I ((f + (t + 1 - f) : Nat) : Int)), (79, I ((f + (t + 1 - f) : Nat) : Int)), (80, B8 t), (81, I t), (82, Bo false)])
      (σ.set p (dob s aT d bT) ++ [box0, .box ((addR S f (t + 1 - f)).map U)])) :
    L Try.prog σ.length c55d c55y (Fr.block 2 :: k) B (mkE 129 [(0, .ptr p 0), (2, .ptr σ.length 0), (3, Bo neg), (4, .ptr (σ.length + 1) 0), (5, I n), (7, B8 t), (8, I f)])
      (σ.set p (dob s aT d bT) ++ [box0, .box (S.map U)]) := by
  have d3 : IntKind.i64.wrap (t : Int) = (t : Int) := wrap64 (by omega)
  refine L.count (t + 1 - f) (fun i => mkE 129 [(0, .ptr p 0), (2, .ptr σ.length 0), (3, Bo neg), (4, .ptr (σ.length + 1) 0), (5, I n), (7, B8 t), (8, I ((f + i : Nat) : Int))])
    (fun i => σ.set p (dob s aT d bT) ++ [box0, .box ((addR S f i).map U)]) ?_ ?_ rfl rfl
  · intro i hi Q hQ
    have c1 : (((f + i : Nat) : Int) ≤ (t : Int)) = True := by simp; omega
    have c3 : IntKind.i64.wrap (((f + i : Nat) : Int) + 1) = ((f + (i + 1) : Nat) : Int) := by rw [wrapN (by omega) (by omega)]; omega
    have e1 : IntKind.i64.wrap (((f + i : Nat) : Int).tdiv 64) = (((f + i) / 64 : Nat) : Int) := by
      rw [show ((f + i : Nat) : Int).tdiv 64 = (((f + i) / 64 : Nat) : Int) from rfl]; exact wrapN (by omega) (by omega)
    have e2 : ((f + i : Nat) : Int).tmod 64 = (((f + i) % 64 : Nat) : Int) := rfl
    have e3 : ((64 : Int) = 0) = False := by simp
    have e4 : ((((f + i) / 64 : Nat) : Int) < (4 : Nat)) = True := by simp; omega
    have e5 : IntKind.u64.wrap (((f + i) % 64 : Nat) : Int) = (((f + i) % 64 : Nat) : Int) := by
      simp only [IntKind.wrap, IntKind.bits, IntKind.signed]; simp; omega
    have hT : (addR S f i).length = 4 := by rw [addR_len]; exact h3
    have hv := set_get hT (c := f + i) (by omega)
    have hset := setAdd_map (addR S f i) (f + i)
    rw [addR] at hQ
    rw [← hset] at hQ
    clear hset
    generalize hw : (addR S f i).getD ((f + i) / 64) 0 = v at hv hQ
    have hl : ((addR S f i).map U).length = 4 := by simpa using hT
    generalize (addR S f i).map U = cs at hv hQ hl ⊢
    have hk : (f + i) / 64 < cs.length := by rw [hl]; omega
    rw [Nat.zero_add] at hv hQ
    have e6 : cs.drop ((f + i) / 64) = U v :: cs.drop ((f + i) / 64 + 1) := by
      rw [List.drop_eq_getElem_cons hk]
      have := (List.getElem?_eq_some_iff.1 hv).2
      rw [this]
    have e7 : ((f + i) / 64 + 1 ≤ cs.length) = True := by simp; omega
    have e8 : (1 ≤ (cs.drop ((f + i) / 64 + 1)).length + 1) = True := by simp
    have hsa : ∀ y : AV, cs.set ((f + i) / 64) y = cs.take ((f + i) / 64) ++ [y] ++ cs.drop ((f + i) / 64 + 1) := fun y => by rw [List.set_eq_take_append_cons_drop, if_pos hk]; simp
    rw [hsa] at hQ
    simp -implicitDefEqProofs only [c55y, c55d, mkE, List.foldl_cons, List.foldl_nil, go_sem, List.reduceReplicate, Nat.reduceAdd, Nat.reduceSub, Nat.reduceLT, Nat.reduceLeDiff, Nat.reduceMul, Nat.reduceEqDiff, reduceCtorEq, Int.reduceLE, Int.reduceLT, Int.reduceEq, Int.reduceNe, Int.reduceBEq, Int.reduceBNe, Int.reduceAdd, Int.reduceSub, d3, c1, e1, e2, e3, e4, e5, Nat.mul_one, gA hp, sA hp, gL0, sL0, gL1, sL1, e6, e7, e8, c3]
    exact hQ
  · intro Q
    have c1 : (((f + (t + 1 - f) : Nat) : Int) ≤ (t : Int)) = False := by simp; omega
    have c2 : decide (((f + (t + 1 - f) : Nat) : Int) ≤ (t : Int)) = false := by simp; omega
    simp -implicitDefEqProofs only [c55y, c55d, mkE, List.foldl_cons, List.foldl_nil, go_sem, List.reduceReplicate, Nat.reduceAdd, Nat.reduceSub, Nat.reduceLT, Nat.reduceLeDiff, Nat.reduceMul, Nat.reduceEqDiff, reduceCtorEq, Int.reduceLE, Int.reduceLT, Int.reduceEq, Int.reduceNe, Int.reduceBEq, Int.reduceBNe, Int.reduceAdd, Int.reduceSub, d3, c1, c2]
    simp -implicitDefEqProofs only [mkE, List.foldl_cons, List.foldl_nil, go_sem, List.reduceReplicate, Nat.reduceAdd, Nat.reduceSub, Nat.reduceLT, Nat.reduceLeDiff, Nat.reduceMul, Nat.reduceEqDiff, reduceCtorEq, Int.reduceLE, Int.reduceLT, Int.reduceEq, Int.reduceNe, Int.reduceBEq, Int.reduceBNe, Int.reduceAdd, Int.reduceSub] at h
    exact h
set_option maxHeartbeats 800000 in
theorem cls_outer (hp : p < σ.length) (hs : s.size ≤ 40) (neg : Bool) (a0 : Nat) (r : List RV) (hr : r = r154)
    (hb2 : ∀ (a' d' : Nat) (b' : Bool) (o : Ob), o ∈ σ.set p (dob s a' d' b') → BelO (σ.set p (dob s a' d' b')).length o)
    (res : List Int × Nat × Bool × Nat) (hres : dclassL s (s.size + 3) z4 a0 false 0 = res) :
    L Try.prog σ.length c55c c55x [Fr.block 0, Fr.seq c55k] (Fini σ.length r (dOut s neg res).1.rv (σ.set p (dob s (dOut s neg res).2.1 d (dOut s neg res).2.2)))
      (mkE 129 [(0, .ptr p 0), (2, .ptr σ.length 0), (3, Bo neg), (4, .ptr (σ.length + 1) 0), (5, I 0)])
      (σ.set p (dob s a0 d false) ++ [box0, .box (z4.map U)]) := by
  subst hr
  have q1 : IntKind.i64.wrap (0 + 1) = 1 := by decide
  have q2 : IntKind.i64.wrap (1 + 1) = 2 := by decide
  have q3 : IntKind.i64.wrap (2 + 1) = 3 := by decide
  have q4 : IntKind.i64.wrap (3 + 1) = 4 := by decide
  have n1 : Int.toNat 1 = 1 := rfl
  have n2 : Int.toNat 2 = 2 := rfl
  have n3 : Int.toNat 3 = 3 := rfl
  have c4 : ((4 : Nat) : Int) = 4 := rfl
  unfold dOut
  refine L.intro (α := { x : Nat × List Int × Nat × Bool × Nat // dclassL s x.1 x.2.1 x.2.2.1 x.2.2.2.1 x.2.2.2.2 = res ∧ s.size - x.2.2.1 < x.1 ∧ x.2.1.length = 4 ∧ x.2.2.2.2 ≤ x.2.2.1 })
    (fun x => x.1.1)
    (fun x => mkE 129 [(0, .ptr p 0), (2, .ptr σ.length 0), (3, Bo neg), (4, .ptr (σ.length + 1) 0), (5, I x.1.2.2.2.2)])
    (fun x => σ.set p (dob s x.1.2.2.1 d x.1.2.2.2.1) ++ [box0, .box (x.1.2.1.map U)])
    (fun x J hJ => ?_) ⟨(s.size + 3, z4, a0, false, 0), hres, by simp only; omega, rfl, Nat.zero_le _⟩ rfl rfl
  obtain ⟨⟨k, S, a1, b1, n⟩, h1, h2, h3, h4⟩ := x
  simp only at h1 h2 h3 h4 hJ ⊢
  rcases k with _ | k
  · omega
  rw [dclassL] at h1
  have k93 : (((byteAt s a1 : Nat) : Int) == 93) = (byteAt s a1 == 93) := beq_cast _ 93
  have n93 : (((byteAt s a1 : Nat) : Int) != 93) = !(byteAt s a1 == 93) := by rw [bne, k93]
  cases hgo : dGo s a1 b1
  · rw [hgo, if_neg Bool.false_ne_true] at h1
    subst h1
    clear hJ h2
    obtain ⟨x0, x1, x2, x3, rfl⟩ := four h3
    cases ho : over s a1 b1
    · have hb1 : b1 = false := by cases b1 <;> simp [over] at ho ⊢
      subst hb1
      have hlt := over_lt ho
      have hlt' : (a1 : Int) < s.size := by omega
      have h93 : (byteAt s a1 == 93) = true := by rw [← sees_byte ho]; simpa [dGo, ho] using hgo
      have kn : ((n : Int) == 0) = (n == 0) := beq_cast n 0
      simp -implicitDefEqProofs only [c55x, c55c, c55k, mkE, List.foldl_cons, List.foldl_nil, go_sem, List.reduceReplicate, Nat.reduceAdd, Nat.reduceSub, Nat.reduceLT, Nat.reduceLeDiff, Nat.reduceMul, Nat.reduceEqDiff, reduceCtorEq, Int.reduceLE, Int.reduceLT, Int.reduceEq, Int.reduceNe, Int.reduceBEq, Int.reduceBNe, Int.reduceAdd, Int.reduceSub]
      refine CD.intro (more_ex hp a1 d false _) ?_
      simp -implicitDefEqProofs only [go_sem, List.reduceReplicate, Nat.reduceAdd, Nat.reduceSub, Nat.reduceLT, Nat.reduceLeDiff, Nat.reduceMul, Nat.reduceEqDiff, reduceCtorEq, Int.reduceLE, Int.reduceLT, Int.reduceEq, Int.reduceNe, Int.reduceBEq, Int.reduceBNe, Int.reduceAdd, Int.reduceSub, ho, gA hp, sA hp, gL0, sL0, gL1, sL1, hlt', byteAt_def, k93, n93, h93]
      refine CO.intro (more_ex hp a1 d false _) ?_
      simp -implicitDefEqProofs only [go_sem, List.reduceReplicate, Nat.reduceAdd, Nat.reduceSub, Nat.reduceLT, Nat.reduceLeDiff, Nat.reduceMul, Nat.reduceEqDiff, reduceCtorEq, Int.reduceLE, Int.reduceLT, Int.reduceEq, Int.reduceNe, Int.reduceBEq, Int.reduceBNe, Int.reduceAdd, Int.reduceSub, ho, kn]
      cases hn : n == 0
      · simp -implicitDefEqProofs only [go_sem, List.reduceReplicate, Nat.reduceAdd, Nat.reduceSub, Nat.reduceLT, Nat.reduceLeDiff, Nat.reduceMul, Nat.reduceEqDiff, reduceCtorEq, Int.reduceLE, Int.reduceLT, Int.reduceEq, Int.reduceNe, Int.reduceBEq, Int.reduceBNe, Int.reduceAdd, Int.reduceSub, gA hp, sA hp, gL0, sL0, gL1, sL1, wrap_nat (show a1 ≤ 4294967296 by omega), Bool.or_self]
        cases neg
        · simp -implicitDefEqProofs only [go_sem, List.reduceReplicate, Nat.reduceAdd, Nat.reduceSub, Nat.reduceLT, Nat.reduceLeDiff, Nat.reduceMul, Nat.reduceEqDiff, reduceCtorEq, Int.reduceLE, Int.reduceLT, Int.reduceEq, Int.reduceNe, Int.reduceBEq, Int.reduceBNe, Int.reduceAdd, Int.reduceSub, gA hp, sA hp, gL0, sL0, gL1, sL1]
          refine Fini.trim2 (ex := [_, _]) ?_ rfl ?_ (bel_rv _ _) (hb2 _ _ _)
          · simp -implicitDefEqProofs only [go_sem, List.reduceReplicate, Nat.reduceAdd, Nat.reduceSub, Nat.reduceLT, Nat.reduceLeDiff, Nat.reduceMul, Nat.reduceEqDiff, reduceCtorEq, Int.reduceLE, Int.reduceLT, Int.reduceEq, Int.reduceNe, Int.reduceBEq, Int.reduceBNe, Int.reduceAdd, Int.reduceSub, r154, resA, allSome, rvA, oneOf, gL0]; rfl
          · simp
        · simp -implicitDefEqProofs only [go_sem, List.reduceReplicate, Nat.reduceAdd, Nat.reduceSub, Nat.reduceLT, Nat.reduceLeDiff, Nat.reduceMul, Nat.reduceEqDiff, reduceCtorEq, Int.reduceLE, Int.reduceLT, Int.reduceEq, Int.reduceNe, Int.reduceBEq, Int.reduceBNe, Int.reduceAdd, Int.reduceSub, gA hp, sA hp, gL0, sL0, gL1, sL1]
          refine L.count 4 (fun i => mkE 129 [(2, .ptr σ.length 0), (4, .ptr (σ.length + 1) 0), (9, I i)])
            (fun i => σ.set p (dob s (a1 + 1) d false) ++ [box0, .box (match i with | 0 => [U x0, U x1, U x2, U x3] | 1 => [U (notU x0), U x1, U x2, U x3] | 2 => [U (notU x0), U (notU x1), U x2, U x3] | 3 => [U (notU x0), U (notU x1), U (notU x2), U x3] | _ => [U (notU x0), U (notU x1), U (notU x2), U (notU x3)])]) ?_ ?_ rfl rfl
          · intro i hi Q hQ
            match i, hi, hQ with
            | 0, _, hQ => simp -implicitDefEqProofs only [mkE, List.foldl_cons, List.foldl_nil, go_sem, List.reduceReplicate, Nat.reduceAdd, Nat.reduceSub, Nat.reduceLT, Nat.reduceLeDiff, Nat.reduceMul, Nat.reduceEqDiff, reduceCtorEq, Int.reduceLE, Int.reduceLT, Int.reduceEq, Int.reduceNe, Int.reduceBEq, Int.reduceBNe, Int.reduceAdd, Int.reduceSub, gA hp, sA hp, gL0, sL0, gL1, sL1, q1, q2, q3, q4, n1, n2, n3, c4, Int.toNat_zero, Int.cast_ofNat_Int, Int.natCast_one, Int.natCast_zero]; exact hQ
            | 1, _, hQ => simp -implicitDefEqProofs only [mkE, List.foldl_cons, List.foldl_nil, go_sem, List.reduceReplicate, Nat.reduceAdd, Nat.reduceSub, Nat.reduceLT, Nat.reduceLeDiff, Nat.reduceMul, Nat.reduceEqDiff, reduceCtorEq, Int.reduceLE, Int.reduceLT, Int.reduceEq, Int.reduceNe, Int.reduceBEq, Int.reduceBNe, Int.reduceAdd, Int.reduceSub, gA hp, sA hp, gL0, sL0, gL1, sL1, q1, q2, q3, q4, n1, n2, n3, c4, Int.toNat_zero, Int.cast_ofNat_Int, Int.natCast_one, Int.natCast_zero]; exact hQ
            | 2, _, hQ => simp -implicitDefEqProofs only [mkE, List.foldl_cons, List.foldl_nil, go_sem, List.reduceReplicate, Nat.reduceAdd, Nat.reduceSub, Nat.reduceLT, Nat.reduceLeDiff, Nat.reduceMul, Nat.reduceEqDiff, reduceCtorEq, Int.reduceLE, Int.reduceLT, Int.reduceEq, Int.reduceNe, Int.reduceBEq, Int.reduceBNe, Int.reduceAdd, Int.reduceSub, gA hp, sA hp, gL0, sL0, gL1, sL1, q1, q2, q3, q4, n1, n2, n3, c4, Int.toNat_zero, Int.cast_ofNat_Int, Int.natCast_one, Int.natCast_zero]; exact hQ
            | 3, _, hQ => simp -implicitDefEqProofs only [mkE, List.foldl_cons, List.foldl_nil, go_sem, List.reduceReplicate, Nat.reduceAdd, Nat.reduceSub, Nat.reduceLT, Nat.reduceLeDiff, Nat.reduceMul, Nat.reduceEqDiff, reduceCtorEq, Int.reduceLE, Int.reduceLT, Int.reduceEq, Int.reduceNe, Int.reduceBEq, Int.reduceBNe, Int.reduceAdd, Int.reduceSub, gA hp, sA hp, gL0, sL0, gL1, sL1, q1, q2, q3, q4, n1, n2, n3, c4, Int.toNat_zero, Int.cast_ofNat_Int, Int.natCast_one, Int.natCast_zero]; exact hQ
          · intro Q
            simp -implicitDefEqProofs only [mkE, List.foldl_cons, List.foldl_nil, go_sem, List.reduceReplicate, Nat.reduceAdd, Nat.reduceSub, Nat.reduceLT, Nat.reduceLeDiff, Nat.reduceMul, Nat.reduceEqDiff, reduceCtorEq, Int.reduceLE, Int.reduceLT, Int.reduceEq, Int.reduceNe, Int.reduceBEq, Int.reduceBNe, Int.reduceAdd, Int.reduceSub, gA hp, sA hp, gL0, sL0, gL1, sL1, q1, q2, q3, q4, n1, n2, n3, c4, Int.toNat_zero, Int.cast_ofNat_Int, Int.natCast_one, Int.natCast_zero]
            refine Fini.trim2 (ex := [_, _]) ?_ rfl ?_ (bel_rv _ _) (hb2 _ _ _)
            · simp -implicitDefEqProofs only [go_sem, List.reduceReplicate, Nat.reduceAdd, Nat.reduceSub, Nat.reduceLT, Nat.reduceLeDiff, Nat.reduceMul, Nat.reduceEqDiff, reduceCtorEq, Int.reduceLE, Int.reduceLT, Int.reduceEq, Int.reduceNe, Int.reduceBEq, Int.reduceBNe, Int.reduceAdd, Int.reduceSub, r154, resA, allSome, rvA, oneOf, gL0]; rfl
            · simp
      · simp -implicitDefEqProofs only [go_sem, List.reduceReplicate, Nat.reduceAdd, Nat.reduceSub, Nat.reduceLT, Nat.reduceLeDiff, Nat.reduceMul, Nat.reduceEqDiff, reduceCtorEq, Int.reduceLE, Int.reduceLT, Int.reduceEq, Int.reduceNe, Int.reduceBEq, Int.reduceBNe, Int.reduceAdd, Int.reduceSub]
        refine CO.intro (fail_ex hp a1 d false _) ?_
        simp -implicitDefEqProofs only [go_sem, List.reduceReplicate, Nat.reduceAdd, Nat.reduceSub, Nat.reduceLT, Nat.reduceLeDiff, Nat.reduceMul, Nat.reduceEqDiff, reduceCtorEq, Int.reduceLE, Int.reduceLT, Int.reduceEq, Int.reduceNe, Int.reduceBEq, Int.reduceBNe, Int.reduceAdd, Int.reduceSub, gA hp, sA hp, gL0, sL0, gL1, sL1, Bool.or_true]
        refine Fini.trim2 (ex := [_, _]) ?_ rfl ?_ (bel_rv _ zeroR) (hb2 _ _ _)
        · simp -implicitDefEqProofs only [go_sem, List.reduceReplicate, Nat.reduceAdd, Nat.reduceSub, Nat.reduceLT, Nat.reduceLeDiff, Nat.reduceMul, Nat.reduceEqDiff, reduceCtorEq, Int.reduceLE, Int.reduceLT, Int.reduceEq, Int.reduceNe, Int.reduceBEq, Int.reduceBNe, Int.reduceAdd, Int.reduceSub, r154, resA, allSome, rvA, oneOf, gL0]; rfl
        · simp
    · simp -implicitDefEqProofs only [c55x, c55c, c55k, mkE, List.foldl_cons, List.foldl_nil, go_sem, List.reduceReplicate, Nat.reduceAdd, Nat.reduceSub, Nat.reduceLT, Nat.reduceLeDiff, Nat.reduceMul, Nat.reduceEqDiff, reduceCtorEq, Int.reduceLE, Int.reduceLT, Int.reduceEq, Int.reduceNe, Int.reduceBEq, Int.reduceBNe, Int.reduceAdd, Int.reduceSub]
      refine CD.intro (more_ex hp a1 d b1 _) ?_
      simp -implicitDefEqProofs only [go_sem, List.reduceReplicate, Nat.reduceAdd, Nat.reduceSub, Nat.reduceLT, Nat.reduceLeDiff, Nat.reduceMul, Nat.reduceEqDiff, reduceCtorEq, Int.reduceLE, Int.reduceLT, Int.reduceEq, Int.reduceNe, Int.reduceBEq, Int.reduceBNe, Int.reduceAdd, Int.reduceSub, ho]
      refine CO.intro (more_ex hp a1 d b1 _) ?_
      simp -implicitDefEqProofs only [go_sem, List.reduceReplicate, Nat.reduceAdd, Nat.reduceSub, Nat.reduceLT, Nat.reduceLeDiff, Nat.reduceMul, Nat.reduceEqDiff, reduceCtorEq, Int.reduceLE, Int.reduceLT, Int.reduceEq, Int.reduceNe, Int.reduceBEq, Int.reduceBNe, Int.reduceAdd, Int.reduceSub, ho]
      refine CO.intro (fail_ex hp a1 d b1 _) ?_
      simp -implicitDefEqProofs only [go_sem, List.reduceReplicate, Nat.reduceAdd, Nat.reduceSub, Nat.reduceLT, Nat.reduceLeDiff, Nat.reduceMul, Nat.reduceEqDiff, reduceCtorEq, Int.reduceLE, Int.reduceLT, Int.reduceEq, Int.reduceNe, Int.reduceBEq, Int.reduceBNe, Int.reduceAdd, Int.reduceSub, gA hp, sA hp, gL0, sL0, gL1, sL1, Bool.true_or]
      refine Fini.trim2 (ex := [_, _]) ?_ rfl ?_ (bel_rv _ zeroR) (hb2 _ _ _)
      · simp -implicitDefEqProofs only [go_sem, List.reduceReplicate, Nat.reduceAdd, Nat.reduceSub, Nat.reduceLT, Nat.reduceLeDiff, Nat.reduceMul, Nat.reduceEqDiff, reduceCtorEq, Int.reduceLE, Int.reduceLT, Int.reduceEq, Int.reduceNe, Int.reduceBEq, Int.reduceBNe, Int.reduceAdd, Int.reduceSub, r154, resA, allSome, rvA, oneOf, gL0]; rfl
      · simp
  · rw [hgo, if_pos rfl] at h1
    have ho : over s a1 b1 = false := by
      cases h : over s a1 b1
      · rfl
      · simp [dGo, h] at hgo
    have hb1 : b1 = false := by cases b1 <;> simp [over] at ho ⊢
    subst hb1
    have hlt := over_lt ho
    have hlt' : (a1 : Int) < s.size := by omega
    have h93 : (byteAt s a1 == 93) = false := by rw [← sees_byte ho]; simpa [dGo, ho] using hgo
    have hgt := dmember_gt s a1 ho
    have hge := dTo_ge s a1
    have hJ' := hJ ⟨(k, addR S (dmember s a1).1 ((dTo s a1).1 + 1 - (dmember s a1).1), (dTo s a1).2.1, dBad s a1, n + 1), h1, by simp only; omega, by rw [addR_len]; exact h3, by simp only; omega⟩ (Nat.lt_succ_self k)
    simp only at hJ'
    have hm2 := dTo_lt s a1
    have hm1 := dmember_lt s a1
    have hbd : dBad s a1 = ((dTo s a1).2.2 || decide ((dTo s a1).1 < (dmember s a1).1)) := rfl
    have hto : dTo s a1 = if sees s (dmember s a1).2.1 (dmember s a1).2.2 45 then dmember s ((dmember s a1).2.1 + 1) else dmember s a1 := rfl
    rw [hbd] at hJ'
    clear hJ h1 hbd hgo
    simp -implicitDefEqProofs only [c55x, c55c, c55d, mkE, List.foldl_cons, List.foldl_nil, go_sem, List.reduceReplicate, Nat.reduceAdd, Nat.reduceSub, Nat.reduceLT, Nat.reduceLeDiff, Nat.reduceMul, Nat.reduceEqDiff, reduceCtorEq, Int.reduceLE, Int.reduceLT, Int.reduceEq, Int.reduceNe, Int.reduceBEq, Int.reduceBNe, Int.reduceAdd, Int.reduceSub]
    refine CD.intro (more_ex hp a1 d false _) ?_
    simp -implicitDefEqProofs only [go_sem, List.reduceReplicate, Nat.reduceAdd, Nat.reduceSub, Nat.reduceLT, Nat.reduceLeDiff, Nat.reduceMul, Nat.reduceEqDiff, reduceCtorEq, Int.reduceLE, Int.reduceLT, Int.reduceEq, Int.reduceNe, Int.reduceBEq, Int.reduceBNe, Int.reduceAdd, Int.reduceSub, ho, gA hp, sA hp, gL0, sL0, gL1, sL1, hlt', byteAt_def, k93, n93, h93]
    refine CO.intro (dmember_ex hp a1 d hs _) ?_
    generalize dmember s a1 = m at hgt hge hJ' hm1 hto ⊢
    obtain ⟨f, am, bm⟩ := m
    simp only at hgt hge hJ' hm1 hto ⊢
    simp -implicitDefEqProofs only [go_sem, List.reduceReplicate, Nat.reduceAdd, Nat.reduceSub, Nat.reduceLT, Nat.reduceLeDiff, Nat.reduceMul, Nat.reduceEqDiff, reduceCtorEq, Int.reduceLE, Int.reduceLT, Int.reduceEq, Int.reduceNe, Int.reduceBEq, Int.reduceBNe, Int.reduceAdd, Int.reduceSub]
    refine CD.intro (more_ex hp am d bm _) ?_
    cases ho2 : over s am bm
    · have hbm : bm = false := by cases bm <;> simp [over] at ho2 ⊢
      subst hbm
      have hlt2 := over_lt ho2
      have hlt2' : (am : Int) < s.size := by omega
      have k45 : (((byteAt s am : Nat) : Int) == 45) = (byteAt s am == 45) := beq_cast _ 45
      rw [sees_byte ho2] at hto
      simp -implicitDefEqProofs only [go_sem, List.reduceReplicate, Nat.reduceAdd, Nat.reduceSub, Nat.reduceLT, Nat.reduceLeDiff, Nat.reduceMul, Nat.reduceEqDiff, reduceCtorEq, Int.reduceLE, Int.reduceLT, Int.reduceEq, Int.reduceNe, Int.reduceBEq, Int.reduceBNe, Int.reduceAdd, Int.reduceSub, gA hp, sA hp, gL0, sL0, gL1, sL1, hlt2', byteAt_def, k45]
      cases h45 : byteAt s am == 45
      · rw [h45, if_neg Bool.false_ne_true] at hto
        rw [hto] at hJ' hm2
        simp only at hJ' hm2
        simp -implicitDefEqProofs only [go_sem, List.reduceReplicate, Nat.reduceAdd, Nat.reduceSub, Nat.reduceLT, Nat.reduceLeDiff, Nat.reduceMul, Nat.reduceEqDiff, reduceCtorEq, Int.reduceLE, Int.reduceLT, Int.reduceEq, Int.reduceNe, Int.reduceBEq, Int.reduceBNe, Int.reduceAdd, Int.reduceSub]
        have d1 : decide ((f : Int) < (f : Int)) = decide (f < f) := by rw [Bool.eq_iff_iff]; simp
        have d2 : IntKind.i64.wrap (f : Int) = (f : Int) := wrap64 (by omega)
        have c5 : IntKind.i64.wrap ((n : Int) + 1) = ((n + 1 : Nat) : Int) := by rw [wrapN (by omega) (by omega)]; rfl
        simp -implicitDefEqProofs only [go_sem, List.reduceReplicate, Nat.reduceAdd, Nat.reduceSub, Nat.reduceLT, Nat.reduceLeDiff, Nat.reduceMul, Nat.reduceEqDiff, reduceCtorEq, Int.reduceLE, Int.reduceLT, Int.reduceEq, Int.reduceNe, Int.reduceBEq, Int.reduceBNe, Int.reduceAdd, Int.reduceSub, d1]
        cases hlt : decide (f < f)
        · rw [hlt, Bool.or_false] at hJ'
          simp -implicitDefEqProofs only [go_sem, List.reduceReplicate, Nat.reduceAdd, Nat.reduceSub, Nat.reduceLT, Nat.reduceLeDiff, Nat.reduceMul, Nat.reduceEqDiff, reduceCtorEq, Int.reduceLE, Int.reduceLT, Int.reduceEq, Int.reduceNe, Int.reduceBEq, Int.reduceBNe, Int.reduceAdd, Int.reduceSub, d2]
          refine cls_inner σ p s d hp neg n f f am false S h3 hm1 hm2 _ _ ?_
          simp -implicitDefEqProofs only [mkE, List.foldl_cons, List.foldl_nil, go_sem, List.reduceReplicate, Nat.reduceAdd, Nat.reduceSub, Nat.reduceLT, Nat.reduceLeDiff, Nat.reduceMul, Nat.reduceEqDiff, reduceCtorEq, Int.reduceLE, Int.reduceLT, Int.reduceEq, Int.reduceNe, Int.reduceBEq, Int.reduceBNe, Int.reduceAdd, Int.reduceSub, c5, c55c, c55d] at hJ' ⊢
          exact hJ'
        · rw [hlt, Bool.or_true] at hJ'
          simp -implicitDefEqProofs only [go_sem, List.reduceReplicate, Nat.reduceAdd, Nat.reduceSub, Nat.reduceLT, Nat.reduceLeDiff, Nat.reduceMul, Nat.reduceEqDiff, reduceCtorEq, Int.reduceLE, Int.reduceLT, Int.reduceEq, Int.reduceNe, Int.reduceBEq, Int.reduceBNe, Int.reduceAdd, Int.reduceSub]
          refine CO.intro (fail_ex hp am d false _) ?_
          simp -implicitDefEqProofs only [go_sem, List.reduceReplicate, Nat.reduceAdd, Nat.reduceSub, Nat.reduceLT, Nat.reduceLeDiff, Nat.reduceMul, Nat.reduceEqDiff, reduceCtorEq, Int.reduceLE, Int.reduceLT, Int.reduceEq, Int.reduceNe, Int.reduceBEq, Int.reduceBNe, Int.reduceAdd, Int.reduceSub, d2]
          refine cls_inner σ p s d hp neg n f f am true S h3 hm1 hm2 _ _ ?_
          simp -implicitDefEqProofs only [mkE, List.foldl_cons, List.foldl_nil, go_sem, List.reduceReplicate, Nat.reduceAdd, Nat.reduceSub, Nat.reduceLT, Nat.reduceLeDiff, Nat.reduceMul, Nat.reduceEqDiff, reduceCtorEq, Int.reduceLE, Int.reduceLT, Int.reduceEq, Int.reduceNe, Int.reduceBEq, Int.reduceBNe, Int.reduceAdd, Int.reduceSub, c5, c55c, c55d] at hJ' ⊢
          exact hJ'
      · rw [h45, if_pos rfl] at hto
        simp -implicitDefEqProofs only [go_sem, List.reduceReplicate, Nat.reduceAdd, Nat.reduceSub, Nat.reduceLT, Nat.reduceLeDiff, Nat.reduceMul, Nat.reduceEqDiff, reduceCtorEq, Int.reduceLE, Int.reduceLT, Int.reduceEq, Int.reduceNe, Int.reduceBEq, Int.reduceBNe, Int.reduceAdd, Int.reduceSub, gA hp, sA hp, gL0, sL0, gL1, sL1, wrap_nat (show am ≤ 4294967296 by omega)]
        refine CO.intro (dmember_ex hp (am + 1) d hs _) ?_
        rw [← hto]
        clear hto
        generalize dTo s a1 = q at hJ' hm2 hge ⊢
        obtain ⟨t, aT, bT⟩ := q
        simp only at hJ' hm2 hge ⊢
        simp -implicitDefEqProofs only [go_sem, List.reduceReplicate, Nat.reduceAdd, Nat.reduceSub, Nat.reduceLT, Nat.reduceLeDiff, Nat.reduceMul, Nat.reduceEqDiff, reduceCtorEq, Int.reduceLE, Int.reduceLT, Int.reduceEq, Int.reduceNe, Int.reduceBEq, Int.reduceBNe, Int.reduceAdd, Int.reduceSub]
        have d1 : decide ((t : Int) < (f : Int)) = decide (t < f) := by rw [Bool.eq_iff_iff]; simp
        have d2 : IntKind.i64.wrap (f : Int) = (f : Int) := wrap64 (by omega)
        have c5 : IntKind.i64.wrap ((n : Int) + 1) = ((n + 1 : Nat) : Int) := by rw [wrapN (by omega) (by omega)]; rfl
        simp -implicitDefEqProofs only [go_sem, List.reduceReplicate, Nat.reduceAdd, Nat.reduceSub, Nat.reduceLT, Nat.reduceLeDiff, Nat.reduceMul, Nat.reduceEqDiff, reduceCtorEq, Int.reduceLE, Int.reduceLT, Int.reduceEq, Int.reduceNe, Int.reduceBEq, Int.reduceBNe, Int.reduceAdd, Int.reduceSub, d1]
        cases hlt : decide (t < f)
        · rw [hlt, Bool.or_false] at hJ'
          simp -implicitDefEqProofs only [go_sem, List.reduceReplicate, Nat.reduceAdd, Nat.reduceSub, Nat.reduceLT, Nat.reduceLeDiff, Nat.reduceMul, Nat.reduceEqDiff, reduceCtorEq, Int.reduceLE, Int.reduceLT, Int.reduceEq, Int.reduceNe, Int.reduceBEq, Int.reduceBNe, Int.reduceAdd, Int.reduceSub, d2]
          refine cls_inner σ p s d hp neg n f t aT bT S h3 hm1 hm2 _ _ ?_
          simp -implicitDefEqProofs only [mkE, List.foldl_cons, List.foldl_nil, go_sem, List.reduceReplicate, Nat.reduceAdd, Nat.reduceSub, Nat.reduceLT, Nat.reduceLeDiff, Nat.reduceMul, Nat.reduceEqDiff, reduceCtorEq, Int.reduceLE, Int.reduceLT, Int.reduceEq, Int.reduceNe, Int.reduceBEq, Int.reduceBNe, Int.reduceAdd, Int.reduceSub, c5, c55c, c55d] at hJ' ⊢
          exact hJ'
        · rw [hlt, Bool.or_true] at hJ'
          simp -implicitDefEqProofs only [go_sem, List.reduceReplicate, Nat.reduceAdd, Nat.reduceSub, Nat.reduceLT, Nat.reduceLeDiff, Nat.reduceMul, Nat.reduceEqDiff, reduceCtorEq, Int.reduceLE, Int.reduceLT, Int.reduceEq, Int.reduceNe, Int.reduceBEq, Int.reduceBNe, Int.reduceAdd, Int.reduceSub]
          refine CO.intro (fail_ex hp aT d bT _) ?_
          simp -implicitDefEqProofs only [go_sem, List.reduceReplicate, Nat.reduceAdd, Nat.reduceSub, Nat.reduceLT, Nat.reduceLeDiff, Nat.reduceMul, Nat.reduceEqDiff, reduceCtorEq, Int.reduceLE, Int.reduceLT, Int.reduceEq, Int.reduceNe, Int.reduceBEq, Int.reduceBNe, Int.reduceAdd, Int.reduceSub, d2]
          refine cls_inner σ p s d hp neg n f t aT true S h3 hm1 hm2 _ _ ?_
          simp -implicitDefEqProofs only [mkE, List.foldl_cons, List.foldl_nil, go_sem, List.reduceReplicate, Nat.reduceAdd, Nat.reduceSub, Nat.reduceLT, Nat.reduceLeDiff, Nat.reduceMul, Nat.reduceEqDiff, reduceCtorEq, Int.reduceLE, Int.reduceLT, Int.reduceEq, Int.reduceNe, Int.reduceBEq, Int.reduceBNe, Int.reduceAdd, Int.reduceSub, c5, c55c, c55d] at hJ' ⊢
          exact hJ'
    · rw [show sees s am bm 45 = false by simp [sees, ho2], if_neg Bool.false_ne_true] at hto
      rw [hto] at hJ' hm2
      simp only at hJ' hm2
      simp -implicitDefEqProofs only [go_sem, List.reduceReplicate, Nat.reduceAdd, Nat.reduceSub, Nat.reduceLT, Nat.reduceLeDiff, Nat.reduceMul, Nat.reduceEqDiff, reduceCtorEq, Int.reduceLE, Int.reduceLT, Int.reduceEq, Int.reduceNe, Int.reduceBEq, Int.reduceBNe, Int.reduceAdd, Int.reduceSub]
      have d1 : decide ((f : Int) < (f : Int)) = decide (f < f) := by rw [Bool.eq_iff_iff]; simp
      have d2 : IntKind.i64.wrap (f : Int) = (f : Int) := wrap64 (by omega)
      have c5 : IntKind.i64.wrap ((n : Int) + 1) = ((n + 1 : Nat) : Int) := by rw [wrapN (by omega) (by omega)]; rfl
      simp -implicitDefEqProofs only [go_sem, List.reduceReplicate, Nat.reduceAdd, Nat.reduceSub, Nat.reduceLT, Nat.reduceLeDiff, Nat.reduceMul, Nat.reduceEqDiff, reduceCtorEq, Int.reduceLE, Int.reduceLT, Int.reduceEq, Int.reduceNe, Int.reduceBEq, Int.reduceBNe, Int.reduceAdd, Int.reduceSub, d1]
      cases hlt : decide (f < f)
      · rw [hlt, Bool.or_false] at hJ'
        simp -implicitDefEqProofs only [go_sem, List.reduceReplicate, Nat.reduceAdd, Nat.reduceSub, Nat.reduceLT, Nat.reduceLeDiff, Nat.reduceMul, Nat.reduceEqDiff, reduceCtorEq, Int.reduceLE, Int.reduceLT, Int.reduceEq, Int.reduceNe, Int.reduceBEq, Int.reduceBNe, Int.reduceAdd, Int.reduceSub, d2]
        refine cls_inner σ p s d hp neg n f f am bm S h3 hm1 hm2 _ _ ?_
        simp -implicitDefEqProofs only [mkE, List.foldl_cons, List.foldl_nil, go_sem, List.reduceReplicate, Nat.reduceAdd, Nat.reduceSub, Nat.reduceLT, Nat.reduceLeDiff, Nat.reduceMul, Nat.reduceEqDiff, reduceCtorEq, Int.reduceLE, Int.reduceLT, Int.reduceEq, Int.reduceNe, Int.reduceBEq, Int.reduceBNe, Int.reduceAdd, Int.reduceSub, c5, c55c, c55d] at hJ' ⊢
        exact hJ'
      · rw [hlt, Bool.or_true] at hJ'
        simp -implicitDefEqProofs only [go_sem, List.reduceReplicate, Nat.reduceAdd, Nat.reduceSub, Nat.reduceLT, Nat.reduceLeDiff, Nat.reduceMul, Nat.reduceEqDiff, reduceCtorEq, Int.reduceLE, Int.reduceLT, Int.reduceEq, Int.reduceNe, Int.reduceBEq, Int.reduceBNe, Int.reduceAdd, Int.reduceSub]
        refine CO.intro (fail_ex hp am d bm _) ?_
        simp -implicitDefEqProofs only [go_sem, List.reduceReplicate, Nat.reduceAdd, Nat.reduceSub, Nat.reduceLT, Nat.reduceLeDiff, Nat.reduceMul, Nat.reduceEqDiff, reduceCtorEq, Int.reduceLE, Int.reduceLT, Int.reduceEq, Int.reduceNe, Int.reduceBEq, Int.reduceBNe, Int.reduceAdd, Int.reduceSub, d2]
        refine cls_inner σ p s d hp neg n f f am true S h3 hm1 hm2 _ _ ?_
        simp -implicitDefEqProofs only [mkE, List.foldl_cons, List.foldl_nil, go_sem, List.reduceReplicate, Nat.reduceAdd, Nat.reduceSub, Nat.reduceLT, Nat.reduceLeDiff, Nat.reduceMul, Nat.reduceEqDiff, reduceCtorEq, Int.reduceLE, Int.reduceLT, Int.reduceEq, Int.reduceNe, Int.reduceBEq, Int.reduceBNe, Int.reduceAdd, Int.reduceSub, c5, c55c, c55d] at hJ' ⊢
        exact hJ'
set_option maxHeartbeats 800000 in
theorem dclass_ans (hp : p < σ.length) (hs : s.size ≤ 40) : Ans Try.prog 154 [.ptr p 0] (σ.set p (dob s a d false)) (dclass s a).1.rv (σ.set p (dob s (dclass s a).2.1 d (dclass s a).2.2)) := by
  refine Ans.of_run' t154 (fun hbel _ => ?_)
  have hb2 := bel_dat hbel
  simp -implicitDefEqProofs only [c154, go_sem, List.reduceReplicate, Nat.reduceAdd, Nat.reduceSub, Nat.reduceLT, Nat.reduceLeDiff, Nat.reduceMul, Nat.reduceEqDiff, reduceCtorEq, Int.reduceLE, Int.reduceLT, Int.reduceEq, Int.reduceNe, Int.reduceBEq, Int.reduceBNe, Int.reduceAdd, Int.reduceSub, List.append_assoc, List.length_append, List.length_set]
  refine CD.intro (more_ex hp a d false _) ?_
  unfold dclass
  have k94 : (((byteAt s a : Nat) : Int) == 94) = (byteAt s a == 94) := beq_cast _ 94
  cases ho : over s a false
  · have hlt := over_lt ho
    have hlt' : (a : Int) < s.size := by omega
    simp -implicitDefEqProofs only [go_sem, List.reduceReplicate, Nat.reduceAdd, Nat.reduceSub, Nat.reduceLT, Nat.reduceLeDiff, Nat.reduceMul, Nat.reduceEqDiff, reduceCtorEq, Int.reduceLE, Int.reduceLT, Int.reduceEq, Int.reduceNe, Int.reduceBEq, Int.reduceBNe, Int.reduceAdd, Int.reduceSub, gA hp, sA hp, gL0, sL0, gL1, sL1, hlt', byteAt_def, k94]
    cases h94 : byteAt s a == 94
    · have hneg : sees s a false 94 = false := by rw [sees_byte ho, h94]
      rw [show nextA s a false 94 = a by simp [nextA, hneg], hneg]
      simp -implicitDefEqProofs only [go_sem, List.reduceReplicate, Nat.reduceAdd, Nat.reduceSub, Nat.reduceLT, Nat.reduceLeDiff, Nat.reduceMul, Nat.reduceEqDiff, reduceCtorEq, Int.reduceLE, Int.reduceLT, Int.reduceEq, Int.reduceNe, Int.reduceBEq, Int.reduceBNe, Int.reduceAdd, Int.reduceSub, List.append_assoc, List.length_append, List.length_set]
      exact cls_outer σ p s d hp hs false a _ rfl hb2 _ rfl
    · have hneg : sees s a false 94 = true := by rw [sees_byte ho, h94]
      rw [show nextA s a false 94 = a + 1 by simp [nextA, hneg], hneg]
      simp -implicitDefEqProofs only [go_sem, List.reduceReplicate, Nat.reduceAdd, Nat.reduceSub, Nat.reduceLT, Nat.reduceLeDiff, Nat.reduceMul, Nat.reduceEqDiff, reduceCtorEq, Int.reduceLE, Int.reduceLT, Int.reduceEq, Int.reduceNe, Int.reduceBEq, Int.reduceBNe, Int.reduceAdd, Int.reduceSub, gA hp, sA hp, gL0, sL0, gL1, sL1, wrap_nat (show a ≤ 4294967296 by omega), List.append_assoc, List.length_append, List.length_set]
      exact cls_outer σ p s d hp hs true (a + 1) _ rfl hb2 _ rfl
  · have hneg : sees s a false 94 = false := by simp [sees, ho]
    rw [show nextA s a false 94 = a by simp [nextA, hneg], hneg]
    simp -implicitDefEqProofs only [go_sem, List.reduceReplicate, Nat.reduceAdd, Nat.reduceSub, Nat.reduceLT, Nat.reduceLeDiff, Nat.reduceMul, Nat.reduceEqDiff, reduceCtorEq, Int.reduceLE, Int.reduceLT, Int.reduceEq, Int.reduceNe, Int.reduceBEq, Int.reduceBNe, Int.reduceAdd, Int.reduceSub, List.append_assoc, List.length_append, List.length_set]
    exact cls_outer σ p s d hp hs false a _ rfl hb2 _ rfl
end
end Go.Proofs.Ytoadgajhkhejiaa
namespace Go.Proofs.Ytoadgajhkhejiaa
open Go Go.Ab
set_option maxRecDepth 100000
open Rex
abbrev DF := Nat → Rex × Nat × Nat × Bool
def fullS : List Int := [18446744073709551615, 18446744073709551615, 18446744073709551615, 18446744073709551615]
def datom (s : ByteArray) (F : DF) (d : Nat) : DF := fun a =>
  let c := byteAt s a
  if c == 46 then (ofSet fullS, a + 1, d, false)
  else if c == 92 then
    if over s (a + 1) false || !signs.contains (byteAt s (a + 1)) then (zeroR, a + 1, d, true) else (ofSet (oneS (byteAt s (a + 1))), a + 2, d, false)
  else if c == 40 then
    if decide (8 < d + 1) then (zeroR, a + 1, d + 1, true)
    else if sees s (F (a + 1)).2.1 (F (a + 1)).2.2.2 41 then ((F (a + 1)).1, (F (a + 1)).2.1 + 1, d, false)
    else (zeroR, (F (a + 1)).2.1, (F (a + 1)).2.2.1, true)
  else if c == 91 then ((dclass s (a + 1)).1, (dclass s (a + 1)).2.1, d, (dclass s (a + 1)).2.2)
  else if specials.contains c then (zeroR, a + 1, d, true)
  else (ofSet (oneS c), a + 1, d, false)
def dfactor (s : ByteArray) (F : DF) : DF := fun a =>
  let x := F a
  if sees s x.2.1 x.2.2.2 42 then (.mk 4 0 0 0 0 [x.1], x.2.1 + 1, x.2.2.1, x.2.2.2)
  else if sees s x.2.1 x.2.2.2 43 then (.mk 5 0 0 0 0 [x.1], x.2.1 + 1, x.2.2.1, x.2.2.2)
  else if sees s x.2.1 x.2.2.2 63 then (.mk 6 0 0 0 0 [x.1], x.2.1 + 1, x.2.2.1, x.2.2.2)
  else x
def DAns (f : FuncId) (g : Bool) (s : ByteArray) (d : Nat) (F : DF) : Prop :=
  ∀ (σ : St) (p a : Nat), p < σ.length → s.size ≤ 40 → (g = true → a < s.size) →
    Ans Try.prog f [.ptr p 0] (σ.set p (dob s a d false)) (F a).1.rv (σ.set p (dob s (F a).2.1 (F a).2.2.1 (F a).2.2.2))
section
variable {σ : St} {p : Nat} {s : ByteArray}
theorem DAns.ex {f : FuncId} {g : Bool} {d : Nat} {F : DF} (h : DAns f g s d F) (hp : p < σ.length) (a : Nat) (hs : s.size ≤ 40) (hg : g = true → a < s.size) (ex : St) :
    Ans Try.prog f [.ptr p 0] (σ.set p (dob s a d false) ++ ex) (F a).1.rv (σ.set p (dob s (F a).2.1 (F a).2.2.1 (F a).2.2.2) ++ ex) := by
  have := h (σ.set p (dob s a d false) ++ ex) p a (by simp; omega) hs hg
  rwa [sA hp, sA hp] at this
theorem dclass_ex (hp : p < σ.length) (a d : Nat) (hs : s.size ≤ 40) (ex : St) : Ans Try.prog 154 [.ptr p 0] (σ.set p (dob s a d false) ++ ex) (dclass s a).1.rv (σ.set p (dob s (dclass s a).2.1 d (dclass s a).2.2) ++ ex) := by
  have := dclass_ans (σ.set p (dob s a d false) ++ ex) p s a d (by simp; omega) hs
  rwa [sA hp, sA hp] at this
end
theorem oneS_len (c : Nat) : (oneS c).length = 4 := by simp [oneS]
theorem dclass_ks (s : ByteArray) (a : Nat) : (dclass s a).1.ks = [] := by
  unfold dclass dOut
  split <;> rfl
section
variable (s : ByteArray)
set_option maxHeartbeats 4000000 in
theorem datom_ans (F : DF) (d : Nat) (hd : d ≤ 8) (hF : d < 8 → DAns 96 false s (d + 1) F) (hdeep : d < 8 → ∀ a, (F a).2.2.2 = false → (F a).2.2.1 = d + 1) : DAns 143 true s d (datom s F d) := by
  intro σ p a hp hs hg
  have hlt := hg rfl
  have hlt' : (a : Int) < s.size := by omega
  refine Ans.of_run' t143 (fun hbel _ => ?_)
  have hb2 := bel_dat hbel
  have k46 : (((byteAt s a : Nat) : Int) == 46) = (byteAt s a == 46) := beq_cast _ 46
  have k92 : (((byteAt s a : Nat) : Int) == 92) = (byteAt s a == 92) := beq_cast _ 92
  have k40 : (((byteAt s a : Nat) : Int) == 40) = (byteAt s a == 40) := beq_cast _ 40
  have k91 : (((byteAt s a : Nat) : Int) == 91) = (byteAt s a == 91) := beq_cast _ 91
  simp -implicitDefEqProofs only [c143, r143, go_sem, List.reduceReplicate, Nat.reduceAdd, Nat.reduceSub, Nat.reduceLT, Nat.reduceLeDiff, Nat.reduceMul, Nat.reduceEqDiff, reduceCtorEq, Int.reduceLE, Int.reduceLT, Int.reduceEq, Int.reduceNe, Int.reduceBEq, Int.reduceBNe, Int.reduceAdd, Int.reduceSub, List.append_assoc, List.length_append, List.length_set, gA hp, sA hp, gL0, sL0, gL1, sL1, hlt', byteAt_def, wrap_nat (show a ≤ 4294967296 by omega), k46]
  unfold datom
  simp only
  cases h46 : byteAt s a == 46
  case true =>
    simp -implicitDefEqProofs only [go_sem, List.reduceReplicate, Nat.reduceAdd, Nat.reduceSub, Nat.reduceLT, Nat.reduceLeDiff, Nat.reduceMul, Nat.reduceEqDiff, reduceCtorEq, Int.reduceLE, Int.reduceLT, Int.reduceEq, Int.reduceNe, Int.reduceBEq, Int.reduceBNe, Int.reduceAdd, Int.reduceSub, gA hp, sA hp, gL0, sL0, gL1, sL1]
    (refine Fini.trim2 (ex := [_]) ?_ rfl ?_ (bel_rv _ _) (hb2 _ _ _); (simp -implicitDefEqProofs only [go_sem, List.reduceReplicate, Nat.reduceAdd, Nat.reduceSub, Nat.reduceLT, Nat.reduceLeDiff, Nat.reduceMul, Nat.reduceEqDiff, reduceCtorEq, Int.reduceLE, Int.reduceLT, Int.reduceEq, Int.reduceNe, Int.reduceBEq, Int.reduceBNe, Int.reduceAdd, Int.reduceSub, resA, allSome, rvA, oneOf, gL0]; first | done | rfl); simp)
  simp -implicitDefEqProofs only [go_sem, List.reduceReplicate, Nat.reduceAdd, Nat.reduceSub, Nat.reduceLT, Nat.reduceLeDiff, Nat.reduceMul, Nat.reduceEqDiff, reduceCtorEq, Int.reduceLE, Int.reduceLT, Int.reduceEq, Int.reduceNe, Int.reduceBEq, Int.reduceBNe, Int.reduceAdd, Int.reduceSub, k92]
  cases h92 : byteAt s a == 92
  case true =>
    simp -implicitDefEqProofs only [go_sem, List.reduceReplicate, Nat.reduceAdd, Nat.reduceSub, Nat.reduceLT, Nat.reduceLeDiff, Nat.reduceMul, Nat.reduceEqDiff, reduceCtorEq, Int.reduceLE, Int.reduceLT, Int.reduceEq, Int.reduceNe, Int.reduceBEq, Int.reduceBNe, Int.reduceAdd, Int.reduceSub]
    refine CD.intro (more_ex hp (a + 1) d false _) ?_
    cases ho2 : over s (a + 1) false with
    | true =>
      simp -implicitDefEqProofs only [go_sem, List.reduceReplicate, Nat.reduceAdd, Nat.reduceSub, Nat.reduceLT, Nat.reduceLeDiff, Nat.reduceMul, Nat.reduceEqDiff, reduceCtorEq, Int.reduceLE, Int.reduceLT, Int.reduceEq, Int.reduceNe, Int.reduceBEq, Int.reduceBNe, Int.reduceAdd, Int.reduceSub, gA hp, sA hp, gL0, sL0, gL1, sL1]
      refine CO.intro (fail_ex hp (a + 1) d false _) ?_
      simp -implicitDefEqProofs only [go_sem, List.reduceReplicate, Nat.reduceAdd, Nat.reduceSub, Nat.reduceLT, Nat.reduceLeDiff, Nat.reduceMul, Nat.reduceEqDiff, reduceCtorEq, Int.reduceLE, Int.reduceLT, Int.reduceEq, Int.reduceNe, Int.reduceBEq, Int.reduceBNe, Int.reduceAdd, Int.reduceSub, gA hp, sA hp, gL0, sL0, gL1, sL1, Bool.true_or]
      (refine Fini.trim2 (ex := [_]) ?_ rfl ?_ (bel_rv _ _) (hb2 _ _ _); (simp -implicitDefEqProofs only [go_sem, List.reduceReplicate, Nat.reduceAdd, Nat.reduceSub, Nat.reduceLT, Nat.reduceLeDiff, Nat.reduceMul, Nat.reduceEqDiff, reduceCtorEq, Int.reduceLE, Int.reduceLT, Int.reduceEq, Int.reduceNe, Int.reduceBEq, Int.reduceBNe, Int.reduceAdd, Int.reduceSub, resA, allSome, rvA, oneOf, gL0]; first | done | rfl); simp)
    | false =>
      have hlt2 := over_lt ho2
      have h2 : ((a + 1 : Nat) : Int) < s.size := by omega
      simp -implicitDefEqProofs only [go_sem, List.reduceReplicate, Nat.reduceAdd, Nat.reduceSub, Nat.reduceLT, Nat.reduceLeDiff, Nat.reduceMul, Nat.reduceEqDiff, reduceCtorEq, Int.reduceLE, Int.reduceLT, Int.reduceEq, Int.reduceNe, Int.reduceBEq, Int.reduceBNe, Int.reduceAdd, Int.reduceSub, gA hp, sA hp, gL0, sL0, gL1, sL1, h2, byteAt_def]
      refine CD.intro (quoted_ans _ (byteAt s (a + 1)) (byteAt_lt _ _)) ?_
      cases hq : signs.contains (byteAt s (a + 1)) with
      | false =>
        simp -implicitDefEqProofs only [go_sem, List.reduceReplicate, Nat.reduceAdd, Nat.reduceSub, Nat.reduceLT, Nat.reduceLeDiff, Nat.reduceMul, Nat.reduceEqDiff, reduceCtorEq, Int.reduceLE, Int.reduceLT, Int.reduceEq, Int.reduceNe, Int.reduceBEq, Int.reduceBNe, Int.reduceAdd, Int.reduceSub, gA hp, sA hp, gL0, sL0, gL1, sL1]
        refine CO.intro (fail_ex hp (a + 1) d false _) ?_
        simp -implicitDefEqProofs only [go_sem, List.reduceReplicate, Nat.reduceAdd, Nat.reduceSub, Nat.reduceLT, Nat.reduceLeDiff, Nat.reduceMul, Nat.reduceEqDiff, reduceCtorEq, Int.reduceLE, Int.reduceLT, Int.reduceEq, Int.reduceNe, Int.reduceBEq, Int.reduceBNe, Int.reduceAdd, Int.reduceSub, gA hp, sA hp, gL0, sL0, gL1, sL1, Bool.or_true]
        (refine Fini.trim2 (ex := [_]) ?_ rfl ?_ (bel_rv _ _) (hb2 _ _ _); (simp -implicitDefEqProofs only [go_sem, List.reduceReplicate, Nat.reduceAdd, Nat.reduceSub, Nat.reduceLT, Nat.reduceLeDiff, Nat.reduceMul, Nat.reduceEqDiff, reduceCtorEq, Int.reduceLE, Int.reduceLT, Int.reduceEq, Int.reduceNe, Int.reduceBEq, Int.reduceBNe, Int.reduceAdd, Int.reduceSub, resA, allSome, rvA, oneOf, gL0]; first | done | rfl); simp)
      | true =>
        have h3 : IntKind.i64.wrap (((a + 1 + 1 : Nat) : Int) - 1) = ((a + 1 : Nat) : Int) := by
          simp only [IntKind.wrap, IntKind.bits, IntKind.signed]; simp; omega
        simp -implicitDefEqProofs only [go_sem, List.reduceReplicate, Nat.reduceAdd, Nat.reduceSub, Nat.reduceLT, Nat.reduceLeDiff, Nat.reduceMul, Nat.reduceEqDiff, reduceCtorEq, Int.reduceLE, Int.reduceLT, Int.reduceEq, Int.reduceNe, Int.reduceBEq, Int.reduceBNe, Int.reduceAdd, Int.reduceSub, gA hp, sA hp, gL0, sL0, gL1, sL1, wrap_nat (show a + 1 ≤ 4294967296 by omega), h2, h3, byteAt_def, Bool.or_false]
        refine CD.intro (oneS_ans _ (byteAt s (a + 1)) (byteAt_lt _ _)) ?_
        obtain ⟨x0, x1, x2, x3, hS⟩ := four (oneS_len (byteAt s (a + 1)))
        rw [hS]
        simp -implicitDefEqProofs only [go_sem, List.reduceReplicate, Nat.reduceAdd, Nat.reduceSub, Nat.reduceLT, Nat.reduceLeDiff, Nat.reduceMul, Nat.reduceEqDiff, reduceCtorEq, Int.reduceLE, Int.reduceLT, Int.reduceEq, Int.reduceNe, Int.reduceBEq, Int.reduceBNe, Int.reduceAdd, Int.reduceSub, gA hp, sA hp, gL0, sL0, gL1, sL1]
        (refine Fini.trim2 (ex := [_]) ?_ rfl ?_ (bel_rv _ _) (hb2 _ _ _); (simp -implicitDefEqProofs only [go_sem, List.reduceReplicate, Nat.reduceAdd, Nat.reduceSub, Nat.reduceLT, Nat.reduceLeDiff, Nat.reduceMul, Nat.reduceEqDiff, reduceCtorEq, Int.reduceLE, Int.reduceLT, Int.reduceEq, Int.reduceNe, Int.reduceBEq, Int.reduceBNe, Int.reduceAdd, Int.reduceSub, resA, allSome, rvA, oneOf, gL0]; first | done | rfl); simp)
  simp -implicitDefEqProofs only [go_sem, List.reduceReplicate, Nat.reduceAdd, Nat.reduceSub, Nat.reduceLT, Nat.reduceLeDiff, Nat.reduceMul, Nat.reduceEqDiff, reduceCtorEq, Int.reduceLE, Int.reduceLT, Int.reduceEq, Int.reduceNe, Int.reduceBEq, Int.reduceBNe, Int.reduceAdd, Int.reduceSub, k40]
  cases h40 : byteAt s a == 40
  case true =>
    have e8 : decide ((8 : Int) < ((d + 1 : Nat) : Int)) = decide (8 < d + 1) := by rw [Bool.eq_iff_iff]; simp; omega
    simp -implicitDefEqProofs only [go_sem, List.reduceReplicate, Nat.reduceAdd, Nat.reduceSub, Nat.reduceLT, Nat.reduceLeDiff, Nat.reduceMul, Nat.reduceEqDiff, reduceCtorEq, Int.reduceLE, Int.reduceLT, Int.reduceEq, Int.reduceNe, Int.reduceBEq, Int.reduceBNe, Int.reduceAdd, Int.reduceSub, gA hp, sA hp, gL0, sL0, gL1, sL1, wrap_nat (show d ≤ 4294967296 by omega), e8]
    cases h8 : decide (8 < d + 1) with
    | true =>
      simp -implicitDefEqProofs only [go_sem, List.reduceReplicate, Nat.reduceAdd, Nat.reduceSub, Nat.reduceLT, Nat.reduceLeDiff, Nat.reduceMul, Nat.reduceEqDiff, reduceCtorEq, Int.reduceLE, Int.reduceLT, Int.reduceEq, Int.reduceNe, Int.reduceBEq, Int.reduceBNe, Int.reduceAdd, Int.reduceSub]
      refine CO.intro (fail_ex hp (a + 1) (d + 1) false _) ?_
      simp -implicitDefEqProofs only [go_sem, List.reduceReplicate, Nat.reduceAdd, Nat.reduceSub, Nat.reduceLT, Nat.reduceLeDiff, Nat.reduceMul, Nat.reduceEqDiff, reduceCtorEq, Int.reduceLE, Int.reduceLT, Int.reduceEq, Int.reduceNe, Int.reduceBEq, Int.reduceBNe, Int.reduceAdd, Int.reduceSub, gA hp, sA hp, gL0, sL0, gL1, sL1]
      (refine Fini.trim2 (ex := [_]) ?_ rfl ?_ (bel_rv _ _) (hb2 _ _ _); (simp -implicitDefEqProofs only [go_sem, List.reduceReplicate, Nat.reduceAdd, Nat.reduceSub, Nat.reduceLT, Nat.reduceLeDiff, Nat.reduceMul, Nat.reduceEqDiff, reduceCtorEq, Int.reduceLE, Int.reduceLT, Int.reduceEq, Int.reduceNe, Int.reduceBEq, Int.reduceBNe, Int.reduceAdd, Int.reduceSub, resA, allSome, rvA, oneOf, gL0]; first | done | rfl); simp)
    | false =>
      have hd7 : d < 8 := by
        have : ¬ (8 < d + 1) := by simpa using h8
        omega
      simp -implicitDefEqProofs only [go_sem, List.reduceReplicate, Nat.reduceAdd, Nat.reduceSub, Nat.reduceLT, Nat.reduceLeDiff, Nat.reduceMul, Nat.reduceEqDiff, reduceCtorEq, Int.reduceLE, Int.reduceLT, Int.reduceEq, Int.reduceNe, Int.reduceBEq, Int.reduceBNe, Int.reduceAdd, Int.reduceSub]
      refine CO.intro ((hF hd7).ex hp (a + 1) hs (fun h => absurd h Bool.false_ne_true) _) ?_
      have hde := hdeep hd7 (a + 1)
      generalize F (a + 1) = w at hde ⊢
      obtain ⟨x, a1, d1, b1⟩ := w
      simp only at hde ⊢
      have hbx : ∀ n, Bel n x.rv := fun n => bel_rv n x
      have hrx := rv_eq x
      rw [rv_eq x]
      rcases rvK_cases x.ks with hK | ⟨l, hK⟩
      all_goals rw [hK] at hrx ⊢
      all_goals simp -implicitDefEqProofs only [go_sem, List.reduceReplicate, Nat.reduceAdd, Nat.reduceSub, Nat.reduceLT, Nat.reduceLeDiff, Nat.reduceMul, Nat.reduceEqDiff, reduceCtorEq, Int.reduceLE, Int.reduceLT, Int.reduceEq, Int.reduceNe, Int.reduceBEq, Int.reduceBNe, Int.reduceAdd, Int.reduceSub]
      all_goals refine CD.intro (more_ex hp a1 d1 b1 _) ?_
      all_goals cases ho3 : over s a1 b1
      all_goals first
      | (have hse : sees s a1 b1 41 = false := by simp [sees, ho3]
         simp -implicitDefEqProofs only [go_sem, List.reduceReplicate, Nat.reduceAdd, Nat.reduceSub, Nat.reduceLT, Nat.reduceLeDiff, Nat.reduceMul, Nat.reduceEqDiff, reduceCtorEq, Int.reduceLE, Int.reduceLT, Int.reduceEq, Int.reduceNe, Int.reduceBEq, Int.reduceBNe, Int.reduceAdd, Int.reduceSub, gA hp, sA hp, gL0, sL0, gL1, sL1, hse]
         refine CO.intro (fail_ex hp a1 d1 b1 _) ?_
         simp -implicitDefEqProofs only [go_sem, List.reduceReplicate, Nat.reduceAdd, Nat.reduceSub, Nat.reduceLT, Nat.reduceLeDiff, Nat.reduceMul, Nat.reduceEqDiff, reduceCtorEq, Int.reduceLE, Int.reduceLT, Int.reduceEq, Int.reduceNe, Int.reduceBEq, Int.reduceBNe, Int.reduceAdd, Int.reduceSub, gA hp, sA hp, gL0, sL0, gL1, sL1]
         (refine Fini.trim2 (ex := [_]) ?_ rfl ?_ (bel_rv _ _) (hb2 _ _ _); (simp -implicitDefEqProofs only [go_sem, List.reduceReplicate, Nat.reduceAdd, Nat.reduceSub, Nat.reduceLT, Nat.reduceLeDiff, Nat.reduceMul, Nat.reduceEqDiff, reduceCtorEq, Int.reduceLE, Int.reduceLT, Int.reduceEq, Int.reduceNe, Int.reduceBEq, Int.reduceBNe, Int.reduceAdd, Int.reduceSub, resA, allSome, rvA, oneOf, gL0]; first | done | rfl); simp))
      | (have hb1 : b1 = false := by cases b1 <;> simp [over] at ho3 ⊢
         subst hb1
         have hlt3 := over_lt ho3
         have h3 : ((a1 : Nat) : Int) < s.size := by omega
         have k41 : (((byteAt s a1 : Nat) : Int) == 41) = (byteAt s a1 == 41) := beq_cast _ 41
         have n41 : (((byteAt s a1 : Nat) : Int) != 41) = !(byteAt s a1 == 41) := by rw [bne, k41]
         have hd1 := hde rfl
         subst hd1
         have e9 : IntKind.i64.wrap (((d + 1 : Nat) : Int) - 1) = (d : Int) := by
           simp only [IntKind.wrap, IntKind.bits, IntKind.signed]; simp; omega
         rw [sees_byte ho3]
         simp -implicitDefEqProofs only [go_sem, List.reduceReplicate, Nat.reduceAdd, Nat.reduceSub, Nat.reduceLT, Nat.reduceLeDiff, Nat.reduceMul, Nat.reduceEqDiff, reduceCtorEq, Int.reduceLE, Int.reduceLT, Int.reduceEq, Int.reduceNe, Int.reduceBEq, Int.reduceBNe, Int.reduceAdd, Int.reduceSub, gA hp, sA hp, gL0, sL0, gL1, sL1, h3, byteAt_def, k41, n41]
         cases h41 : byteAt s a1 == 41
         · simp -implicitDefEqProofs only [go_sem, List.reduceReplicate, Nat.reduceAdd, Nat.reduceSub, Nat.reduceLT, Nat.reduceLeDiff, Nat.reduceMul, Nat.reduceEqDiff, reduceCtorEq, Int.reduceLE, Int.reduceLT, Int.reduceEq, Int.reduceNe, Int.reduceBEq, Int.reduceBNe, Int.reduceAdd, Int.reduceSub]
           refine CO.intro (fail_ex hp a1 (d + 1) false _) ?_
           simp -implicitDefEqProofs only [go_sem, List.reduceReplicate, Nat.reduceAdd, Nat.reduceSub, Nat.reduceLT, Nat.reduceLeDiff, Nat.reduceMul, Nat.reduceEqDiff, reduceCtorEq, Int.reduceLE, Int.reduceLT, Int.reduceEq, Int.reduceNe, Int.reduceBEq, Int.reduceBNe, Int.reduceAdd, Int.reduceSub, gA hp, sA hp, gL0, sL0, gL1, sL1]
           (refine Fini.trim2 (ex := [_]) ?_ rfl ?_ (bel_rv _ _) (hb2 _ _ _); (simp -implicitDefEqProofs only [go_sem, List.reduceReplicate, Nat.reduceAdd, Nat.reduceSub, Nat.reduceLT, Nat.reduceLeDiff, Nat.reduceMul, Nat.reduceEqDiff, reduceCtorEq, Int.reduceLE, Int.reduceLT, Int.reduceEq, Int.reduceNe, Int.reduceBEq, Int.reduceBNe, Int.reduceAdd, Int.reduceSub, resA, allSome, rvA, oneOf, gL0]; first | done | rfl); simp)
         · simp -implicitDefEqProofs only [go_sem, List.reduceReplicate, Nat.reduceAdd, Nat.reduceSub, Nat.reduceLT, Nat.reduceLeDiff, Nat.reduceMul, Nat.reduceEqDiff, reduceCtorEq, Int.reduceLE, Int.reduceLT, Int.reduceEq, Int.reduceNe, Int.reduceBEq, Int.reduceBNe, Int.reduceAdd, Int.reduceSub, gA hp, sA hp, gL0, sL0, gL1, sL1, wrap_nat (show a1 ≤ 4294967296 by omega), e9, hrx]
           rw [hrx] at hbx
           refine Fini.trim2 (ex := [_]) ?_ rfl ?_ (hbx _) (hb2 _ _ _)
           · simp -implicitDefEqProofs only [go_sem, List.reduceReplicate, Nat.reduceAdd, Nat.reduceSub, Nat.reduceLT, Nat.reduceLeDiff, Nat.reduceMul, Nat.reduceEqDiff, reduceCtorEq, Int.reduceLE, Int.reduceLT, Int.reduceEq, Int.reduceNe, Int.reduceBEq, Int.reduceBNe, Int.reduceAdd, Int.reduceSub, resA, allSome, rvA, oneOf, gL0]
           · simp)
  simp -implicitDefEqProofs only [go_sem, List.reduceReplicate, Nat.reduceAdd, Nat.reduceSub, Nat.reduceLT, Nat.reduceLeDiff, Nat.reduceMul, Nat.reduceEqDiff, reduceCtorEq, Int.reduceLE, Int.reduceLT, Int.reduceEq, Int.reduceNe, Int.reduceBEq, Int.reduceBNe, Int.reduceAdd, Int.reduceSub, k91]
  cases h91 : byteAt s a == 91
  case true =>
    simp -implicitDefEqProofs only [go_sem, List.reduceReplicate, Nat.reduceAdd, Nat.reduceSub, Nat.reduceLT, Nat.reduceLeDiff, Nat.reduceMul, Nat.reduceEqDiff, reduceCtorEq, Int.reduceLE, Int.reduceLT, Int.reduceEq, Int.reduceNe, Int.reduceBEq, Int.reduceBNe, Int.reduceAdd, Int.reduceSub]
    refine CO.intro (dclass_ex hp (a + 1) d hs _) ?_
    have hK : rvK (dclass s (a + 1)).1.ks = .nils := by rw [dclass_ks]; rfl
    generalize dclass s (a + 1) = w at hK ⊢
    obtain ⟨x, a1, b1⟩ := w
    simp only at hK ⊢
    have hbx : ∀ n, Bel n x.rv := fun n => bel_rv n x
    rw [rv_eq x, hK] at hbx ⊢
    simp -implicitDefEqProofs only [go_sem, List.reduceReplicate, Nat.reduceAdd, Nat.reduceSub, Nat.reduceLT, Nat.reduceLeDiff, Nat.reduceMul, Nat.reduceEqDiff, reduceCtorEq, Int.reduceLE, Int.reduceLT, Int.reduceEq, Int.reduceNe, Int.reduceBEq, Int.reduceBNe, Int.reduceAdd, Int.reduceSub, gA hp, sA hp, gL0, sL0, gL1, sL1]
    refine Fini.trim2 (ex := [_]) ?_ rfl ?_ (hbx _) (hb2 _ _ _)
    · simp -implicitDefEqProofs only [go_sem, List.reduceReplicate, Nat.reduceAdd, Nat.reduceSub, Nat.reduceLT, Nat.reduceLeDiff, Nat.reduceMul, Nat.reduceEqDiff, reduceCtorEq, Int.reduceLE, Int.reduceLT, Int.reduceEq, Int.reduceNe, Int.reduceBEq, Int.reduceBNe, Int.reduceAdd, Int.reduceSub, resA, allSome, rvA, oneOf, gL0]
    · simp
  simp -implicitDefEqProofs only [go_sem, List.reduceReplicate, Nat.reduceAdd, Nat.reduceSub, Nat.reduceLT, Nat.reduceLeDiff, Nat.reduceMul, Nat.reduceEqDiff, reduceCtorEq, Int.reduceLE, Int.reduceLT, Int.reduceEq, Int.reduceNe, Int.reduceBEq, Int.reduceBNe, Int.reduceAdd, Int.reduceSub]
  refine CO.intro (special_ans _ (byteAt s a)) ?_
  simp -implicitDefEqProofs only [go_sem, List.reduceReplicate, Nat.reduceAdd, Nat.reduceSub, Nat.reduceLT, Nat.reduceLeDiff, Nat.reduceMul, Nat.reduceEqDiff, reduceCtorEq, Int.reduceLE, Int.reduceLT, Int.reduceEq, Int.reduceNe, Int.reduceBEq, Int.reduceBNe, Int.reduceAdd, Int.reduceSub]
  cases hsp : specials.contains (byteAt s a)
  case true =>
    simp -implicitDefEqProofs only [go_sem, List.reduceReplicate, Nat.reduceAdd, Nat.reduceSub, Nat.reduceLT, Nat.reduceLeDiff, Nat.reduceMul, Nat.reduceEqDiff, reduceCtorEq, Int.reduceLE, Int.reduceLT, Int.reduceEq, Int.reduceNe, Int.reduceBEq, Int.reduceBNe, Int.reduceAdd, Int.reduceSub]
    refine CO.intro (fail_ex hp (a + 1) d false _) ?_
    simp -implicitDefEqProofs only [go_sem, List.reduceReplicate, Nat.reduceAdd, Nat.reduceSub, Nat.reduceLT, Nat.reduceLeDiff, Nat.reduceMul, Nat.reduceEqDiff, reduceCtorEq, Int.reduceLE, Int.reduceLT, Int.reduceEq, Int.reduceNe, Int.reduceBEq, Int.reduceBNe, Int.reduceAdd, Int.reduceSub, gA hp, sA hp, gL0, sL0, gL1, sL1]
    (refine Fini.trim2 (ex := [_]) ?_ rfl ?_ (bel_rv _ _) (hb2 _ _ _); (simp -implicitDefEqProofs only [go_sem, List.reduceReplicate, Nat.reduceAdd, Nat.reduceSub, Nat.reduceLT, Nat.reduceLeDiff, Nat.reduceMul, Nat.reduceEqDiff, reduceCtorEq, Int.reduceLE, Int.reduceLT, Int.reduceEq, Int.reduceNe, Int.reduceBEq, Int.reduceBNe, Int.reduceAdd, Int.reduceSub, resA, allSome, rvA, oneOf, gL0]; first | done | rfl); simp)
  simp -implicitDefEqProofs only [go_sem, List.reduceReplicate, Nat.reduceAdd, Nat.reduceSub, Nat.reduceLT, Nat.reduceLeDiff, Nat.reduceMul, Nat.reduceEqDiff, reduceCtorEq, Int.reduceLE, Int.reduceLT, Int.reduceEq, Int.reduceNe, Int.reduceBEq, Int.reduceBNe, Int.reduceAdd, Int.reduceSub]
  refine CO.intro (oneS_ans _ (byteAt s a) (byteAt_lt _ _)) ?_
  obtain ⟨x0, x1, x2, x3, hS⟩ := four (oneS_len (byteAt s a))
  rw [hS]
  simp -implicitDefEqProofs only [go_sem, List.reduceReplicate, Nat.reduceAdd, Nat.reduceSub, Nat.reduceLT, Nat.reduceLeDiff, Nat.reduceMul, Nat.reduceEqDiff, reduceCtorEq, Int.reduceLE, Int.reduceLT, Int.reduceEq, Int.reduceNe, Int.reduceBEq, Int.reduceBNe, Int.reduceAdd, Int.reduceSub, gA hp, sA hp, gL0, sL0, gL1, sL1]
  (refine Fini.trim2 (ex := [_]) ?_ rfl ?_ (bel_rv _ _) (hb2 _ _ _); (simp -implicitDefEqProofs only [go_sem, List.reduceReplicate, Nat.reduceAdd, Nat.reduceSub, Nat.reduceLT, Nat.reduceLeDiff, Nat.reduceMul, Nat.reduceEqDiff, reduceCtorEq, Int.reduceLE, Int.reduceLT, Int.reduceEq, Int.reduceNe, Int.reduceBEq, Int.reduceBNe, Int.reduceAdd, Int.reduceSub, resA, allSome, rvA, oneOf, gL0]; first | done | rfl); simp)
theorem dfactor_ans (F : DF) (d : Nat) (hF : DAns 143 true s d F) : DAns 135 true s d (dfactor s F) := by
  intro σ p a hp hs hg
  refine Ans.of_run' t135 (fun hbel _ => ?_)
  have hb2 := bel_dat hbel
  simp -implicitDefEqProofs only [c135, r135, go_sem, List.reduceReplicate, Nat.reduceAdd, Nat.reduceSub, Nat.reduceLT, Nat.reduceLeDiff, Nat.reduceMul, Nat.reduceEqDiff, reduceCtorEq, Int.reduceLE, Int.reduceLT, Int.reduceEq, Int.reduceNe, Int.reduceBEq, Int.reduceBNe, Int.reduceAdd, Int.reduceSub, List.append_assoc, List.length_append, List.length_set, gA hp, sA hp, gL0, sL0, gL1, sL1]
  refine CO.intro (hF.ex hp a hs hg _) ?_
  unfold dfactor
  generalize F a = w
  obtain ⟨x, a1, d1, b1⟩ := w
  simp only
  have hbx : ∀ n, Bel n x.rv := fun n => bel_rv n x
  have hrx := rv_eq x
  rw [rv_eq x]
  rcases rvK_cases x.ks with hK | ⟨l, hK⟩
  all_goals rw [hK] at hrx ⊢
  all_goals simp -implicitDefEqProofs only [go_sem, List.reduceReplicate, Nat.reduceAdd, Nat.reduceSub, Nat.reduceLT, Nat.reduceLeDiff, Nat.reduceMul, Nat.reduceEqDiff, reduceCtorEq, Int.reduceLE, Int.reduceLT, Int.reduceEq, Int.reduceNe, Int.reduceBEq, Int.reduceBNe, Int.reduceAdd, Int.reduceSub]
  all_goals refine CO.intro (more_ex hp a1 d1 b1 _) ?_
  all_goals cases ho : over s a1 b1
  all_goals first
  | (have hse : ∀ c, sees s a1 b1 c = false := fun c => by simp [sees, ho]
     simp -implicitDefEqProofs only [go_sem, List.reduceReplicate, Nat.reduceAdd, Nat.reduceSub, Nat.reduceLT, Nat.reduceLeDiff, Nat.reduceMul, Nat.reduceEqDiff, reduceCtorEq, Int.reduceLE, Int.reduceLT, Int.reduceEq, Int.reduceNe, Int.reduceBEq, Int.reduceBNe, Int.reduceAdd, Int.reduceSub, gA hp, sA hp, gL0, sL0, gL1, sL1, hse, Bool.false_eq_true, if_false, hrx]
     rw [hrx] at hbx
     refine Fini.trim2 (ex := [_]) ?_ rfl ?_ (hbx _) (hb2 _ _ _)
     · simp -implicitDefEqProofs only [go_sem, List.reduceReplicate, Nat.reduceAdd, Nat.reduceSub, Nat.reduceLT, Nat.reduceLeDiff, Nat.reduceMul, Nat.reduceEqDiff, reduceCtorEq, Int.reduceLE, Int.reduceLT, Int.reduceEq, Int.reduceNe, Int.reduceBEq, Int.reduceBNe, Int.reduceAdd, Int.reduceSub, resA, allSome, rvA, oneOf, gL0]
     · simp)
  | (have hb1 : b1 = false := by cases b1 <;> simp [over] at ho ⊢
     subst hb1
     have hlt3 := over_lt ho
     have h3 : ((a1 : Nat) : Int) < s.size := by omega
     have k42 : (((byteAt s a1 : Nat) : Int) == 42) = (byteAt s a1 == 42) := beq_cast _ 42
     have k43 : (((byteAt s a1 : Nat) : Int) == 43) = (byteAt s a1 == 43) := beq_cast _ 43
     have k63 : (((byteAt s a1 : Nat) : Int) == 63) = (byteAt s a1 == 63) := beq_cast _ 63
     rw [sees_byte ho, sees_byte ho, sees_byte ho]
     have hkid : ∀ op, (Rex.mk op 0 0 0 0 [x]).rv = .agg [I op, U 0, U 0, U 0, U 0, .sl 6 [x.rv]] := fun op => rfl
     simp -implicitDefEqProofs only [go_sem, List.reduceReplicate, Nat.reduceAdd, Nat.reduceSub, Nat.reduceLT, Nat.reduceLeDiff, Nat.reduceMul, Nat.reduceEqDiff, reduceCtorEq, Int.reduceLE, Int.reduceLT, Int.reduceEq, Int.reduceNe, Int.reduceBEq, Int.reduceBNe, Int.reduceAdd, Int.reduceSub, gA hp, sA hp, gL0, sL0, gL1, sL1, h3, byteAt_def, k42]
     cases h42 : byteAt s a1 == 42
     · simp -implicitDefEqProofs only [go_sem, List.reduceReplicate, Nat.reduceAdd, Nat.reduceSub, Nat.reduceLT, Nat.reduceLeDiff, Nat.reduceMul, Nat.reduceEqDiff, reduceCtorEq, Int.reduceLE, Int.reduceLT, Int.reduceEq, Int.reduceNe, Int.reduceBEq, Int.reduceBNe, Int.reduceAdd, Int.reduceSub, k43]
       cases h43 : byteAt s a1 == 43
       · simp -implicitDefEqProofs only [go_sem, List.reduceReplicate, Nat.reduceAdd, Nat.reduceSub, Nat.reduceLT, Nat.reduceLeDiff, Nat.reduceMul, Nat.reduceEqDiff, reduceCtorEq, Int.reduceLE, Int.reduceLT, Int.reduceEq, Int.reduceNe, Int.reduceBEq, Int.reduceBNe, Int.reduceAdd, Int.reduceSub, k63]
         cases h63 : byteAt s a1 == 63
         · simp -implicitDefEqProofs only [go_sem, List.reduceReplicate, Nat.reduceAdd, Nat.reduceSub, Nat.reduceLT, Nat.reduceLeDiff, Nat.reduceMul, Nat.reduceEqDiff, reduceCtorEq, Int.reduceLE, Int.reduceLT, Int.reduceEq, Int.reduceNe, Int.reduceBEq, Int.reduceBNe, Int.reduceAdd, Int.reduceSub, gA hp, sA hp, gL0, sL0, gL1, sL1, hrx]
           rw [hrx] at hbx
           refine Fini.trim2 (ex := [_]) ?_ rfl ?_ (hbx _) (hb2 _ _ _)
           · simp -implicitDefEqProofs only [go_sem, List.reduceReplicate, Nat.reduceAdd, Nat.reduceSub, Nat.reduceLT, Nat.reduceLeDiff, Nat.reduceMul, Nat.reduceEqDiff, reduceCtorEq, Int.reduceLE, Int.reduceLT, Int.reduceEq, Int.reduceNe, Int.reduceBEq, Int.reduceBNe, Int.reduceAdd, Int.reduceSub, resA, allSome, rvA, oneOf, gL0]
           · simp
         · simp -implicitDefEqProofs only [go_sem, List.reduceReplicate, Nat.reduceAdd, Nat.reduceSub, Nat.reduceLT, Nat.reduceLeDiff, Nat.reduceMul, Nat.reduceEqDiff, reduceCtorEq, Int.reduceLE, Int.reduceLT, Int.reduceEq, Int.reduceNe, Int.reduceBEq, Int.reduceBNe, Int.reduceAdd, Int.reduceSub, gA hp, sA hp, gL0, sL0, gL1, sL1, wrap_nat (show a1 ≤ 4294967296 by omega)]
           refine Fini.trim2 (ex := [_]) ?_ rfl ?_ (bel_rv _ _) (hb2 _ _ _)
           · rw [hkid, hrx]; simp -implicitDefEqProofs only [go_sem, List.reduceReplicate, Nat.reduceAdd, Nat.reduceSub, Nat.reduceLT, Nat.reduceLeDiff, Nat.reduceMul, Nat.reduceEqDiff, reduceCtorEq, Int.reduceLE, Int.reduceLT, Int.reduceEq, Int.reduceNe, Int.reduceBEq, Int.reduceBNe, Int.reduceAdd, Int.reduceSub, resA, allSome, rvA, oneOf, gL0]
           · simp
       · simp -implicitDefEqProofs only [go_sem, List.reduceReplicate, Nat.reduceAdd, Nat.reduceSub, Nat.reduceLT, Nat.reduceLeDiff, Nat.reduceMul, Nat.reduceEqDiff, reduceCtorEq, Int.reduceLE, Int.reduceLT, Int.reduceEq, Int.reduceNe, Int.reduceBEq, Int.reduceBNe, Int.reduceAdd, Int.reduceSub, gA hp, sA hp, gL0, sL0, gL1, sL1, wrap_nat (show a1 ≤ 4294967296 by omega)]
         refine Fini.trim2 (ex := [_]) ?_ rfl ?_ (bel_rv _ _) (hb2 _ _ _)
         · rw [hkid, hrx]; simp -implicitDefEqProofs only [go_sem, List.reduceReplicate, Nat.reduceAdd, Nat.reduceSub, Nat.reduceLT, Nat.reduceLeDiff, Nat.reduceMul, Nat.reduceEqDiff, reduceCtorEq, Int.reduceLE, Int.reduceLT, Int.reduceEq, Int.reduceNe, Int.reduceBEq, Int.reduceBNe, Int.reduceAdd, Int.reduceSub, resA, allSome, rvA, oneOf, gL0]
         · simp
     · simp -implicitDefEqProofs only [go_sem, List.reduceReplicate, Nat.reduceAdd, Nat.reduceSub, Nat.reduceLT, Nat.reduceLeDiff, Nat.reduceMul, Nat.reduceEqDiff, reduceCtorEq, Int.reduceLE, Int.reduceLT, Int.reduceEq, Int.reduceNe, Int.reduceBEq, Int.reduceBNe, Int.reduceAdd, Int.reduceSub, gA hp, sA hp, gL0, sL0, gL1, sL1, wrap_nat (show a1 ≤ 4294967296 by omega)]
       refine Fini.trim2 (ex := [_]) ?_ rfl ?_ (bel_rv _ _) (hb2 _ _ _)
       · rw [hkid, hrx]; simp -implicitDefEqProofs only [go_sem, List.reduceReplicate, Nat.reduceAdd, Nat.reduceSub, Nat.reduceLT, Nat.reduceLeDiff, Nat.reduceMul, Nat.reduceEqDiff, reduceCtorEq, Int.reduceLE, Int.reduceLT, Int.reduceEq, Int.reduceNe, Int.reduceBEq, Int.reduceBNe, Int.reduceAdd, Int.reduceSub, resA, allSome, rvA, oneOf, gL0]
       · simp)
end
end Go.Proofs.Ytoadgajhkhejiaa
