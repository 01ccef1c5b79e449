/- Closed runs, call by call: the kernel reckons them. No condition. -/
import Derived.Test.YtoadgajhkhejiaaMRun
import Derived.Test.YtoadgajhkhejiaaAbTree
namespace Go.Proofs.Ytoadgajhkhejiaa
open Go Go.Ab
abbrev a7T : AV := .pl (.bool true)
abbrev a7F : AV := .pl (.bool false)
abbrev a70 : Ob := .row 1 [a7F, a7F, a7F, a7F, a7F, a7F, a7F, a7F, a7F, a7F, a7F, a7F, a7F, a7F, a7F, a7F, a7F, a7F, a7F, a7F, a7F, a7F, a7F, a7F, a7F]
abbrev a71 : Ob := .row 1 [a7T, a7F, a7F, a7F, a7F, a7F, a7F, a7F, a7F, a7F, a7F, a7F, a7F, a7F, a7F, a7F, a7F, a7F, a7F, a7F, a7F, a7F, a7F, a7F, a7F]
abbrev a72 : AV := .agg [.pl (.int .i64 1), .pl (.int .u64 0), .pl (.int .u64 60129542144), .pl (.int .u64 0), .pl (.int .u64 0), .nils]
abbrev a73 : AV := .pl (.string ⟨#[97, 98, 97, 98, 97, 98, 97, 98, 97, 98, 97, 98, 97, 98, 97, 98, 97, 98, 97, 98, 97, 98, 97, 98]⟩)
abbrev a74 : AV := .sl 1 [a7F, a7T, a7T, a7T, a7T, a7T, a7T, a7T, a7T, a7T, a7T, a7T, a7T, a7T, a7T, a7T, a7T, a7T, a7T, a7T, a7T, a7T, a7T, a7T, a7T]
abbrev a75 : Ob := .row 1 [a7F, a7T, a7T, a7T, a7T, a7T, a7T, a7T, a7T, a7T, a7T, a7T, a7T, a7T, a7T, a7T, a7T, a7T, a7T, a7T, a7T, a7T, a7T, a7T, a7T]
abbrev a76 : AV := .sl 1 [a7F, a7F, a7T, a7T, a7T, a7T, a7T, a7T, a7T, a7T, a7T, a7T, a7T, a7T, a7T, a7T, a7T, a7T, a7T, a7T, a7T, a7T, a7T, a7T, a7T]
abbrev a77 : AV := .agg [.pl (.int .i64 2), .pl (.int .u64 0), .pl (.int .u64 0), .pl (.int .u64 0), .pl (.int .u64 0), .sl 6 [.agg [.pl (.int .i64 5), .pl (.int .u64 0), .pl (.int .u64 0), .pl (.int .u64 0), .pl (.int .u64 0), .sl 6 [a72]], .agg [.pl (.int .i64 4), .pl (.int .u64 0), .pl (.int .u64 0), .pl (.int .u64 0), .pl (.int .u64 0), .sl 6 [.agg [.pl (.int .i64 1), .pl (.int .u64 18446744073709551615), .pl (.int .u64 18446744073709551615), .pl (.int .u64 18446744073709551615), .pl (.int .u64 18446744073709551615), .nils]]]]]
/- 471 steps -/
theorem tk3_60_ok : Ans Try.prog 121 [a72, a73, .osl 0 25] [a71, a70, a70] (.sl 1 [a7F, a7T, a7F, a7F, a7F, a7F, a7F, a7F, a7F, a7F, a7F, a7F, a7F, a7F, a7F, a7F, a7F, a7F, a7F, a7F, a7F, a7F, a7F, a7F, a7F]) [a71, a70, a70] := evFT_ok allF extF [] 300 100 _ _ _ _ _ (by kernel_rfl)
def tk3_60 : Memo Try.prog := ⟨_, _, _, _, _, tk3_60_ok⟩

/- 471 steps -/
theorem tk3_61_ok : Ans Try.prog 121 [a72, a73, .sl 1 [a7F, a7T, a7F, a7F, a7F, a7F, a7F, a7F, a7F, a7F, a7F, a7F, a7F, a7F, a7F, a7F, a7F, a7F, a7F, a7F, a7F, a7F, a7F, a7F, a7F]] [a71, a70, a70] (.sl 1 [a7F, a7F, a7T, a7F, a7F, a7F, a7F, a7F, a7F, a7F, a7F, a7F, a7F, a7F, a7F, a7F, a7F, a7F, a7F, a7F, a7F, a7F, a7F, a7F, a7F]) [a71, a70, a70] := evFT_ok allF extF [tk3_60] 300 100 _ _ _ _ _ (by kernel_rfl)
def tk3_61 : Memo Try.prog := ⟨_, _, _, _, _, tk3_61_ok⟩

/- 537 steps -/
theorem tk3_62_ok : Ans Try.prog 137 [.sl 1 [a7F, a7T, a7F, a7F, a7F, a7F, a7F, a7F, a7F, a7F, a7F, a7F, a7F, a7F, a7F, a7F, a7F, a7F, a7F, a7F, a7F, a7F, a7F, a7F, a7F], .sl 1 [a7F, a7F, a7T, a7F, a7F, a7F, a7F, a7F, a7F, a7F, a7F, a7F, a7F, a7F, a7F, a7F, a7F, a7F, a7F, a7F, a7F, a7F, a7F, a7F, a7F]] [a71, a70, a70] (.sl 1 [a7F, a7T, a7T, a7F, a7F, a7F, a7F, a7F, a7F, a7F, a7F, a7F, a7F, a7F, a7F, a7F, a7F, a7F, a7F, a7F, a7F, a7F, a7F, a7F, a7F]) [a71, a70, a70] := evFT_ok allF extF [tk3_60, tk3_61] 300 100 _ _ _ _ _ (by kernel_rfl)
def tk3_62 : Memo Try.prog := ⟨_, _, _, _, _, tk3_62_ok⟩

/- 492 steps -/
theorem tk3_63_ok : Ans Try.prog 121 [a72, a73, .sl 1 [a7F, a7T, a7T, a7F, a7F, a7F, a7F, a7F, a7F, a7F, a7F, a7F, a7F, a7F, a7F, a7F, a7F, a7F, a7F, a7F, a7F, a7F, a7F, a7F, a7F]] [a71, a70, a70] (.sl 1 [a7F, a7F, a7T, a7T, a7F, a7F, a7F, a7F, a7F, a7F, a7F, a7F, a7F, a7F, a7F, a7F, a7F, a7F, a7F, a7F, a7F, a7F, a7F, a7F, a7F]) [a71, a70, a70] := evFT_ok allF extF [tk3_60, tk3_61, tk3_62] 300 100 _ _ _ _ _ (by kernel_rfl)
def tk3_63 : Memo Try.prog := ⟨_, _, _, _, _, tk3_63_ok⟩

/- 537 steps -/
theorem tk3_64_ok : Ans Try.prog 137 [.sl 1 [a7F, a7T, a7T, a7F, a7F, a7F, a7F, a7F, a7F, a7F, a7F, a7F, a7F, a7F, a7F, a7F, a7F, a7F, a7F, a7F, a7F, a7F, a7F, a7F, a7F], .sl 1 [a7F, a7F, a7T, a7T, a7F, a7F, a7F, a7F, a7F, a7F, a7F, a7F, a7F, a7F, a7F, a7F, a7F, a7F, a7F, a7F, a7F, a7F, a7F, a7F, a7F]] [a71, a70, a70] (.sl 1 [a7F, a7T, a7T, a7T, a7F, a7F, a7F, a7F, a7F, a7F, a7F, a7F, a7F, a7F, a7F, a7F, a7F, a7F, a7F, a7F, a7F, a7F, a7F, a7F, a7F]) [a71, a70, a70] := evFT_ok allF extF [tk3_60, tk3_61, tk3_62, tk3_63] 300 100 _ _ _ _ _ (by kernel_rfl)
def tk3_64 : Memo Try.prog := ⟨_, _, _, _, _, tk3_64_ok⟩

/- 513 steps -/
theorem tk3_65_ok : Ans Try.prog 121 [a72, a73, .sl 1 [a7F, a7T, a7T, a7T, a7F, a7F, a7F, a7F, a7F, a7F, a7F, a7F, a7F, a7F, a7F, a7F, a7F, a7F, a7F, a7F, a7F, a7F, a7F, a7F, a7F]] [a71, a70, a70] (.sl 1 [a7F, a7F, a7T, a7T, a7T, a7F, a7F, a7F, a7F, a7F, a7F, a7F, a7F, a7F, a7F, a7F, a7F, a7F, a7F, a7F, a7F, a7F, a7F, a7F, a7F]) [a71, a70, a70] := evFT_ok allF extF [tk3_60, tk3_61, tk3_62, tk3_63, tk3_64] 300 100 _ _ _ _ _ (by kernel_rfl)
def tk3_65 : Memo Try.prog := ⟨_, _, _, _, _, tk3_65_ok⟩

/- 537 steps -/
theorem tk3_66_ok : Ans Try.prog 137 [.sl 1 [a7F, a7T, a7T, a7T, a7F, a7F, a7F, a7F, a7F, a7F, a7F, a7F, a7F, a7F, a7F, a7F, a7F, a7F, a7F, a7F, a7F, a7F, a7F, a7F, a7F], .sl 1 [a7F, a7F, a7T, a7T, a7T, a7F, a7F, a7F, a7F, a7F, a7F, a7F, a7F, a7F, a7F, a7F, a7F, a7F, a7F, a7F, a7F, a7F, a7F, a7F, a7F]] [a71, a70, a70] (.sl 1 [a7F, a7T, a7T, a7T, a7T, a7F, a7F, a7F, a7F, a7F, a7F, a7F, a7F, a7F, a7F, a7F, a7F, a7F, a7F, a7F, a7F, a7F, a7F, a7F, a7F]) [a71, a70, a70] := evFT_ok allF extF [tk3_60, tk3_61, tk3_62, tk3_63, tk3_64, tk3_65] 300 100 _ _ _ _ _ (by kernel_rfl)
def tk3_66 : Memo Try.prog := ⟨_, _, _, _, _, tk3_66_ok⟩

/- 534 steps -/
theorem tk3_67_ok : Ans Try.prog 121 [a72, a73, .sl 1 [a7F, a7T, a7T, a7T, a7T, a7F, a7F, a7F, a7F, a7F, a7F, a7F, a7F, a7F, a7F, a7F, a7F, a7F, a7F, a7F, a7F, a7F, a7F, a7F, a7F]] [a71, a70, a70] (.sl 1 [a7F, a7F, a7T, a7T, a7T, a7T, a7F, a7F, a7F, a7F, a7F, a7F, a7F, a7F, a7F, a7F, a7F, a7F, a7F, a7F, a7F, a7F, a7F, a7F, a7F]) [a71, a70, a70] := evFT_ok allF extF [tk3_60, tk3_61, tk3_62, tk3_63, tk3_64, tk3_65, tk3_66] 300 100 _ _ _ _ _ (by kernel_rfl)
def tk3_67 : Memo Try.prog := ⟨_, _, _, _, _, tk3_67_ok⟩

/- 537 steps -/
theorem tk3_68_ok : Ans Try.prog 137 [.sl 1 [a7F, a7T, a7T, a7T, a7T, a7F, a7F, a7F, a7F, a7F, a7F, a7F, a7F, a7F, a7F, a7F, a7F, a7F, a7F, a7F, a7F, a7F, a7F, a7F, a7F], .sl 1 [a7F, a7F, a7T, a7T, a7T, a7T, a7F, a7F, a7F, a7F, a7F, a7F, a7F, a7F, a7F, a7F, a7F, a7F, a7F, a7F, a7F, a7F, a7F, a7F, a7F]] [a71, a70, a70] (.sl 1 [a7F, a7T, a7T, a7T, a7T, a7T, a7F, a7F, a7F, a7F, a7F, a7F, a7F, a7F, a7F, a7F, a7F, a7F, a7F, a7F, a7F, a7F, a7F, a7F, a7F]) [a71, a70, a70] := evFT_ok allF extF [tk3_60, tk3_61, tk3_62, tk3_63, tk3_64, tk3_65, tk3_66, tk3_67] 300 100 _ _ _ _ _ (by kernel_rfl)
def tk3_68 : Memo Try.prog := ⟨_, _, _, _, _, tk3_68_ok⟩

/- 555 steps -/
theorem tk3_69_ok : Ans Try.prog 121 [a72, a73, .sl 1 [a7F, a7T, a7T, a7T, a7T, a7T, a7F, a7F, a7F, a7F, a7F, a7F, a7F, a7F, a7F, a7F, a7F, a7F, a7F, a7F, a7F, a7F, a7F, a7F, a7F]] [a71, a70, a70] (.sl 1 [a7F, a7F, a7T, a7T, a7T, a7T, a7T, a7F, a7F, a7F, a7F, a7F, a7F, a7F, a7F, a7F, a7F, a7F, a7F, a7F, a7F, a7F, a7F, a7F, a7F]) [a71, a70, a70] := evFT_ok allF extF [tk3_60, tk3_61, tk3_62, tk3_63, tk3_64, tk3_65, tk3_66, tk3_67, tk3_68] 300 100 _ _ _ _ _ (by kernel_rfl)
def tk3_69 : Memo Try.prog := ⟨_, _, _, _, _, tk3_69_ok⟩

/- 537 steps -/
theorem tk3_610_ok : Ans Try.prog 137 [.sl 1 [a7F, a7T, a7T, a7T, a7T, a7T, a7F, a7F, a7F, a7F, a7F, a7F, a7F, a7F, a7F, a7F, a7F, a7F, a7F, a7F, a7F, a7F, a7F, a7F, a7F], .sl 1 [a7F, a7F, a7T, a7T, a7T, a7T, a7T, a7F, a7F, a7F, a7F, a7F, a7F, a7F, a7F, a7F, a7F, a7F, a7F, a7F, a7F, a7F, a7F, a7F, a7F]] [a71, a70, a70] (.sl 1 [a7F, a7T, a7T, a7T, a7T, a7T, a7T, a7F, a7F, a7F, a7F, a7F, a7F, a7F, a7F, a7F, a7F, a7F, a7F, a7F, a7F, a7F, a7F, a7F, a7F]) [a71, a70, a70] := evFT_ok allF extF [tk3_60, tk3_61, tk3_62, tk3_63, tk3_64, tk3_65, tk3_66, tk3_67, tk3_68, tk3_69] 300 100 _ _ _ _ _ (by kernel_rfl)
def tk3_610 : Memo Try.prog := ⟨_, _, _, _, _, tk3_610_ok⟩

/- 576 steps -/
theorem tk3_611_ok : Ans Try.prog 121 [a72, a73, .sl 1 [a7F, a7T, a7T, a7T, a7T, a7T, a7T, a7F, a7F, a7F, a7F, a7F, a7F, a7F, a7F, a7F, a7F, a7F, a7F, a7F, a7F, a7F, a7F, a7F, a7F]] [a71, a70, a70] (.sl 1 [a7F, a7F, a7T, a7T, a7T, a7T, a7T, a7T, a7F, a7F, a7F, a7F, a7F, a7F, a7F, a7F, a7F, a7F, a7F, a7F, a7F, a7F, a7F, a7F, a7F]) [a71, a70, a70] := evFT_ok allF extF [tk3_60, tk3_61, tk3_62, tk3_63, tk3_64, tk3_65, tk3_66, tk3_67, tk3_68, tk3_69, tk3_610] 300 100 _ _ _ _ _ (by kernel_rfl)
def tk3_611 : Memo Try.prog := ⟨_, _, _, _, _, tk3_611_ok⟩

/- 537 steps -/
theorem tk3_612_ok : Ans Try.prog 137 [.sl 1 [a7F, a7T, a7T, a7T, a7T, a7T, a7T, a7F, a7F, a7F, a7F, a7F, a7F, a7F, a7F, a7F, a7F, a7F, a7F, a7F, a7F, a7F, a7F, a7F, a7F], .sl 1 [a7F, a7F, a7T, a7T, a7T, a7T, a7T, a7T, a7F, a7F, a7F, a7F, a7F, a7F, a7F, a7F, a7F, a7F, a7F, a7F, a7F, a7F, a7F, a7F, a7F]] [a71, a70, a70] (.sl 1 [a7F, a7T, a7T, a7T, a7T, a7T, a7T, a7T, a7F, a7F, a7F, a7F, a7F, a7F, a7F, a7F, a7F, a7F, a7F, a7F, a7F, a7F, a7F, a7F, a7F]) [a71, a70, a70] := evFT_ok allF extF [tk3_60, tk3_61, tk3_62, tk3_63, tk3_64, tk3_65, tk3_66, tk3_67, tk3_68, tk3_69, tk3_610, tk3_611] 300 100 _ _ _ _ _ (by kernel_rfl)
def tk3_612 : Memo Try.prog := ⟨_, _, _, _, _, tk3_612_ok⟩

/- 597 steps -/
theorem tk3_613_ok : Ans Try.prog 121 [a72, a73, .sl 1 [a7F, a7T, a7T, a7T, a7T, a7T, a7T, a7T, a7F, a7F, a7F, a7F, a7F, a7F, a7F, a7F, a7F, a7F, a7F, a7F, a7F, a7F, a7F, a7F, a7F]] [a71, a70, a70] (.sl 1 [a7F, a7F, a7T, a7T, a7T, a7T, a7T, a7T, a7T, a7F, a7F, a7F, a7F, a7F, a7F, a7F, a7F, a7F, a7F, a7F, a7F, a7F, a7F, a7F, a7F]) [a71, a70, a70] := evFT_ok allF extF [tk3_60, tk3_61, tk3_62, tk3_63, tk3_64, tk3_65, tk3_66, tk3_67, tk3_68, tk3_69, tk3_610, tk3_611, tk3_612] 300 100 _ _ _ _ _ (by kernel_rfl)
def tk3_613 : Memo Try.prog := ⟨_, _, _, _, _, tk3_613_ok⟩

/- 537 steps -/
theorem tk3_614_ok : Ans Try.prog 137 [.sl 1 [a7F, a7T, a7T, a7T, a7T, a7T, a7T, a7T, a7F, a7F, a7F, a7F, a7F, a7F, a7F, a7F, a7F, a7F, a7F, a7F, a7F, a7F, a7F, a7F, a7F], .sl 1 [a7F, a7F, a7T, a7T, a7T, a7T, a7T, a7T, a7T, a7F, a7F, a7F, a7F, a7F, a7F, a7F, a7F, a7F, a7F, a7F, a7F, a7F, a7F, a7F, a7F]] [a71, a70, a70] (.sl 1 [a7F, a7T, a7T, a7T, a7T, a7T, a7T, a7T, a7T, a7F, a7F, a7F, a7F, a7F, a7F, a7F, a7F, a7F, a7F, a7F, a7F, a7F, a7F, a7F, a7F]) [a71, a70, a70] := evFT_ok allF extF [tk3_60, tk3_61, tk3_62, tk3_63, tk3_64, tk3_65, tk3_66, tk3_67, tk3_68, tk3_69, tk3_610, tk3_611, tk3_612, tk3_613] 300 100 _ _ _ _ _ (by kernel_rfl)
def tk3_614 : Memo Try.prog := ⟨_, _, _, _, _, tk3_614_ok⟩

/- 618 steps -/
theorem tk3_615_ok : Ans Try.prog 121 [a72, a73, .sl 1 [a7F, a7T, a7T, a7T, a7T, a7T, a7T, a7T, a7T, a7F, a7F, a7F, a7F, a7F, a7F, a7F, a7F, a7F, a7F, a7F, a7F, a7F, a7F, a7F, a7F]] [a71, a70, a70] (.sl 1 [a7F, a7F, a7T, a7T, a7T, a7T, a7T, a7T, a7T, a7T, a7F, a7F, a7F, a7F, a7F, a7F, a7F, a7F, a7F, a7F, a7F, a7F, a7F, a7F, a7F]) [a71, a70, a70] := evFT_ok allF extF [tk3_60, tk3_61, tk3_62, tk3_63, tk3_64, tk3_65, tk3_66, tk3_67, tk3_68, tk3_69, tk3_610, tk3_611, tk3_612, tk3_613, tk3_614] 300 100 _ _ _ _ _ (by kernel_rfl)
def tk3_615 : Memo Try.prog := ⟨_, _, _, _, _, tk3_615_ok⟩

/- 537 steps -/
theorem tk3_616_ok : Ans Try.prog 137 [.sl 1 [a7F, a7T, a7T, a7T, a7T, a7T, a7T, a7T, a7T, a7F, a7F, a7F, a7F, a7F, a7F, a7F, a7F, a7F, a7F, a7F, a7F, a7F, a7F, a7F, a7F], .sl 1 [a7F, a7F, a7T, a7T, a7T, a7T, a7T, a7T, a7T, a7T, a7F, a7F, a7F, a7F, a7F, a7F, a7F, a7F, a7F, a7F, a7F, a7F, a7F, a7F, a7F]] [a71, a70, a70] (.sl 1 [a7F, a7T, a7T, a7T, a7T, a7T, a7T, a7T, a7T, a7T, a7F, a7F, a7F, a7F, a7F, a7F, a7F, a7F, a7F, a7F, a7F, a7F, a7F, a7F, a7F]) [a71, a70, a70] := evFT_ok allF extF [tk3_60, tk3_61, tk3_62, tk3_63, tk3_64, tk3_65, tk3_66, tk3_67, tk3_68, tk3_69, tk3_610, tk3_611, tk3_612, tk3_613, tk3_614, tk3_615] 300 100 _ _ _ _ _ (by kernel_rfl)
def tk3_616 : Memo Try.prog := ⟨_, _, _, _, _, tk3_616_ok⟩

/- 639 steps -/
theorem tk3_617_ok : Ans Try.prog 121 [a72, a73, .sl 1 [a7F, a7T, a7T, a7T, a7T, a7T, a7T, a7T, a7T, a7T, a7F, a7F, a7F, a7F, a7F, a7F, a7F, a7F, a7F, a7F, a7F, a7F, a7F, a7F, a7F]] [a71, a70, a70] (.sl 1 [a7F, a7F, a7T, a7T, a7T, a7T, a7T, a7T, a7T, a7T, a7T, a7F, a7F, a7F, a7F, a7F, a7F, a7F, a7F, a7F, a7F, a7F, a7F, a7F, a7F]) [a71, a70, a70] := evFT_ok allF extF [tk3_60, tk3_61, tk3_62, tk3_63, tk3_64, tk3_65, tk3_66, tk3_67, tk3_68, tk3_69, tk3_610, tk3_611, tk3_612, tk3_613, tk3_614, tk3_615, tk3_616] 300 100 _ _ _ _ _ (by kernel_rfl)
def tk3_617 : Memo Try.prog := ⟨_, _, _, _, _, tk3_617_ok⟩

/- 537 steps -/
theorem tk3_618_ok : Ans Try.prog 137 [.sl 1 [a7F, a7T, a7T, a7T, a7T, a7T, a7T, a7T, a7T, a7T, a7F, a7F, a7F, a7F, a7F, a7F, a7F, a7F, a7F, a7F, a7F, a7F, a7F, a7F, a7F], .sl 1 [a7F, a7F, a7T, a7T, a7T, a7T, a7T, a7T, a7T, a7T, a7T, a7F, a7F, a7F, a7F, a7F, a7F, a7F, a7F, a7F, a7F, a7F, a7F, a7F, a7F]] [a71, a70, a70] (.sl 1 [a7F, a7T, a7T, a7T, a7T, a7T, a7T, a7T, a7T, a7T, a7T, a7F, a7F, a7F, a7F, a7F, a7F, a7F, a7F, a7F, a7F, a7F, a7F, a7F, a7F]) [a71, a70, a70] := evFT_ok allF extF [tk3_60, tk3_61, tk3_62, tk3_63, tk3_64, tk3_65, tk3_66, tk3_67, tk3_68, tk3_69, tk3_610, tk3_611, tk3_612, tk3_613, tk3_614, tk3_615, tk3_616, tk3_617] 300 100 _ _ _ _ _ (by kernel_rfl)
def tk3_618 : Memo Try.prog := ⟨_, _, _, _, _, tk3_618_ok⟩

/- 660 steps -/
theorem tk3_619_ok : Ans Try.prog 121 [a72, a73, .sl 1 [a7F, a7T, a7T, a7T, a7T, a7T, a7T, a7T, a7T, a7T, a7T, a7F, a7F, a7F, a7F, a7F, a7F, a7F, a7F, a7F, a7F, a7F, a7F, a7F, a7F]] [a71, a70, a70] (.sl 1 [a7F, a7F, a7T, a7T, a7T, a7T, a7T, a7T, a7T, a7T, a7T, a7T, a7F, a7F, a7F, a7F, a7F, a7F, a7F, a7F, a7F, a7F, a7F, a7F, a7F]) [a71, a70, a70] := evFT_ok allF extF [tk3_60, tk3_61, tk3_62, tk3_63, tk3_64, tk3_65, tk3_66, tk3_67, tk3_68, tk3_69, tk3_610, tk3_611, tk3_612, tk3_613, tk3_614, tk3_615, tk3_616, tk3_617, tk3_618] 300 100 _ _ _ _ _ (by kernel_rfl)
def tk3_619 : Memo Try.prog := ⟨_, _, _, _, _, tk3_619_ok⟩

/- 537 steps -/
theorem tk3_620_ok : Ans Try.prog 137 [.sl 1 [a7F, a7T, a7T, a7T, a7T, a7T, a7T, a7T, a7T, a7T, a7T, a7F, a7F, a7F, a7F, a7F, a7F, a7F, a7F, a7F, a7F, a7F, a7F, a7F, a7F], .sl 1 [a7F, a7F, a7T, a7T, a7T, a7T, a7T, a7T, a7T, a7T, a7T, a7T, a7F, a7F, a7F, a7F, a7F, a7F, a7F, a7F, a7F, a7F, a7F, a7F, a7F]] [a71, a70, a70] (.sl 1 [a7F, a7T, a7T, a7T, a7T, a7T, a7T, a7T, a7T, a7T, a7T, a7T, a7F, a7F, a7F, a7F, a7F, a7F, a7F, a7F, a7F, a7F, a7F, a7F, a7F]) [a71, a70, a70] := evFT_ok allF extF [tk3_60, tk3_61, tk3_62, tk3_63, tk3_64, tk3_65, tk3_66, tk3_67, tk3_68, tk3_69, tk3_610, tk3_611, tk3_612, tk3_613, tk3_614, tk3_615, tk3_616, tk3_617, tk3_618, tk3_619] 300 100 _ _ _ _ _ (by kernel_rfl)
def tk3_620 : Memo Try.prog := ⟨_, _, _, _, _, tk3_620_ok⟩

/- 681 steps -/
theorem tk3_621_ok : Ans Try.prog 121 [a72, a73, .sl 1 [a7F, a7T, a7T, a7T, a7T, a7T, a7T, a7T, a7T, a7T, a7T, a7T, a7F, a7F, a7F, a7F, a7F, a7F, a7F, a7F, a7F, a7F, a7F, a7F, a7F]] [a71, a70, a70] (.sl 1 [a7F, a7F, a7T, a7T, a7T, a7T, a7T, a7T, a7T, a7T, a7T, a7T, a7T, a7F, a7F, a7F, a7F, a7F, a7F, a7F, a7F, a7F, a7F, a7F, a7F]) [a71, a70, a70] := evFT_ok allF extF [tk3_60, tk3_61, tk3_62, tk3_63, tk3_64, tk3_65, tk3_66, tk3_67, tk3_68, tk3_69, tk3_610, tk3_611, tk3_612, tk3_613, tk3_614, tk3_615, tk3_616, tk3_617, tk3_618, tk3_619, tk3_620] 300 100 _ _ _ _ _ (by kernel_rfl)
def tk3_621 : Memo Try.prog := ⟨_, _, _, _, _, tk3_621_ok⟩

/- 537 steps -/
theorem tk3_622_ok : Ans Try.prog 137 [.sl 1 [a7F, a7T, a7T, a7T, a7T, a7T, a7T, a7T, a7T, a7T, a7T, a7T, a7F, a7F, a7F, a7F, a7F, a7F, a7F, a7F, a7F, a7F, a7F, a7F, a7F], .sl 1 [a7F, a7F, a7T, a7T, a7T, a7T, a7T, a7T, a7T, a7T, a7T, a7T, a7T, a7F, a7F, a7F, a7F, a7F, a7F, a7F, a7F, a7F, a7F, a7F, a7F]] [a71, a70, a70] (.sl 1 [a7F, a7T, a7T, a7T, a7T, a7T, a7T, a7T, a7T, a7T, a7T, a7T, a7T, a7F, a7F, a7F, a7F, a7F, a7F, a7F, a7F, a7F, a7F, a7F, a7F]) [a71, a70, a70] := evFT_ok allF extF [tk3_60, tk3_61, tk3_62, tk3_63, tk3_64, tk3_65, tk3_66, tk3_67, tk3_68, tk3_69, tk3_610, tk3_611, tk3_612, tk3_613, tk3_614, tk3_615, tk3_616, tk3_617, tk3_618, tk3_619, tk3_620, tk3_621] 300 100 _ _ _ _ _ (by kernel_rfl)
def tk3_622 : Memo Try.prog := ⟨_, _, _, _, _, tk3_622_ok⟩

/- 702 steps -/
theorem tk3_623_ok : Ans Try.prog 121 [a72, a73, .sl 1 [a7F, a7T, a7T, a7T, a7T, a7T, a7T, a7T, a7T, a7T, a7T, a7T, a7T, a7F, a7F, a7F, a7F, a7F, a7F, a7F, a7F, a7F, a7F, a7F, a7F]] [a71, a70, a70] (.sl 1 [a7F, a7F, a7T, a7T, a7T, a7T, a7T, a7T, a7T, a7T, a7T, a7T, a7T, a7T, a7F, a7F, a7F, a7F, a7F, a7F, a7F, a7F, a7F, a7F, a7F]) [a71, a70, a70] := evFT_ok allF extF [tk3_60, tk3_61, tk3_62, tk3_63, tk3_64, tk3_65, tk3_66, tk3_67, tk3_68, tk3_69, tk3_610, tk3_611, tk3_612, tk3_613, tk3_614, tk3_615, tk3_616, tk3_617, tk3_618, tk3_619, tk3_620, tk3_621, tk3_622] 300 100 _ _ _ _ _ (by kernel_rfl)
def tk3_623 : Memo Try.prog := ⟨_, _, _, _, _, tk3_623_ok⟩

/- 537 steps -/
theorem tk3_624_ok : Ans Try.prog 137 [.sl 1 [a7F, a7T, a7T, a7T, a7T, a7T, a7T, a7T, a7T, a7T, a7T, a7T, a7T, a7F, a7F, a7F, a7F, a7F, a7F, a7F, a7F, a7F, a7F, a7F, a7F], .sl 1 [a7F, a7F, a7T, a7T, a7T, a7T, a7T, a7T, a7T, a7T, a7T, a7T, a7T, a7T, a7F, a7F, a7F, a7F, a7F, a7F, a7F, a7F, a7F, a7F, a7F]] [a71, a70, a70] (.sl 1 [a7F, a7T, a7T, a7T, a7T, a7T, a7T, a7T, a7T, a7T, a7T, a7T, a7T, a7T, a7F, a7F, a7F, a7F, a7F, a7F, a7F, a7F, a7F, a7F, a7F]) [a71, a70, a70] := evFT_ok allF extF [tk3_60, tk3_61, tk3_62, tk3_63, tk3_64, tk3_65, tk3_66, tk3_67, tk3_68, tk3_69, tk3_610, tk3_611, tk3_612, tk3_613, tk3_614, tk3_615, tk3_616, tk3_617, tk3_618, tk3_619, tk3_620, tk3_621, tk3_622, tk3_623] 300 100 _ _ _ _ _ (by kernel_rfl)
def tk3_624 : Memo Try.prog := ⟨_, _, _, _, _, tk3_624_ok⟩

/- 723 steps -/
theorem tk3_625_ok : Ans Try.prog 121 [a72, a73, .sl 1 [a7F, a7T, a7T, a7T, a7T, a7T, a7T, a7T, a7T, a7T, a7T, a7T, a7T, a7T, a7F, a7F, a7F, a7F, a7F, a7F, a7F, a7F, a7F, a7F, a7F]] [a71, a70, a70] (.sl 1 [a7F, a7F, a7T, a7T, a7T, a7T, a7T, a7T, a7T, a7T, a7T, a7T, a7T, a7T, a7T, a7F, a7F, a7F, a7F, a7F, a7F, a7F, a7F, a7F, a7F]) [a71, a70, a70] := evFT_ok allF extF [tk3_60, tk3_61, tk3_62, tk3_63, tk3_64, tk3_65, tk3_66, tk3_67, tk3_68, tk3_69, tk3_610, tk3_611, tk3_612, tk3_613, tk3_614, tk3_615, tk3_616, tk3_617, tk3_618, tk3_619, tk3_620, tk3_621, tk3_622, tk3_623, tk3_624] 300 100 _ _ _ _ _ (by kernel_rfl)
def tk3_625 : Memo Try.prog := ⟨_, _, _, _, _, tk3_625_ok⟩

/- 537 steps -/
theorem tk3_626_ok : Ans Try.prog 137 [.sl 1 [a7F, a7T, a7T, a7T, a7T, a7T, a7T, a7T, a7T, a7T, a7T, a7T, a7T, a7T, a7F, a7F, a7F, a7F, a7F, a7F, a7F, a7F, a7F, a7F, a7F], .sl 1 [a7F, a7F, a7T, a7T, a7T, a7T, a7T, a7T, a7T, a7T, a7T, a7T, a7T, a7T, a7T, a7F, a7F, a7F, a7F, a7F, a7F, a7F, a7F, a7F, a7F]] [a71, a70, a70] (.sl 1 [a7F, a7T, a7T, a7T, a7T, a7T, a7T, a7T, a7T, a7T, a7T, a7T, a7T, a7T, a7T, a7F, a7F, a7F, a7F, a7F, a7F, a7F, a7F, a7F, a7F]) [a71, a70, a70] := evFT_ok allF extF [tk3_60, tk3_61, tk3_62, tk3_63, tk3_64, tk3_65, tk3_66, tk3_67, tk3_68, tk3_69, tk3_610, tk3_611, tk3_612, tk3_613, tk3_614, tk3_615, tk3_616, tk3_617, tk3_618, tk3_619, tk3_620, tk3_621, tk3_622, tk3_623, tk3_624, tk3_625] 300 100 _ _ _ _ _ (by kernel_rfl)
def tk3_626 : Memo Try.prog := ⟨_, _, _, _, _, tk3_626_ok⟩

/- 744 steps -/
theorem tk3_627_ok : Ans Try.prog 121 [a72, a73, .sl 1 [a7F, a7T, a7T, a7T, a7T, a7T, a7T, a7T, a7T, a7T, a7T, a7T, a7T, a7T, a7T, a7F, a7F, a7F, a7F, a7F, a7F, a7F, a7F, a7F, a7F]] [a71, a70, a70] (.sl 1 [a7F, a7F, a7T, a7T, a7T, a7T, a7T, a7T, a7T, a7T, a7T, a7T, a7T, a7T, a7T, a7T, a7F, a7F, a7F, a7F, a7F, a7F, a7F, a7F, a7F]) [a71, a70, a70] := evFT_ok allF extF [tk3_60, tk3_61, tk3_62, tk3_63, tk3_64, tk3_65, tk3_66, tk3_67, tk3_68, tk3_69, tk3_610, tk3_611, tk3_612, tk3_613, tk3_614, tk3_615, tk3_616, tk3_617, tk3_618, tk3_619, tk3_620, tk3_621, tk3_622, tk3_623, tk3_624, tk3_625, tk3_626] 300 100 _ _ _ _ _ (by kernel_rfl)
def tk3_627 : Memo Try.prog := ⟨_, _, _, _, _, tk3_627_ok⟩

/- 537 steps -/
theorem tk3_628_ok : Ans Try.prog 137 [.sl 1 [a7F, a7T, a7T, a7T, a7T, a7T, a7T, a7T, a7T, a7T, a7T, a7T, a7T, a7T, a7T, a7F, a7F, a7F, a7F, a7F, a7F, a7F, a7F, a7F, a7F], .sl 1 [a7F, a7F, a7T, a7T, a7T, a7T, a7T, a7T, a7T, a7T, a7T, a7T, a7T, a7T, a7T, a7T, a7F, a7F, a7F, a7F, a7F, a7F, a7F, a7F, a7F]] [a71, a70, a70] (.sl 1 [a7F, a7T, a7T, a7T, a7T, a7T, a7T, a7T, a7T, a7T, a7T, a7T, a7T, a7T, a7T, a7T, a7F, a7F, a7F, a7F, a7F, a7F, a7F, a7F, a7F]) [a71, a70, a70] := evFT_ok allF extF [tk3_60, tk3_61, tk3_62, tk3_63, tk3_64, tk3_65, tk3_66, tk3_67, tk3_68, tk3_69, tk3_610, tk3_611, tk3_612, tk3_613, tk3_614, tk3_615, tk3_616, tk3_617, tk3_618, tk3_619, tk3_620, tk3_621, tk3_622, tk3_623, tk3_624, tk3_625, tk3_626, tk3_627] 300 100 _ _ _ _ _ (by kernel_rfl)
def tk3_628 : Memo Try.prog := ⟨_, _, _, _, _, tk3_628_ok⟩

/- 765 steps -/
theorem tk3_629_ok : Ans Try.prog 121 [a72, a73, .sl 1 [a7F, a7T, a7T, a7T, a7T, a7T, a7T, a7T, a7T, a7T, a7T, a7T, a7T, a7T, a7T, a7T, a7F, a7F, a7F, a7F, a7F, a7F, a7F, a7F, a7F]] [a71, a70, a70] (.sl 1 [a7F, a7F, a7T, a7T, a7T, a7T, a7T, a7T, a7T, a7T, a7T, a7T, a7T, a7T, a7T, a7T, a7T, a7F, a7F, a7F, a7F, a7F, a7F, a7F, a7F]) [a71, a70, a70] := evFT_ok allF extF [tk3_60, tk3_61, tk3_62, tk3_63, tk3_64, tk3_65, tk3_66, tk3_67, tk3_68, tk3_69, tk3_610, tk3_611, tk3_612, tk3_613, tk3_614, tk3_615, tk3_616, tk3_617, tk3_618, tk3_619, tk3_620, tk3_621, tk3_622, tk3_623, tk3_624, tk3_625, tk3_626, tk3_627, tk3_628] 300 100 _ _ _ _ _ (by kernel_rfl)
def tk3_629 : Memo Try.prog := ⟨_, _, _, _, _, tk3_629_ok⟩

/- 537 steps -/
theorem tk3_630_ok : Ans Try.prog 137 [.sl 1 [a7F, a7T, a7T, a7T, a7T, a7T, a7T, a7T, a7T, a7T, a7T, a7T, a7T, a7T, a7T, a7T, a7F, a7F, a7F, a7F, a7F, a7F, a7F, a7F, a7F], .sl 1 [a7F, a7F, a7T, a7T, a7T, a7T, a7T, a7T, a7T, a7T, a7T, a7T, a7T, a7T, a7T, a7T, a7T, a7F, a7F, a7F, a7F, a7F, a7F, a7F, a7F]] [a71, a70, a70] (.sl 1 [a7F, a7T, a7T, a7T, a7T, a7T, a7T, a7T, a7T, a7T, a7T, a7T, a7T, a7T, a7T, a7T, a7T, a7F, a7F, a7F, a7F, a7F, a7F, a7F, a7F]) [a71, a70, a70] := evFT_ok allF extF [tk3_60, tk3_61, tk3_62, tk3_63, tk3_64, tk3_65, tk3_66, tk3_67, tk3_68, tk3_69, tk3_610, tk3_611, tk3_612, tk3_613, tk3_614, tk3_615, tk3_616, tk3_617, tk3_618, tk3_619, tk3_620, tk3_621, tk3_622, tk3_623, tk3_624, tk3_625, tk3_626, tk3_627, tk3_628, tk3_629] 300 100 _ _ _ _ _ (by kernel_rfl)
def tk3_630 : Memo Try.prog := ⟨_, _, _, _, _, tk3_630_ok⟩

/- 786 steps -/
theorem tk3_631_ok : Ans Try.prog 121 [a72, a73, .sl 1 [a7F, a7T, a7T, a7T, a7T, a7T, a7T, a7T, a7T, a7T, a7T, a7T, a7T, a7T, a7T, a7T, a7T, a7F, a7F, a7F, a7F, a7F, a7F, a7F, a7F]] [a71, a70, a70] (.sl 1 [a7F, a7F, a7T, a7T, a7T, a7T, a7T, a7T, a7T, a7T, a7T, a7T, a7T, a7T, a7T, a7T, a7T, a7T, a7F, a7F, a7F, a7F, a7F, a7F, a7F]) [a71, a70, a70] := evFT_ok allF extF [tk3_60, tk3_61, tk3_62, tk3_63, tk3_64, tk3_65, tk3_66, tk3_67, tk3_68, tk3_69, tk3_610, tk3_611, tk3_612, tk3_613, tk3_614, tk3_615, tk3_616, tk3_617, tk3_618, tk3_619, tk3_620, tk3_621, tk3_622, tk3_623, tk3_624, tk3_625, tk3_626, tk3_627, tk3_628, tk3_629, tk3_630] 300 100 _ _ _ _ _ (by kernel_rfl)
def tk3_631 : Memo Try.prog := ⟨_, _, _, _, _, tk3_631_ok⟩

/- 537 steps -/
theorem tk3_632_ok : Ans Try.prog 137 [.sl 1 [a7F, a7T, a7T, a7T, a7T, a7T, a7T, a7T, a7T, a7T, a7T, a7T, a7T, a7T, a7T, a7T, a7T, a7F, a7F, a7F, a7F, a7F, a7F, a7F, a7F], .sl 1 [a7F, a7F, a7T, a7T, a7T, a7T, a7T, a7T, a7T, a7T, a7T, a7T, a7T, a7T, a7T, a7T, a7T, a7T, a7F, a7F, a7F, a7F, a7F, a7F, a7F]] [a71, a70, a70] (.sl 1 [a7F, a7T, a7T, a7T, a7T, a7T, a7T, a7T, a7T, a7T, a7T, a7T, a7T, a7T, a7T, a7T, a7T, a7T, a7F, a7F, a7F, a7F, a7F, a7F, a7F]) [a71, a70, a70] := evFT_ok allF extF [tk3_60, tk3_61, tk3_62, tk3_63, tk3_64, tk3_65, tk3_66, tk3_67, tk3_68, tk3_69, tk3_610, tk3_611, tk3_612, tk3_613, tk3_614, tk3_615, tk3_616, tk3_617, tk3_618, tk3_619, tk3_620, tk3_621, tk3_622, tk3_623, tk3_624, tk3_625, tk3_626, tk3_627, tk3_628, tk3_629, tk3_630, tk3_631] 300 100 _ _ _ _ _ (by kernel_rfl)
def tk3_632 : Memo Try.prog := ⟨_, _, _, _, _, tk3_632_ok⟩

/- 807 steps -/
theorem tk3_633_ok : Ans Try.prog 121 [a72, a73, .sl 1 [a7F, a7T, a7T, a7T, a7T, a7T, a7T, a7T, a7T, a7T, a7T, a7T, a7T, a7T, a7T, a7T, a7T, a7T, a7F, a7F, a7F, a7F, a7F, a7F, a7F]] [a71, a70, a70] (.sl 1 [a7F, a7F, a7T, a7T, a7T, a7T, a7T, a7T, a7T, a7T, a7T, a7T, a7T, a7T, a7T, a7T, a7T, a7T, a7T, a7F, a7F, a7F, a7F, a7F, a7F]) [a71, a70, a70] := evFT_ok allF extF [tk3_60, tk3_61, tk3_62, tk3_63, tk3_64, tk3_65, tk3_66, tk3_67, tk3_68, tk3_69, tk3_610, tk3_611, tk3_612, tk3_613, tk3_614, tk3_615, tk3_616, tk3_617, tk3_618, tk3_619, tk3_620, tk3_621, tk3_622, tk3_623, tk3_624, tk3_625, tk3_626, tk3_627, tk3_628, tk3_629, tk3_630, tk3_631, tk3_632] 300 100 _ _ _ _ _ (by kernel_rfl)
def tk3_633 : Memo Try.prog := ⟨_, _, _, _, _, tk3_633_ok⟩

/- 537 steps -/
theorem tk3_634_ok : Ans Try.prog 137 [.sl 1 [a7F, a7T, a7T, a7T, a7T, a7T, a7T, a7T, a7T, a7T, a7T, a7T, a7T, a7T, a7T, a7T, a7T, a7T, a7F, a7F, a7F, a7F, a7F, a7F, a7F], .sl 1 [a7F, a7F, a7T, a7T, a7T, a7T, a7T, a7T, a7T, a7T, a7T, a7T, a7T, a7T, a7T, a7T, a7T, a7T, a7T, a7F, a7F, a7F, a7F, a7F, a7F]] [a71, a70, a70] (.sl 1 [a7F, a7T, a7T, a7T, a7T, a7T, a7T, a7T, a7T, a7T, a7T, a7T, a7T, a7T, a7T, a7T, a7T, a7T, a7T, a7F, a7F, a7F, a7F, a7F, a7F]) [a71, a70, a70] := evFT_ok allF extF [tk3_60, tk3_61, tk3_62, tk3_63, tk3_64, tk3_65, tk3_66, tk3_67, tk3_68, tk3_69, tk3_610, tk3_611, tk3_612, tk3_613, tk3_614, tk3_615, tk3_616, tk3_617, tk3_618, tk3_619, tk3_620, tk3_621, tk3_622, tk3_623, tk3_624, tk3_625, tk3_626, tk3_627, tk3_628, tk3_629, tk3_630, tk3_631, tk3_632, tk3_633] 300 100 _ _ _ _ _ (by kernel_rfl)
def tk3_634 : Memo Try.prog := ⟨_, _, _, _, _, tk3_634_ok⟩

/- 828 steps -/
theorem tk3_635_ok : Ans Try.prog 121 [a72, a73, .sl 1 [a7F, a7T, a7T, a7T, a7T, a7T, a7T, a7T, a7T, a7T, a7T, a7T, a7T, a7T, a7T, a7T, a7T, a7T, a7T, a7F, a7F, a7F, a7F, a7F, a7F]] [a71, a70, a70] (.sl 1 [a7F, a7F, a7T, a7T, a7T, a7T, a7T, a7T, a7T, a7T, a7T, a7T, a7T, a7T, a7T, a7T, a7T, a7T, a7T, a7T, a7F, a7F, a7F, a7F, a7F]) [a71, a70, a70] := evFT_ok allF extF [tk3_60, tk3_61, tk3_62, tk3_63, tk3_64, tk3_65, tk3_66, tk3_67, tk3_68, tk3_69, tk3_610, tk3_611, tk3_612, tk3_613, tk3_614, tk3_615, tk3_616, tk3_617, tk3_618, tk3_619, tk3_620, tk3_621, tk3_622, tk3_623, tk3_624, tk3_625, tk3_626, tk3_627, tk3_628, tk3_629, tk3_630, tk3_631, tk3_632, tk3_633, tk3_634] 300 100 _ _ _ _ _ (by kernel_rfl)
def tk3_635 : Memo Try.prog := ⟨_, _, _, _, _, tk3_635_ok⟩

/- 537 steps -/
theorem tk3_636_ok : Ans Try.prog 137 [.sl 1 [a7F, a7T, a7T, a7T, a7T, a7T, a7T, a7T, a7T, a7T, a7T, a7T, a7T, a7T, a7T, a7T, a7T, a7T, a7T, a7F, a7F, a7F, a7F, a7F, a7F], .sl 1 [a7F, a7F, a7T, a7T, a7T, a7T, a7T, a7T, a7T, a7T, a7T, a7T, a7T, a7T, a7T, a7T, a7T, a7T, a7T, a7T, a7F, a7F, a7F, a7F, a7F]] [a71, a70, a70] (.sl 1 [a7F, a7T, a7T, a7T, a7T, a7T, a7T, a7T, a7T, a7T, a7T, a7T, a7T, a7T, a7T, a7T, a7T, a7T, a7T, a7T, a7F, a7F, a7F, a7F, a7F]) [a71, a70, a70] := evFT_ok allF extF [tk3_60, tk3_61, tk3_62, tk3_63, tk3_64, tk3_65, tk3_66, tk3_67, tk3_68, tk3_69, tk3_610, tk3_611, tk3_612, tk3_613, tk3_614, tk3_615, tk3_616, tk3_617, tk3_618, tk3_619, tk3_620, tk3_621, tk3_622, tk3_623, tk3_624, tk3_625, tk3_626, tk3_627, tk3_628, tk3_629, tk3_630, tk3_631, tk3_632, tk3_633, tk3_634, tk3_635] 300 100 _ _ _ _ _ (by kernel_rfl)
def tk3_636 : Memo Try.prog := ⟨_, _, _, _, _, tk3_636_ok⟩

/- 849 steps -/
theorem tk3_637_ok : Ans Try.prog 121 [a72, a73, .sl 1 [a7F, a7T, a7T, a7T, a7T, a7T, a7T, a7T, a7T, a7T, a7T, a7T, a7T, a7T, a7T, a7T, a7T, a7T, a7T, a7T, a7F, a7F, a7F, a7F, a7F]] [a71, a70, a70] (.sl 1 [a7F, a7F, a7T, a7T, a7T, a7T, a7T, a7T, a7T, a7T, a7T, a7T, a7T, a7T, a7T, a7T, a7T, a7T, a7T, a7T, a7T, a7F, a7F, a7F, a7F]) [a71, a70, a70] := evFT_ok allF extF [tk3_60, tk3_61, tk3_62, tk3_63, tk3_64, tk3_65, tk3_66, tk3_67, tk3_68, tk3_69, tk3_610, tk3_611, tk3_612, tk3_613, tk3_614, tk3_615, tk3_616, tk3_617, tk3_618, tk3_619, tk3_620, tk3_621, tk3_622, tk3_623, tk3_624, tk3_625, tk3_626, tk3_627, tk3_628, tk3_629, tk3_630, tk3_631, tk3_632, tk3_633, tk3_634, tk3_635, tk3_636] 300 100 _ _ _ _ _ (by kernel_rfl)
def tk3_637 : Memo Try.prog := ⟨_, _, _, _, _, tk3_637_ok⟩

/- 537 steps -/
theorem tk3_638_ok : Ans Try.prog 137 [.sl 1 [a7F, a7T, a7T, a7T, a7T, a7T, a7T, a7T, a7T, a7T, a7T, a7T, a7T, a7T, a7T, a7T, a7T, a7T, a7T, a7T, a7F, a7F, a7F, a7F, a7F], .sl 1 [a7F, a7F, a7T, a7T, a7T, a7T, a7T, a7T, a7T, a7T, a7T, a7T, a7T, a7T, a7T, a7T, a7T, a7T, a7T, a7T, a7T, a7F, a7F, a7F, a7F]] [a71, a70, a70] (.sl 1 [a7F, a7T, a7T, a7T, a7T, a7T, a7T, a7T, a7T, a7T, a7T, a7T, a7T, a7T, a7T, a7T, a7T, a7T, a7T, a7T, a7T, a7F, a7F, a7F, a7F]) [a71, a70, a70] := evFT_ok allF extF [tk3_60, tk3_61, tk3_62, tk3_63, tk3_64, tk3_65, tk3_66, tk3_67, tk3_68, tk3_69, tk3_610, tk3_611, tk3_612, tk3_613, tk3_614, tk3_615, tk3_616, tk3_617, tk3_618, tk3_619, tk3_620, tk3_621, tk3_622, tk3_623, tk3_624, tk3_625, tk3_626, tk3_627, tk3_628, tk3_629, tk3_630, tk3_631, tk3_632, tk3_633, tk3_634, tk3_635, tk3_636, tk3_637] 300 100 _ _ _ _ _ (by kernel_rfl)
def tk3_638 : Memo Try.prog := ⟨_, _, _, _, _, tk3_638_ok⟩

/- 870 steps -/
theorem tk3_639_ok : Ans Try.prog 121 [a72, a73, .sl 1 [a7F, a7T, a7T, a7T, a7T, a7T, a7T, a7T, a7T, a7T, a7T, a7T, a7T, a7T, a7T, a7T, a7T, a7T, a7T, a7T, a7T, a7F, a7F, a7F, a7F]] [a71, a70, a70] (.sl 1 [a7F, a7F, a7T, a7T, a7T, a7T, a7T, a7T, a7T, a7T, a7T, a7T, a7T, a7T, a7T, a7T, a7T, a7T, a7T, a7T, a7T, a7T, a7F, a7F, a7F]) [a71, a70, a70] := evFT_ok allF extF [tk3_60, tk3_61, tk3_62, tk3_63, tk3_64, tk3_65, tk3_66, tk3_67, tk3_68, tk3_69, tk3_610, tk3_611, tk3_612, tk3_613, tk3_614, tk3_615, tk3_616, tk3_617, tk3_618, tk3_619, tk3_620, tk3_621, tk3_622, tk3_623, tk3_624, tk3_625, tk3_626, tk3_627, tk3_628, tk3_629, tk3_630, tk3_631, tk3_632, tk3_633, tk3_634, tk3_635, tk3_636, tk3_637, tk3_638] 300 100 _ _ _ _ _ (by kernel_rfl)
def tk3_639 : Memo Try.prog := ⟨_, _, _, _, _, tk3_639_ok⟩

/- 537 steps -/
theorem tk3_640_ok : Ans Try.prog 137 [.sl 1 [a7F, a7T, a7T, a7T, a7T, a7T, a7T, a7T, a7T, a7T, a7T, a7T, a7T, a7T, a7T, a7T, a7T, a7T, a7T, a7T, a7T, a7F, a7F, a7F, a7F], .sl 1 [a7F, a7F, a7T, a7T, a7T, a7T, a7T, a7T, a7T, a7T, a7T, a7T, a7T, a7T, a7T, a7T, a7T, a7T, a7T, a7T, a7T, a7T, a7F, a7F, a7F]] [a71, a70, a70] (.sl 1 [a7F, a7T, a7T, a7T, a7T, a7T, a7T, a7T, a7T, a7T, a7T, a7T, a7T, a7T, a7T, a7T, a7T, a7T, a7T, a7T, a7T, a7T, a7F, a7F, a7F]) [a71, a70, a70] := evFT_ok allF extF [tk3_60, tk3_61, tk3_62, tk3_63, tk3_64, tk3_65, tk3_66, tk3_67, tk3_68, tk3_69, tk3_610, tk3_611, tk3_612, tk3_613, tk3_614, tk3_615, tk3_616, tk3_617, tk3_618, tk3_619, tk3_620, tk3_621, tk3_622, tk3_623, tk3_624, tk3_625, tk3_626, tk3_627, tk3_628, tk3_629, tk3_630, tk3_631, tk3_632, tk3_633, tk3_634, tk3_635, tk3_636, tk3_637, tk3_638, tk3_639] 300 100 _ _ _ _ _ (by kernel_rfl)
def tk3_640 : Memo Try.prog := ⟨_, _, _, _, _, tk3_640_ok⟩

/- 891 steps -/
theorem tk3_641_ok : Ans Try.prog 121 [a72, a73, .sl 1 [a7F, a7T, a7T, a7T, a7T, a7T, a7T, a7T, a7T, a7T, a7T, a7T, a7T, a7T, a7T, a7T, a7T, a7T, a7T, a7T, a7T, a7T, a7F, a7F, a7F]] [a71, a70, a70] (.sl 1 [a7F, a7F, a7T, a7T, a7T, a7T, a7T, a7T, a7T, a7T, a7T, a7T, a7T, a7T, a7T, a7T, a7T, a7T, a7T, a7T, a7T, a7T, a7T, a7F, a7F]) [a71, a70, a70] := evFT_ok allF extF [tk3_60, tk3_61, tk3_62, tk3_63, tk3_64, tk3_65, tk3_66, tk3_67, tk3_68, tk3_69, tk3_610, tk3_611, tk3_612, tk3_613, tk3_614, tk3_615, tk3_616, tk3_617, tk3_618, tk3_619, tk3_620, tk3_621, tk3_622, tk3_623, tk3_624, tk3_625, tk3_626, tk3_627, tk3_628, tk3_629, tk3_630, tk3_631, tk3_632, tk3_633, tk3_634, tk3_635, tk3_636, tk3_637, tk3_638, tk3_639, tk3_640] 300 100 _ _ _ _ _ (by kernel_rfl)
def tk3_641 : Memo Try.prog := ⟨_, _, _, _, _, tk3_641_ok⟩

/- 537 steps -/
theorem tk3_642_ok : Ans Try.prog 137 [.sl 1 [a7F, a7T, a7T, a7T, a7T, a7T, a7T, a7T, a7T, a7T, a7T, a7T, a7T, a7T, a7T, a7T, a7T, a7T, a7T, a7T, a7T, a7T, a7F, a7F, a7F], .sl 1 [a7F, a7F, a7T, a7T, a7T, a7T, a7T, a7T, a7T, a7T, a7T, a7T, a7T, a7T, a7T, a7T, a7T, a7T, a7T, a7T, a7T, a7T, a7T, a7F, a7F]] [a71, a70, a70] (.sl 1 [a7F, a7T, a7T, a7T, a7T, a7T, a7T, a7T, a7T, a7T, a7T, a7T, a7T, a7T, a7T, a7T, a7T, a7T, a7T, a7T, a7T, a7T, a7T, a7F, a7F]) [a71, a70, a70] := evFT_ok allF extF [tk3_60, tk3_61, tk3_62, tk3_63, tk3_64, tk3_65, tk3_66, tk3_67, tk3_68, tk3_69, tk3_610, tk3_611, tk3_612, tk3_613, tk3_614, tk3_615, tk3_616, tk3_617, tk3_618, tk3_619, tk3_620, tk3_621, tk3_622, tk3_623, tk3_624, tk3_625, tk3_626, tk3_627, tk3_628, tk3_629, tk3_630, tk3_631, tk3_632, tk3_633, tk3_634, tk3_635, tk3_636, tk3_637, tk3_638, tk3_639, tk3_640, tk3_641] 300 100 _ _ _ _ _ (by kernel_rfl)
def tk3_642 : Memo Try.prog := ⟨_, _, _, _, _, tk3_642_ok⟩

/- 912 steps -/
theorem tk3_643_ok : Ans Try.prog 121 [a72, a73, .sl 1 [a7F, a7T, a7T, a7T, a7T, a7T, a7T, a7T, a7T, a7T, a7T, a7T, a7T, a7T, a7T, a7T, a7T, a7T, a7T, a7T, a7T, a7T, a7T, a7F, a7F]] [a71, a70, a70] (.sl 1 [a7F, a7F, a7T, a7T, a7T, a7T, a7T, a7T, a7T, a7T, a7T, a7T, a7T, a7T, a7T, a7T, a7T, a7T, a7T, a7T, a7T, a7T, a7T, a7T, a7F]) [a71, a70, a70] := evFT_ok allF extF [tk3_60, tk3_61, tk3_62, tk3_63, tk3_64, tk3_65, tk3_66, tk3_67, tk3_68, tk3_69, tk3_610, tk3_611, tk3_612, tk3_613, tk3_614, tk3_615, tk3_616, tk3_617, tk3_618, tk3_619, tk3_620, tk3_621, tk3_622, tk3_623, tk3_624, tk3_625, tk3_626, tk3_627, tk3_628, tk3_629, tk3_630, tk3_631, tk3_632, tk3_633, tk3_634, tk3_635, tk3_636, tk3_637, tk3_638, tk3_639, tk3_640, tk3_641, tk3_642] 300 100 _ _ _ _ _ (by kernel_rfl)
def tk3_643 : Memo Try.prog := ⟨_, _, _, _, _, tk3_643_ok⟩

/- 537 steps -/
theorem tk3_644_ok : Ans Try.prog 137 [.sl 1 [a7F, a7T, a7T, a7T, a7T, a7T, a7T, a7T, a7T, a7T, a7T, a7T, a7T, a7T, a7T, a7T, a7T, a7T, a7T, a7T, a7T, a7T, a7T, a7F, a7F], .sl 1 [a7F, a7F, a7T, a7T, a7T, a7T, a7T, a7T, a7T, a7T, a7T, a7T, a7T, a7T, a7T, a7T, a7T, a7T, a7T, a7T, a7T, a7T, a7T, a7T, a7F]] [a71, a70, a70] (.sl 1 [a7F, a7T, a7T, a7T, a7T, a7T, a7T, a7T, a7T, a7T, a7T, a7T, a7T, a7T, a7T, a7T, a7T, a7T, a7T, a7T, a7T, a7T, a7T, a7T, a7F]) [a71, a70, a70] := evFT_ok allF extF [tk3_60, tk3_61, tk3_62, tk3_63, tk3_64, tk3_65, tk3_66, tk3_67, tk3_68, tk3_69, tk3_610, tk3_611, tk3_612, tk3_613, tk3_614, tk3_615, tk3_616, tk3_617, tk3_618, tk3_619, tk3_620, tk3_621, tk3_622, tk3_623, tk3_624, tk3_625, tk3_626, tk3_627, tk3_628, tk3_629, tk3_630, tk3_631, tk3_632, tk3_633, tk3_634, tk3_635, tk3_636, tk3_637, tk3_638, tk3_639, tk3_640, tk3_641, tk3_642, tk3_643] 300 100 _ _ _ _ _ (by kernel_rfl)
def tk3_644 : Memo Try.prog := ⟨_, _, _, _, _, tk3_644_ok⟩

/- 933 steps -/
theorem tk3_645_ok : Ans Try.prog 121 [a72, a73, .sl 1 [a7F, a7T, a7T, a7T, a7T, a7T, a7T, a7T, a7T, a7T, a7T, a7T, a7T, a7T, a7T, a7T, a7T, a7T, a7T, a7T, a7T, a7T, a7T, a7T, a7F]] [a71, a70, a70] (a76) [a71, a70, a70] := evFT_ok allF extF [tk3_60, tk3_61, tk3_62, tk3_63, tk3_64, tk3_65, tk3_66, tk3_67, tk3_68, tk3_69, tk3_610, tk3_611, tk3_612, tk3_613, tk3_614, tk3_615, tk3_616, tk3_617, tk3_618, tk3_619, tk3_620, tk3_621, tk3_622, tk3_623, tk3_624, tk3_625, tk3_626, tk3_627, tk3_628, tk3_629, tk3_630, tk3_631, tk3_632, tk3_633, tk3_634, tk3_635, tk3_636, tk3_637, tk3_638, tk3_639, tk3_640, tk3_641, tk3_642, tk3_643, tk3_644] 300 100 _ _ _ _ _ (by kernel_rfl)
def tk3_645 : Memo Try.prog := ⟨_, _, _, _, _, tk3_645_ok⟩

/- 537 steps -/
theorem tk3_646_ok : Ans Try.prog 137 [.sl 1 [a7F, a7T, a7T, a7T, a7T, a7T, a7T, a7T, a7T, a7T, a7T, a7T, a7T, a7T, a7T, a7T, a7T, a7T, a7T, a7T, a7T, a7T, a7T, a7T, a7F], a76] [a71, a70, a70] (a74) [a71, a70, a70] := evFT_ok allF extF [tk3_60, tk3_61, tk3_62, tk3_63, tk3_64, tk3_65, tk3_66, tk3_67, tk3_68, tk3_69, tk3_610, tk3_611, tk3_612, tk3_613, tk3_614, tk3_615, tk3_616, tk3_617, tk3_618, tk3_619, tk3_620, tk3_621, tk3_622, tk3_623, tk3_624, tk3_625, tk3_626, tk3_627, tk3_628, tk3_629, tk3_630, tk3_631, tk3_632, tk3_633, tk3_634, tk3_635, tk3_636, tk3_637, tk3_638, tk3_639, tk3_640, tk3_641, tk3_642, tk3_643, tk3_644, tk3_645] 300 100 _ _ _ _ _ (by kernel_rfl)
def tk3_646 : Memo Try.prog := ⟨_, _, _, _, _, tk3_646_ok⟩

/- 400 steps -/
theorem tk3_647_ok : Ans Try.prog 138 [a74, .sl 1 [a7F, a7T, a7T, a7T, a7T, a7T, a7T, a7T, a7T, a7T, a7T, a7T, a7T, a7T, a7T, a7T, a7T, a7T, a7T, a7T, a7T, a7T, a7T, a7T, a7F]] [a71, a70, a70] (a7F) [a71, a70, a70] := evFT_ok allF extF [tk3_60, tk3_61, tk3_62, tk3_63, tk3_64, tk3_65, tk3_66, tk3_67, tk3_68, tk3_69, tk3_610, tk3_611, tk3_612, tk3_613, tk3_614, tk3_615, tk3_616, tk3_617, tk3_618, tk3_619, tk3_620, tk3_621, tk3_622, tk3_623, tk3_624, tk3_625, tk3_626, tk3_627, tk3_628, tk3_629, tk3_630, tk3_631, tk3_632, tk3_633, tk3_634, tk3_635, tk3_636, tk3_637, tk3_638, tk3_639, tk3_640, tk3_641, tk3_642, tk3_643, tk3_644, tk3_645, tk3_646] 300 100 _ _ _ _ _ (by kernel_rfl)
def tk3_647 : Memo Try.prog := ⟨_, _, _, _, _, tk3_647_ok⟩

/- 933 steps -/
theorem tk3_648_ok : Ans Try.prog 121 [a72, a73, a74] [a71, a70, a70] (a76) [a71, a70, a70] := evFT_ok allF extF [tk3_60, tk3_61, tk3_62, tk3_63, tk3_64, tk3_65, tk3_66, tk3_67, tk3_68, tk3_69, tk3_610, tk3_611, tk3_612, tk3_613, tk3_614, tk3_615, tk3_616, tk3_617, tk3_618, tk3_619, tk3_620, tk3_621, tk3_622, tk3_623, tk3_624, tk3_625, tk3_626, tk3_627, tk3_628, tk3_629, tk3_630, tk3_631, tk3_632, tk3_633, tk3_634, tk3_635, tk3_636, tk3_637, tk3_638, tk3_639, tk3_640, tk3_641, tk3_642, tk3_643, tk3_644, tk3_645, tk3_646, tk3_647] 300 100 _ _ _ _ _ (by kernel_rfl)
def tk3_648 : Memo Try.prog := ⟨_, _, _, _, _, tk3_648_ok⟩

/- 537 steps -/
theorem tk3_649_ok : Ans Try.prog 137 [a74, a76] [a71, a70, a70] (a74) [a71, a70, a70] := evFT_ok allF extF [tk3_60, tk3_61, tk3_62, tk3_63, tk3_64, tk3_65, tk3_66, tk3_67, tk3_68, tk3_69, tk3_610, tk3_611, tk3_612, tk3_613, tk3_614, tk3_615, tk3_616, tk3_617, tk3_618, tk3_619, tk3_620, tk3_621, tk3_622, tk3_623, tk3_624, tk3_625, tk3_626, tk3_627, tk3_628, tk3_629, tk3_630, tk3_631, tk3_632, tk3_633, tk3_634, tk3_635, tk3_636, tk3_637, tk3_638, tk3_639, tk3_640, tk3_641, tk3_642, tk3_643, tk3_644, tk3_645, tk3_646, tk3_647, tk3_648] 300 100 _ _ _ _ _ (by kernel_rfl)
def tk3_649 : Memo Try.prog := ⟨_, _, _, _, _, tk3_649_ok⟩

/- 407 steps -/
theorem tk3_650_ok : Ans Try.prog 138 [a74, a74] [a71, a70, a70] (a7T) [a71, a70, a70] := evFT_ok allF extF [tk3_60, tk3_61, tk3_62, tk3_63, tk3_64, tk3_65, tk3_66, tk3_67, tk3_68, tk3_69, tk3_610, tk3_611, tk3_612, tk3_613, tk3_614, tk3_615, tk3_616, tk3_617, tk3_618, tk3_619, tk3_620, tk3_621, tk3_622, tk3_623, tk3_624, tk3_625, tk3_626, tk3_627, tk3_628, tk3_629, tk3_630, tk3_631, tk3_632, tk3_633, tk3_634, tk3_635, tk3_636, tk3_637, tk3_638, tk3_639, tk3_640, tk3_641, tk3_642, tk3_643, tk3_644, tk3_645, tk3_646, tk3_647, tk3_648, tk3_649] 300 100 _ _ _ _ _ (by kernel_rfl)
def tk3_650 : Memo Try.prog := ⟨_, _, _, _, _, tk3_650_ok⟩

/- 5349 steps -/
theorem tk3_651_ok : Ans Try.prog 121 [.agg [.pl (.int .i64 5), .pl (.int .u64 0), .pl (.int .u64 0), .pl (.int .u64 0), .pl (.int .u64 0), .sl 6 [a72]], a73, .osl 0 25] [a71, a70] (a74) [a71, a70] := evFT_ok allF extF [tk3_60, tk3_61, tk3_62, tk3_63, tk3_64, tk3_65, tk3_66, tk3_67, tk3_68, tk3_69, tk3_610, tk3_611, tk3_612, tk3_613, tk3_614, tk3_615, tk3_616, tk3_617, tk3_618, tk3_619, tk3_620, tk3_621, tk3_622, tk3_623, tk3_624, tk3_625, tk3_626, tk3_627, tk3_628, tk3_629, tk3_630, tk3_631, tk3_632, tk3_633, tk3_634, tk3_635, tk3_636, tk3_637, tk3_638, tk3_639, tk3_640, tk3_641, tk3_642, tk3_643, tk3_644, tk3_645, tk3_646, tk3_647, tk3_648, tk3_649, tk3_650] 300 100 _ _ _ _ _ (by kernel_rfl)
def tk3_651 : Memo Try.prog := ⟨_, _, _, _, _, tk3_651_ok⟩

/- 933 steps -/
theorem tk3_652_ok : Ans Try.prog 121 [.agg [.pl (.int .i64 1), .pl (.int .u64 18446744073709551615), .pl (.int .u64 18446744073709551615), .pl (.int .u64 18446744073709551615), .pl (.int .u64 18446744073709551615), .nils], a73, .osl 2 25] [a71, a70, a75] (a76) [a71, a70, a75] := evFT_ok allF extF [tk3_60, tk3_61, tk3_62, tk3_63, tk3_64, tk3_65, tk3_66, tk3_67, tk3_68, tk3_69, tk3_610, tk3_611, tk3_612, tk3_613, tk3_614, tk3_615, tk3_616, tk3_617, tk3_618, tk3_619, tk3_620, tk3_621, tk3_622, tk3_623, tk3_624, tk3_625, tk3_626, tk3_627, tk3_628, tk3_629, tk3_630, tk3_631, tk3_632, tk3_633, tk3_634, tk3_635, tk3_636, tk3_637, tk3_638, tk3_639, tk3_640, tk3_641, tk3_642, tk3_643, tk3_644, tk3_645, tk3_646, tk3_647, tk3_648, tk3_649, tk3_650, tk3_651] 300 100 _ _ _ _ _ (by kernel_rfl)
def tk3_652 : Memo Try.prog := ⟨_, _, _, _, _, tk3_652_ok⟩

/- 537 steps -/
theorem tk3_653_ok : Ans Try.prog 137 [.osl 2 25, a76] [a71, a70, a75] (a74) [a71, a70, a75] := evFT_ok allF extF [tk3_60, tk3_61, tk3_62, tk3_63, tk3_64, tk3_65, tk3_66, tk3_67, tk3_68, tk3_69, tk3_610, tk3_611, tk3_612, tk3_613, tk3_614, tk3_615, tk3_616, tk3_617, tk3_618, tk3_619, tk3_620, tk3_621, tk3_622, tk3_623, tk3_624, tk3_625, tk3_626, tk3_627, tk3_628, tk3_629, tk3_630, tk3_631, tk3_632, tk3_633, tk3_634, tk3_635, tk3_636, tk3_637, tk3_638, tk3_639, tk3_640, tk3_641, tk3_642, tk3_643, tk3_644, tk3_645, tk3_646, tk3_647, tk3_648, tk3_649, tk3_650, tk3_651, tk3_652] 300 100 _ _ _ _ _ (by kernel_rfl)
def tk3_653 : Memo Try.prog := ⟨_, _, _, _, _, tk3_653_ok⟩

/- 407 steps -/
theorem tk3_654_ok : Ans Try.prog 138 [a74, .osl 2 25] [a71, a70, a75] (a7T) [a71, a70, a75] := evFT_ok allF extF [tk3_60, tk3_61, tk3_62, tk3_63, tk3_64, tk3_65, tk3_66, tk3_67, tk3_68, tk3_69, tk3_610, tk3_611, tk3_612, tk3_613, tk3_614, tk3_615, tk3_616, tk3_617, tk3_618, tk3_619, tk3_620, tk3_621, tk3_622, tk3_623, tk3_624, tk3_625, tk3_626, tk3_627, tk3_628, tk3_629, tk3_630, tk3_631, tk3_632, tk3_633, tk3_634, tk3_635, tk3_636, tk3_637, tk3_638, tk3_639, tk3_640, tk3_641, tk3_642, tk3_643, tk3_644, tk3_645, tk3_646, tk3_647, tk3_648, tk3_649, tk3_650, tk3_651, tk3_652, tk3_653] 300 100 _ _ _ _ _ (by kernel_rfl)
def tk3_654 : Memo Try.prog := ⟨_, _, _, _, _, tk3_654_ok⟩

/- 703 steps -/
theorem tk3_655_ok : Ans Try.prog 99 [a77, a73, .pl (.int .i64 0)] [] (.sl 1 [.pl (.int .i64 1), .pl (.int .i64 2), .pl (.int .i64 3), .pl (.int .i64 4), .pl (.int .i64 5), .pl (.int .i64 6), .pl (.int .i64 7), .pl (.int .i64 8), .pl (.int .i64 9), .pl (.int .i64 10), .pl (.int .i64 11), .pl (.int .i64 12), .pl (.int .i64 13), .pl (.int .i64 14), .pl (.int .i64 15), .pl (.int .i64 16), .pl (.int .i64 17), .pl (.int .i64 18), .pl (.int .i64 19), .pl (.int .i64 20), .pl (.int .i64 21), .pl (.int .i64 22), .pl (.int .i64 23), .pl (.int .i64 24)]) [] := evFT_ok allF extF [tk3_60, tk3_61, tk3_62, tk3_63, tk3_64, tk3_65, tk3_66, tk3_67, tk3_68, tk3_69, tk3_610, tk3_611, tk3_612, tk3_613, tk3_614, tk3_615, tk3_616, tk3_617, tk3_618, tk3_619, tk3_620, tk3_621, tk3_622, tk3_623, tk3_624, tk3_625, tk3_626, tk3_627, tk3_628, tk3_629, tk3_630, tk3_631, tk3_632, tk3_633, tk3_634, tk3_635, tk3_636, tk3_637, tk3_638, tk3_639, tk3_640, tk3_641, tk3_642, tk3_643, tk3_644, tk3_645, tk3_646, tk3_647, tk3_648, tk3_649, tk3_650, tk3_651, tk3_652, tk3_653, tk3_654] 300 100 _ _ _ _ _ (by kernel_rfl)
def tk3_655 : Memo Try.prog := ⟨_, _, _, _, _, tk3_655_ok⟩

/- 24 steps -/
theorem tk3_6_ok : Ans Try.prog 58 [a77, a73] [] (a7T) [] := evFT_ok allF extF [tk3_60, tk3_61, tk3_62, tk3_63, tk3_64, tk3_65, tk3_66, tk3_67, tk3_68, tk3_69, tk3_610, tk3_611, tk3_612, tk3_613, tk3_614, tk3_615, tk3_616, tk3_617, tk3_618, tk3_619, tk3_620, tk3_621, tk3_622, tk3_623, tk3_624, tk3_625, tk3_626, tk3_627, tk3_628, tk3_629, tk3_630, tk3_631, tk3_632, tk3_633, tk3_634, tk3_635, tk3_636, tk3_637, tk3_638, tk3_639, tk3_640, tk3_641, tk3_642, tk3_643, tk3_644, tk3_645, tk3_646, tk3_647, tk3_648, tk3_649, tk3_650, tk3_651, tk3_652, tk3_653, tk3_654, tk3_655] 300 100 _ _ _ _ _ (by kernel_rfl)
def tk3_6_m : Memo Try.prog := ⟨_, _, _, _, _, tk3_6_ok⟩



end Go.Proofs.Ytoadgajhkhejiaa
