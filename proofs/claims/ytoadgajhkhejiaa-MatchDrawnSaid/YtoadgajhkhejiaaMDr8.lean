/- Closed runs, call by call: the kernel reckons them. No condition. -/
import Derived.Test.YtoadgajhkhejiaaMRun
import Derived.Test.YtoadgajhkhejiaaAbTree
namespace Go.Proofs.Ytoadgajhkhejiaa
open Go Go.Ab
abbrev a8T : AV := .pl (.bool true)
abbrev a8F : AV := .pl (.bool false)
abbrev a80 : Ob := .row 1 [a8T, a8F, a8F, a8F, a8F, a8F, a8F, a8F, a8F, a8F, a8F, a8F, a8F, a8F, a8F, a8F, a8F, a8F, a8F, a8F, a8F, a8F, a8F, a8F, a8F]
abbrev a81 : Ob := .row 1 [a8F, a8F, a8F, a8F, a8F, a8F, a8F, a8F, a8F, a8F, a8F, a8F, a8F, a8F, a8F, a8F, a8F, a8F, a8F, a8F, a8F, a8F, a8F, a8F, a8F]
abbrev a82 : AV := .agg [.pl (.int .i64 1), .pl (.int .u64 18446744073709551615), .pl (.int .u64 18446744073709551615), .pl (.int .u64 18446744073709551615), .pl (.int .u64 18446744073709551615), .nils]
abbrev a83 : AV := .pl (.string ⟨#[97, 98, 97, 98, 97, 98, 97, 98, 97, 98, 97, 98, 97, 98, 97, 98, 97, 98, 97, 98, 97, 98, 97, 98]⟩)
abbrev a84 : AV := .sl 1 [a8F, a8T, a8T, a8T, a8T, a8T, a8T, a8T, a8T, a8T, a8T, a8T, a8T, a8T, a8T, a8T, a8T, a8T, a8T, a8T, a8T, a8T, a8T, a8T, a8T]
/- 471 steps -/
theorem tk4_60_ok : Ans Try.prog 121 [a82, a83, .osl 0 25] [a80, a81] (.sl 1 [a8F, a8T, a8F, a8F, a8F, a8F, a8F, a8F, a8F, a8F, a8F, a8F, a8F, a8F, a8F, a8F, a8F, a8F, a8F, a8F, a8F, a8F, a8F, a8F, a8F]) [a80, a81] := evFT_ok allF extF [] 300 100 _ _ _ _ _ (by kernel_rfl)
def tk4_60 : Memo Try.prog := ⟨_, _, _, _, _, tk4_60_ok⟩

/- 471 steps -/
theorem tk4_61_ok : Ans Try.prog 121 [a82, a83, .sl 1 [a8F, a8T, a8F, a8F, a8F, a8F, a8F, a8F, a8F, a8F, a8F, a8F, a8F, a8F, a8F, a8F, a8F, a8F, a8F, a8F, a8F, a8F, a8F, a8F, a8F]] [a80, a81] (.sl 1 [a8F, a8F, a8T, a8F, a8F, a8F, a8F, a8F, a8F, a8F, a8F, a8F, a8F, a8F, a8F, a8F, a8F, a8F, a8F, a8F, a8F, a8F, a8F, a8F, a8F]) [a80, a81] := evFT_ok allF extF [tk4_60] 300 100 _ _ _ _ _ (by kernel_rfl)
def tk4_61 : Memo Try.prog := ⟨_, _, _, _, _, tk4_61_ok⟩

/- 537 steps -/
theorem tk4_62_ok : Ans Try.prog 137 [.sl 1 [a8F, a8T, a8F, a8F, a8F, a8F, a8F, a8F, a8F, a8F, a8F, a8F, a8F, a8F, a8F, a8F, a8F, a8F, a8F, a8F, a8F, a8F, a8F, a8F, a8F], .sl 1 [a8F, a8F, a8T, a8F, a8F, a8F, a8F, a8F, a8F, a8F, a8F, a8F, a8F, a8F, a8F, a8F, a8F, a8F, a8F, a8F, a8F, a8F, a8F, a8F, a8F]] [a80, a81] (.sl 1 [a8F, a8T, a8T, a8F, a8F, a8F, a8F, a8F, a8F, a8F, a8F, a8F, a8F, a8F, a8F, a8F, a8F, a8F, a8F, a8F, a8F, a8F, a8F, a8F, a8F]) [a80, a81] := evFT_ok allF extF [tk4_60, tk4_61] 300 100 _ _ _ _ _ (by kernel_rfl)
def tk4_62 : Memo Try.prog := ⟨_, _, _, _, _, tk4_62_ok⟩

/- 492 steps -/
theorem tk4_63_ok : Ans Try.prog 121 [a82, a83, .sl 1 [a8F, a8T, a8T, a8F, a8F, a8F, a8F, a8F, a8F, a8F, a8F, a8F, a8F, a8F, a8F, a8F, a8F, a8F, a8F, a8F, a8F, a8F, a8F, a8F, a8F]] [a80, a81] (.sl 1 [a8F, a8F, a8T, a8T, a8F, a8F, a8F, a8F, a8F, a8F, a8F, a8F, a8F, a8F, a8F, a8F, a8F, a8F, a8F, a8F, a8F, a8F, a8F, a8F, a8F]) [a80, a81] := evFT_ok allF extF [tk4_60, tk4_61, tk4_62] 300 100 _ _ _ _ _ (by kernel_rfl)
def tk4_63 : Memo Try.prog := ⟨_, _, _, _, _, tk4_63_ok⟩

/- 537 steps -/
theorem tk4_64_ok : Ans Try.prog 137 [.sl 1 [a8F, a8T, a8T, a8F, a8F, a8F, a8F, a8F, a8F, a8F, a8F, a8F, a8F, a8F, a8F, a8F, a8F, a8F, a8F, a8F, a8F, a8F, a8F, a8F, a8F], .sl 1 [a8F, a8F, a8T, a8T, a8F, a8F, a8F, a8F, a8F, a8F, a8F, a8F, a8F, a8F, a8F, a8F, a8F, a8F, a8F, a8F, a8F, a8F, a8F, a8F, a8F]] [a80, a81] (.sl 1 [a8F, a8T, a8T, a8T, a8F, a8F, a8F, a8F, a8F, a8F, a8F, a8F, a8F, a8F, a8F, a8F, a8F, a8F, a8F, a8F, a8F, a8F, a8F, a8F, a8F]) [a80, a81] := evFT_ok allF extF [tk4_60, tk4_61, tk4_62, tk4_63] 300 100 _ _ _ _ _ (by kernel_rfl)
def tk4_64 : Memo Try.prog := ⟨_, _, _, _, _, tk4_64_ok⟩

/- 513 steps -/
theorem tk4_65_ok : Ans Try.prog 121 [a82, a83, .sl 1 [a8F, a8T, a8T, a8T, a8F, a8F, a8F, a8F, a8F, a8F, a8F, a8F, a8F, a8F, a8F, a8F, a8F, a8F, a8F, a8F, a8F, a8F, a8F, a8F, a8F]] [a80, a81] (.sl 1 [a8F, a8F, a8T, a8T, a8T, a8F, a8F, a8F, a8F, a8F, a8F, a8F, a8F, a8F, a8F, a8F, a8F, a8F, a8F, a8F, a8F, a8F, a8F, a8F, a8F]) [a80, a81] := evFT_ok allF extF [tk4_60, tk4_61, tk4_62, tk4_63, tk4_64] 300 100 _ _ _ _ _ (by kernel_rfl)
def tk4_65 : Memo Try.prog := ⟨_, _, _, _, _, tk4_65_ok⟩

/- 537 steps -/
theorem tk4_66_ok : Ans Try.prog 137 [.sl 1 [a8F, a8T, a8T, a8T, a8F, a8F, a8F, a8F, a8F, a8F, a8F, a8F, a8F, a8F, a8F, a8F, a8F, a8F, a8F, a8F, a8F, a8F, a8F, a8F, a8F], .sl 1 [a8F, a8F, a8T, a8T, a8T, a8F, a8F, a8F, a8F, a8F, a8F, a8F, a8F, a8F, a8F, a8F, a8F, a8F, a8F, a8F, a8F, a8F, a8F, a8F, a8F]] [a80, a81] (.sl 1 [a8F, a8T, a8T, a8T, a8T, a8F, a8F, a8F, a8F, a8F, a8F, a8F, a8F, a8F, a8F, a8F, a8F, a8F, a8F, a8F, a8F, a8F, a8F, a8F, a8F]) [a80, a81] := evFT_ok allF extF [tk4_60, tk4_61, tk4_62, tk4_63, tk4_64, tk4_65] 300 100 _ _ _ _ _ (by kernel_rfl)
def tk4_66 : Memo Try.prog := ⟨_, _, _, _, _, tk4_66_ok⟩

/- 534 steps -/
theorem tk4_67_ok : Ans Try.prog 121 [a82, a83, .sl 1 [a8F, a8T, a8T, a8T, a8T, a8F, a8F, a8F, a8F, a8F, a8F, a8F, a8F, a8F, a8F, a8F, a8F, a8F, a8F, a8F, a8F, a8F, a8F, a8F, a8F]] [a80, a81] (.sl 1 [a8F, a8F, a8T, a8T, a8T, a8T, a8F, a8F, a8F, a8F, a8F, a8F, a8F, a8F, a8F, a8F, a8F, a8F, a8F, a8F, a8F, a8F, a8F, a8F, a8F]) [a80, a81] := evFT_ok allF extF [tk4_60, tk4_61, tk4_62, tk4_63, tk4_64, tk4_65, tk4_66] 300 100 _ _ _ _ _ (by kernel_rfl)
def tk4_67 : Memo Try.prog := ⟨_, _, _, _, _, tk4_67_ok⟩

/- 537 steps -/
theorem tk4_68_ok : Ans Try.prog 137 [.sl 1 [a8F, a8T, a8T, a8T, a8T, a8F, a8F, a8F, a8F, a8F, a8F, a8F, a8F, a8F, a8F, a8F, a8F, a8F, a8F, a8F, a8F, a8F, a8F, a8F, a8F], .sl 1 [a8F, a8F, a8T, a8T, a8T, a8T, a8F, a8F, a8F, a8F, a8F, a8F, a8F, a8F, a8F, a8F, a8F, a8F, a8F, a8F, a8F, a8F, a8F, a8F, a8F]] [a80, a81] (.sl 1 [a8F, a8T, a8T, a8T, a8T, a8T, a8F, a8F, a8F, a8F, a8F, a8F, a8F, a8F, a8F, a8F, a8F, a8F, a8F, a8F, a8F, a8F, a8F, a8F, a8F]) [a80, a81] := evFT_ok allF extF [tk4_60, tk4_61, tk4_62, tk4_63, tk4_64, tk4_65, tk4_66, tk4_67] 300 100 _ _ _ _ _ (by kernel_rfl)
def tk4_68 : Memo Try.prog := ⟨_, _, _, _, _, tk4_68_ok⟩

/- 555 steps -/
theorem tk4_69_ok : Ans Try.prog 121 [a82, a83, .sl 1 [a8F, a8T, a8T, a8T, a8T, a8T, a8F, a8F, a8F, a8F, a8F, a8F, a8F, a8F, a8F, a8F, a8F, a8F, a8F, a8F, a8F, a8F, a8F, a8F, a8F]] [a80, a81] (.sl 1 [a8F, a8F, a8T, a8T, a8T, a8T, a8T, a8F, a8F, a8F, a8F, a8F, a8F, a8F, a8F, a8F, a8F, a8F, a8F, a8F, a8F, a8F, a8F, a8F, a8F]) [a80, a81] := evFT_ok allF extF [tk4_60, tk4_61, tk4_62, tk4_63, tk4_64, tk4_65, tk4_66, tk4_67, tk4_68] 300 100 _ _ _ _ _ (by kernel_rfl)
def tk4_69 : Memo Try.prog := ⟨_, _, _, _, _, tk4_69_ok⟩

/- 537 steps -/
theorem tk4_610_ok : Ans Try.prog 137 [.sl 1 [a8F, a8T, a8T, a8T, a8T, a8T, a8F, a8F, a8F, a8F, a8F, a8F, a8F, a8F, a8F, a8F, a8F, a8F, a8F, a8F, a8F, a8F, a8F, a8F, a8F], .sl 1 [a8F, a8F, a8T, a8T, a8T, a8T, a8T, a8F, a8F, a8F, a8F, a8F, a8F, a8F, a8F, a8F, a8F, a8F, a8F, a8F, a8F, a8F, a8F, a8F, a8F]] [a80, a81] (.sl 1 [a8F, a8T, a8T, a8T, a8T, a8T, a8T, a8F, a8F, a8F, a8F, a8F, a8F, a8F, a8F, a8F, a8F, a8F, a8F, a8F, a8F, a8F, a8F, a8F, a8F]) [a80, a81] := evFT_ok allF extF [tk4_60, tk4_61, tk4_62, tk4_63, tk4_64, tk4_65, tk4_66, tk4_67, tk4_68, tk4_69] 300 100 _ _ _ _ _ (by kernel_rfl)
def tk4_610 : Memo Try.prog := ⟨_, _, _, _, _, tk4_610_ok⟩

/- 576 steps -/
theorem tk4_611_ok : Ans Try.prog 121 [a82, a83, .sl 1 [a8F, a8T, a8T, a8T, a8T, a8T, a8T, a8F, a8F, a8F, a8F, a8F, a8F, a8F, a8F, a8F, a8F, a8F, a8F, a8F, a8F, a8F, a8F, a8F, a8F]] [a80, a81] (.sl 1 [a8F, a8F, a8T, a8T, a8T, a8T, a8T, a8T, a8F, a8F, a8F, a8F, a8F, a8F, a8F, a8F, a8F, a8F, a8F, a8F, a8F, a8F, a8F, a8F, a8F]) [a80, a81] := evFT_ok allF extF [tk4_60, tk4_61, tk4_62, tk4_63, tk4_64, tk4_65, tk4_66, tk4_67, tk4_68, tk4_69, tk4_610] 300 100 _ _ _ _ _ (by kernel_rfl)
def tk4_611 : Memo Try.prog := ⟨_, _, _, _, _, tk4_611_ok⟩

/- 537 steps -/
theorem tk4_612_ok : Ans Try.prog 137 [.sl 1 [a8F, a8T, a8T, a8T, a8T, a8T, a8T, a8F, a8F, a8F, a8F, a8F, a8F, a8F, a8F, a8F, a8F, a8F, a8F, a8F, a8F, a8F, a8F, a8F, a8F], .sl 1 [a8F, a8F, a8T, a8T, a8T, a8T, a8T, a8T, a8F, a8F, a8F, a8F, a8F, a8F, a8F, a8F, a8F, a8F, a8F, a8F, a8F, a8F, a8F, a8F, a8F]] [a80, a81] (.sl 1 [a8F, a8T, a8T, a8T, a8T, a8T, a8T, a8T, a8F, a8F, a8F, a8F, a8F, a8F, a8F, a8F, a8F, a8F, a8F, a8F, a8F, a8F, a8F, a8F, a8F]) [a80, a81] := evFT_ok allF extF [tk4_60, tk4_61, tk4_62, tk4_63, tk4_64, tk4_65, tk4_66, tk4_67, tk4_68, tk4_69, tk4_610, tk4_611] 300 100 _ _ _ _ _ (by kernel_rfl)
def tk4_612 : Memo Try.prog := ⟨_, _, _, _, _, tk4_612_ok⟩

/- 597 steps -/
theorem tk4_613_ok : Ans Try.prog 121 [a82, a83, .sl 1 [a8F, a8T, a8T, a8T, a8T, a8T, a8T, a8T, a8F, a8F, a8F, a8F, a8F, a8F, a8F, a8F, a8F, a8F, a8F, a8F, a8F, a8F, a8F, a8F, a8F]] [a80, a81] (.sl 1 [a8F, a8F, a8T, a8T, a8T, a8T, a8T, a8T, a8T, a8F, a8F, a8F, a8F, a8F, a8F, a8F, a8F, a8F, a8F, a8F, a8F, a8F, a8F, a8F, a8F]) [a80, a81] := evFT_ok allF extF [tk4_60, tk4_61, tk4_62, tk4_63, tk4_64, tk4_65, tk4_66, tk4_67, tk4_68, tk4_69, tk4_610, tk4_611, tk4_612] 300 100 _ _ _ _ _ (by kernel_rfl)
def tk4_613 : Memo Try.prog := ⟨_, _, _, _, _, tk4_613_ok⟩

/- 537 steps -/
theorem tk4_614_ok : Ans Try.prog 137 [.sl 1 [a8F, a8T, a8T, a8T, a8T, a8T, a8T, a8T, a8F, a8F, a8F, a8F, a8F, a8F, a8F, a8F, a8F, a8F, a8F, a8F, a8F, a8F, a8F, a8F, a8F], .sl 1 [a8F, a8F, a8T, a8T, a8T, a8T, a8T, a8T, a8T, a8F, a8F, a8F, a8F, a8F, a8F, a8F, a8F, a8F, a8F, a8F, a8F, a8F, a8F, a8F, a8F]] [a80, a81] (.sl 1 [a8F, a8T, a8T, a8T, a8T, a8T, a8T, a8T, a8T, a8F, a8F, a8F, a8F, a8F, a8F, a8F, a8F, a8F, a8F, a8F, a8F, a8F, a8F, a8F, a8F]) [a80, a81] := evFT_ok allF extF [tk4_60, tk4_61, tk4_62, tk4_63, tk4_64, tk4_65, tk4_66, tk4_67, tk4_68, tk4_69, tk4_610, tk4_611, tk4_612, tk4_613] 300 100 _ _ _ _ _ (by kernel_rfl)
def tk4_614 : Memo Try.prog := ⟨_, _, _, _, _, tk4_614_ok⟩

/- 618 steps -/
theorem tk4_615_ok : Ans Try.prog 121 [a82, a83, .sl 1 [a8F, a8T, a8T, a8T, a8T, a8T, a8T, a8T, a8T, a8F, a8F, a8F, a8F, a8F, a8F, a8F, a8F, a8F, a8F, a8F, a8F, a8F, a8F, a8F, a8F]] [a80, a81] (.sl 1 [a8F, a8F, a8T, a8T, a8T, a8T, a8T, a8T, a8T, a8T, a8F, a8F, a8F, a8F, a8F, a8F, a8F, a8F, a8F, a8F, a8F, a8F, a8F, a8F, a8F]) [a80, a81] := evFT_ok allF extF [tk4_60, tk4_61, tk4_62, tk4_63, tk4_64, tk4_65, tk4_66, tk4_67, tk4_68, tk4_69, tk4_610, tk4_611, tk4_612, tk4_613, tk4_614] 300 100 _ _ _ _ _ (by kernel_rfl)
def tk4_615 : Memo Try.prog := ⟨_, _, _, _, _, tk4_615_ok⟩

/- 537 steps -/
theorem tk4_616_ok : Ans Try.prog 137 [.sl 1 [a8F, a8T, a8T, a8T, a8T, a8T, a8T, a8T, a8T, a8F, a8F, a8F, a8F, a8F, a8F, a8F, a8F, a8F, a8F, a8F, a8F, a8F, a8F, a8F, a8F], .sl 1 [a8F, a8F, a8T, a8T, a8T, a8T, a8T, a8T, a8T, a8T, a8F, a8F, a8F, a8F, a8F, a8F, a8F, a8F, a8F, a8F, a8F, a8F, a8F, a8F, a8F]] [a80, a81] (.sl 1 [a8F, a8T, a8T, a8T, a8T, a8T, a8T, a8T, a8T, a8T, a8F, a8F, a8F, a8F, a8F, a8F, a8F, a8F, a8F, a8F, a8F, a8F, a8F, a8F, a8F]) [a80, a81] := evFT_ok allF extF [tk4_60, tk4_61, tk4_62, tk4_63, tk4_64, tk4_65, tk4_66, tk4_67, tk4_68, tk4_69, tk4_610, tk4_611, tk4_612, tk4_613, tk4_614, tk4_615] 300 100 _ _ _ _ _ (by kernel_rfl)
def tk4_616 : Memo Try.prog := ⟨_, _, _, _, _, tk4_616_ok⟩

/- 639 steps -/
theorem tk4_617_ok : Ans Try.prog 121 [a82, a83, .sl 1 [a8F, a8T, a8T, a8T, a8T, a8T, a8T, a8T, a8T, a8T, a8F, a8F, a8F, a8F, a8F, a8F, a8F, a8F, a8F, a8F, a8F, a8F, a8F, a8F, a8F]] [a80, a81] (.sl 1 [a8F, a8F, a8T, a8T, a8T, a8T, a8T, a8T, a8T, a8T, a8T, a8F, a8F, a8F, a8F, a8F, a8F, a8F, a8F, a8F, a8F, a8F, a8F, a8F, a8F]) [a80, a81] := evFT_ok allF extF [tk4_60, tk4_61, tk4_62, tk4_63, tk4_64, tk4_65, tk4_66, tk4_67, tk4_68, tk4_69, tk4_610, tk4_611, tk4_612, tk4_613, tk4_614, tk4_615, tk4_616] 300 100 _ _ _ _ _ (by kernel_rfl)
def tk4_617 : Memo Try.prog := ⟨_, _, _, _, _, tk4_617_ok⟩

/- 537 steps -/
theorem tk4_618_ok : Ans Try.prog 137 [.sl 1 [a8F, a8T, a8T, a8T, a8T, a8T, a8T, a8T, a8T, a8T, a8F, a8F, a8F, a8F, a8F, a8F, a8F, a8F, a8F, a8F, a8F, a8F, a8F, a8F, a8F], .sl 1 [a8F, a8F, a8T, a8T, a8T, a8T, a8T, a8T, a8T, a8T, a8T, a8F, a8F, a8F, a8F, a8F, a8F, a8F, a8F, a8F, a8F, a8F, a8F, a8F, a8F]] [a80, a81] (.sl 1 [a8F, a8T, a8T, a8T, a8T, a8T, a8T, a8T, a8T, a8T, a8T, a8F, a8F, a8F, a8F, a8F, a8F, a8F, a8F, a8F, a8F, a8F, a8F, a8F, a8F]) [a80, a81] := evFT_ok allF extF [tk4_60, tk4_61, tk4_62, tk4_63, tk4_64, tk4_65, tk4_66, tk4_67, tk4_68, tk4_69, tk4_610, tk4_611, tk4_612, tk4_613, tk4_614, tk4_615, tk4_616, tk4_617] 300 100 _ _ _ _ _ (by kernel_rfl)
def tk4_618 : Memo Try.prog := ⟨_, _, _, _, _, tk4_618_ok⟩

/- 660 steps -/
theorem tk4_619_ok : Ans Try.prog 121 [a82, a83, .sl 1 [a8F, a8T, a8T, a8T, a8T, a8T, a8T, a8T, a8T, a8T, a8T, a8F, a8F, a8F, a8F, a8F, a8F, a8F, a8F, a8F, a8F, a8F, a8F, a8F, a8F]] [a80, a81] (.sl 1 [a8F, a8F, a8T, a8T, a8T, a8T, a8T, a8T, a8T, a8T, a8T, a8T, a8F, a8F, a8F, a8F, a8F, a8F, a8F, a8F, a8F, a8F, a8F, a8F, a8F]) [a80, a81] := evFT_ok allF extF [tk4_60, tk4_61, tk4_62, tk4_63, tk4_64, tk4_65, tk4_66, tk4_67, tk4_68, tk4_69, tk4_610, tk4_611, tk4_612, tk4_613, tk4_614, tk4_615, tk4_616, tk4_617, tk4_618] 300 100 _ _ _ _ _ (by kernel_rfl)
def tk4_619 : Memo Try.prog := ⟨_, _, _, _, _, tk4_619_ok⟩

/- 537 steps -/
theorem tk4_620_ok : Ans Try.prog 137 [.sl 1 [a8F, a8T, a8T, a8T, a8T, a8T, a8T, a8T, a8T, a8T, a8T, a8F, a8F, a8F, a8F, a8F, a8F, a8F, a8F, a8F, a8F, a8F, a8F, a8F, a8F], .sl 1 [a8F, a8F, a8T, a8T, a8T, a8T, a8T, a8T, a8T, a8T, a8T, a8T, a8F, a8F, a8F, a8F, a8F, a8F, a8F, a8F, a8F, a8F, a8F, a8F, a8F]] [a80, a81] (.sl 1 [a8F, a8T, a8T, a8T, a8T, a8T, a8T, a8T, a8T, a8T, a8T, a8T, a8F, a8F, a8F, a8F, a8F, a8F, a8F, a8F, a8F, a8F, a8F, a8F, a8F]) [a80, a81] := evFT_ok allF extF [tk4_60, tk4_61, tk4_62, tk4_63, tk4_64, tk4_65, tk4_66, tk4_67, tk4_68, tk4_69, tk4_610, tk4_611, tk4_612, tk4_613, tk4_614, tk4_615, tk4_616, tk4_617, tk4_618, tk4_619] 300 100 _ _ _ _ _ (by kernel_rfl)
def tk4_620 : Memo Try.prog := ⟨_, _, _, _, _, tk4_620_ok⟩

/- 681 steps -/
theorem tk4_621_ok : Ans Try.prog 121 [a82, a83, .sl 1 [a8F, a8T, a8T, a8T, a8T, a8T, a8T, a8T, a8T, a8T, a8T, a8T, a8F, a8F, a8F, a8F, a8F, a8F, a8F, a8F, a8F, a8F, a8F, a8F, a8F]] [a80, a81] (.sl 1 [a8F, a8F, a8T, a8T, a8T, a8T, a8T, a8T, a8T, a8T, a8T, a8T, a8T, a8F, a8F, a8F, a8F, a8F, a8F, a8F, a8F, a8F, a8F, a8F, a8F]) [a80, a81] := evFT_ok allF extF [tk4_60, tk4_61, tk4_62, tk4_63, tk4_64, tk4_65, tk4_66, tk4_67, tk4_68, tk4_69, tk4_610, tk4_611, tk4_612, tk4_613, tk4_614, tk4_615, tk4_616, tk4_617, tk4_618, tk4_619, tk4_620] 300 100 _ _ _ _ _ (by kernel_rfl)
def tk4_621 : Memo Try.prog := ⟨_, _, _, _, _, tk4_621_ok⟩

/- 537 steps -/
theorem tk4_622_ok : Ans Try.prog 137 [.sl 1 [a8F, a8T, a8T, a8T, a8T, a8T, a8T, a8T, a8T, a8T, a8T, a8T, a8F, a8F, a8F, a8F, a8F, a8F, a8F, a8F, a8F, a8F, a8F, a8F, a8F], .sl 1 [a8F, a8F, a8T, a8T, a8T, a8T, a8T, a8T, a8T, a8T, a8T, a8T, a8T, a8F, a8F, a8F, a8F, a8F, a8F, a8F, a8F, a8F, a8F, a8F, a8F]] [a80, a81] (.sl 1 [a8F, a8T, a8T, a8T, a8T, a8T, a8T, a8T, a8T, a8T, a8T, a8T, a8T, a8F, a8F, a8F, a8F, a8F, a8F, a8F, a8F, a8F, a8F, a8F, a8F]) [a80, a81] := evFT_ok allF extF [tk4_60, tk4_61, tk4_62, tk4_63, tk4_64, tk4_65, tk4_66, tk4_67, tk4_68, tk4_69, tk4_610, tk4_611, tk4_612, tk4_613, tk4_614, tk4_615, tk4_616, tk4_617, tk4_618, tk4_619, tk4_620, tk4_621] 300 100 _ _ _ _ _ (by kernel_rfl)
def tk4_622 : Memo Try.prog := ⟨_, _, _, _, _, tk4_622_ok⟩

/- 702 steps -/
theorem tk4_623_ok : Ans Try.prog 121 [a82, a83, .sl 1 [a8F, a8T, a8T, a8T, a8T, a8T, a8T, a8T, a8T, a8T, a8T, a8T, a8T, a8F, a8F, a8F, a8F, a8F, a8F, a8F, a8F, a8F, a8F, a8F, a8F]] [a80, a81] (.sl 1 [a8F, a8F, a8T, a8T, a8T, a8T, a8T, a8T, a8T, a8T, a8T, a8T, a8T, a8T, a8F, a8F, a8F, a8F, a8F, a8F, a8F, a8F, a8F, a8F, a8F]) [a80, a81] := evFT_ok allF extF [tk4_60, tk4_61, tk4_62, tk4_63, tk4_64, tk4_65, tk4_66, tk4_67, tk4_68, tk4_69, tk4_610, tk4_611, tk4_612, tk4_613, tk4_614, tk4_615, tk4_616, tk4_617, tk4_618, tk4_619, tk4_620, tk4_621, tk4_622] 300 100 _ _ _ _ _ (by kernel_rfl)
def tk4_623 : Memo Try.prog := ⟨_, _, _, _, _, tk4_623_ok⟩

/- 537 steps -/
theorem tk4_624_ok : Ans Try.prog 137 [.sl 1 [a8F, a8T, a8T, a8T, a8T, a8T, a8T, a8T, a8T, a8T, a8T, a8T, a8T, a8F, a8F, a8F, a8F, a8F, a8F, a8F, a8F, a8F, a8F, a8F, a8F], .sl 1 [a8F, a8F, a8T, a8T, a8T, a8T, a8T, a8T, a8T, a8T, a8T, a8T, a8T, a8T, a8F, a8F, a8F, a8F, a8F, a8F, a8F, a8F, a8F, a8F, a8F]] [a80, a81] (.sl 1 [a8F, a8T, a8T, a8T, a8T, a8T, a8T, a8T, a8T, a8T, a8T, a8T, a8T, a8T, a8F, a8F, a8F, a8F, a8F, a8F, a8F, a8F, a8F, a8F, a8F]) [a80, a81] := evFT_ok allF extF [tk4_60, tk4_61, tk4_62, tk4_63, tk4_64, tk4_65, tk4_66, tk4_67, tk4_68, tk4_69, tk4_610, tk4_611, tk4_612, tk4_613, tk4_614, tk4_615, tk4_616, tk4_617, tk4_618, tk4_619, tk4_620, tk4_621, tk4_622, tk4_623] 300 100 _ _ _ _ _ (by kernel_rfl)
def tk4_624 : Memo Try.prog := ⟨_, _, _, _, _, tk4_624_ok⟩

/- 723 steps -/
theorem tk4_625_ok : Ans Try.prog 121 [a82, a83, .sl 1 [a8F, a8T, a8T, a8T, a8T, a8T, a8T, a8T, a8T, a8T, a8T, a8T, a8T, a8T, a8F, a8F, a8F, a8F, a8F, a8F, a8F, a8F, a8F, a8F, a8F]] [a80, a81] (.sl 1 [a8F, a8F, a8T, a8T, a8T, a8T, a8T, a8T, a8T, a8T, a8T, a8T, a8T, a8T, a8T, a8F, a8F, a8F, a8F, a8F, a8F, a8F, a8F, a8F, a8F]) [a80, a81] := evFT_ok allF extF [tk4_60, tk4_61, tk4_62, tk4_63, tk4_64, tk4_65, tk4_66, tk4_67, tk4_68, tk4_69, tk4_610, tk4_611, tk4_612, tk4_613, tk4_614, tk4_615, tk4_616, tk4_617, tk4_618, tk4_619, tk4_620, tk4_621, tk4_622, tk4_623, tk4_624] 300 100 _ _ _ _ _ (by kernel_rfl)
def tk4_625 : Memo Try.prog := ⟨_, _, _, _, _, tk4_625_ok⟩

/- 537 steps -/
theorem tk4_626_ok : Ans Try.prog 137 [.sl 1 [a8F, a8T, a8T, a8T, a8T, a8T, a8T, a8T, a8T, a8T, a8T, a8T, a8T, a8T, a8F, a8F, a8F, a8F, a8F, a8F, a8F, a8F, a8F, a8F, a8F], .sl 1 [a8F, a8F, a8T, a8T, a8T, a8T, a8T, a8T, a8T, a8T, a8T, a8T, a8T, a8T, a8T, a8F, a8F, a8F, a8F, a8F, a8F, a8F, a8F, a8F, a8F]] [a80, a81] (.sl 1 [a8F, a8T, a8T, a8T, a8T, a8T, a8T, a8T, a8T, a8T, a8T, a8T, a8T, a8T, a8T, a8F, a8F, a8F, a8F, a8F, a8F, a8F, a8F, a8F, a8F]) [a80, a81] := evFT_ok allF extF [tk4_60, tk4_61, tk4_62, tk4_63, tk4_64, tk4_65, tk4_66, tk4_67, tk4_68, tk4_69, tk4_610, tk4_611, tk4_612, tk4_613, tk4_614, tk4_615, tk4_616, tk4_617, tk4_618, tk4_619, tk4_620, tk4_621, tk4_622, tk4_623, tk4_624, tk4_625] 300 100 _ _ _ _ _ (by kernel_rfl)
def tk4_626 : Memo Try.prog := ⟨_, _, _, _, _, tk4_626_ok⟩

/- 744 steps -/
theorem tk4_627_ok : Ans Try.prog 121 [a82, a83, .sl 1 [a8F, a8T, a8T, a8T, a8T, a8T, a8T, a8T, a8T, a8T, a8T, a8T, a8T, a8T, a8T, a8F, a8F, a8F, a8F, a8F, a8F, a8F, a8F, a8F, a8F]] [a80, a81] (.sl 1 [a8F, a8F, a8T, a8T, a8T, a8T, a8T, a8T, a8T, a8T, a8T, a8T, a8T, a8T, a8T, a8T, a8F, a8F, a8F, a8F, a8F, a8F, a8F, a8F, a8F]) [a80, a81] := evFT_ok allF extF [tk4_60, tk4_61, tk4_62, tk4_63, tk4_64, tk4_65, tk4_66, tk4_67, tk4_68, tk4_69, tk4_610, tk4_611, tk4_612, tk4_613, tk4_614, tk4_615, tk4_616, tk4_617, tk4_618, tk4_619, tk4_620, tk4_621, tk4_622, tk4_623, tk4_624, tk4_625, tk4_626] 300 100 _ _ _ _ _ (by kernel_rfl)
def tk4_627 : Memo Try.prog := ⟨_, _, _, _, _, tk4_627_ok⟩

/- 537 steps -/
theorem tk4_628_ok : Ans Try.prog 137 [.sl 1 [a8F, a8T, a8T, a8T, a8T, a8T, a8T, a8T, a8T, a8T, a8T, a8T, a8T, a8T, a8T, a8F, a8F, a8F, a8F, a8F, a8F, a8F, a8F, a8F, a8F], .sl 1 [a8F, a8F, a8T, a8T, a8T, a8T, a8T, a8T, a8T, a8T, a8T, a8T, a8T, a8T, a8T, a8T, a8F, a8F, a8F, a8F, a8F, a8F, a8F, a8F, a8F]] [a80, a81] (.sl 1 [a8F, a8T, a8T, a8T, a8T, a8T, a8T, a8T, a8T, a8T, a8T, a8T, a8T, a8T, a8T, a8T, a8F, a8F, a8F, a8F, a8F, a8F, a8F, a8F, a8F]) [a80, a81] := evFT_ok allF extF [tk4_60, tk4_61, tk4_62, tk4_63, tk4_64, tk4_65, tk4_66, tk4_67, tk4_68, tk4_69, tk4_610, tk4_611, tk4_612, tk4_613, tk4_614, tk4_615, tk4_616, tk4_617, tk4_618, tk4_619, tk4_620, tk4_621, tk4_622, tk4_623, tk4_624, tk4_625, tk4_626, tk4_627] 300 100 _ _ _ _ _ (by kernel_rfl)
def tk4_628 : Memo Try.prog := ⟨_, _, _, _, _, tk4_628_ok⟩

/- 765 steps -/
theorem tk4_629_ok : Ans Try.prog 121 [a82, a83, .sl 1 [a8F, a8T, a8T, a8T, a8T, a8T, a8T, a8T, a8T, a8T, a8T, a8T, a8T, a8T, a8T, a8T, a8F, a8F, a8F, a8F, a8F, a8F, a8F, a8F, a8F]] [a80, a81] (.sl 1 [a8F, a8F, a8T, a8T, a8T, a8T, a8T, a8T, a8T, a8T, a8T, a8T, a8T, a8T, a8T, a8T, a8T, a8F, a8F, a8F, a8F, a8F, a8F, a8F, a8F]) [a80, a81] := evFT_ok allF extF [tk4_60, tk4_61, tk4_62, tk4_63, tk4_64, tk4_65, tk4_66, tk4_67, tk4_68, tk4_69, tk4_610, tk4_611, tk4_612, tk4_613, tk4_614, tk4_615, tk4_616, tk4_617, tk4_618, tk4_619, tk4_620, tk4_621, tk4_622, tk4_623, tk4_624, tk4_625, tk4_626, tk4_627, tk4_628] 300 100 _ _ _ _ _ (by kernel_rfl)
def tk4_629 : Memo Try.prog := ⟨_, _, _, _, _, tk4_629_ok⟩

/- 537 steps -/
theorem tk4_630_ok : Ans Try.prog 137 [.sl 1 [a8F, a8T, a8T, a8T, a8T, a8T, a8T, a8T, a8T, a8T, a8T, a8T, a8T, a8T, a8T, a8T, a8F, a8F, a8F, a8F, a8F, a8F, a8F, a8F, a8F], .sl 1 [a8F, a8F, a8T, a8T, a8T, a8T, a8T, a8T, a8T, a8T, a8T, a8T, a8T, a8T, a8T, a8T, a8T, a8F, a8F, a8F, a8F, a8F, a8F, a8F, a8F]] [a80, a81] (.sl 1 [a8F, a8T, a8T, a8T, a8T, a8T, a8T, a8T, a8T, a8T, a8T, a8T, a8T, a8T, a8T, a8T, a8T, a8F, a8F, a8F, a8F, a8F, a8F, a8F, a8F]) [a80, a81] := evFT_ok allF extF [tk4_60, tk4_61, tk4_62, tk4_63, tk4_64, tk4_65, tk4_66, tk4_67, tk4_68, tk4_69, tk4_610, tk4_611, tk4_612, tk4_613, tk4_614, tk4_615, tk4_616, tk4_617, tk4_618, tk4_619, tk4_620, tk4_621, tk4_622, tk4_623, tk4_624, tk4_625, tk4_626, tk4_627, tk4_628, tk4_629] 300 100 _ _ _ _ _ (by kernel_rfl)
def tk4_630 : Memo Try.prog := ⟨_, _, _, _, _, tk4_630_ok⟩

/- 786 steps -/
theorem tk4_631_ok : Ans Try.prog 121 [a82, a83, .sl 1 [a8F, a8T, a8T, a8T, a8T, a8T, a8T, a8T, a8T, a8T, a8T, a8T, a8T, a8T, a8T, a8T, a8T, a8F, a8F, a8F, a8F, a8F, a8F, a8F, a8F]] [a80, a81] (.sl 1 [a8F, a8F, a8T, a8T, a8T, a8T, a8T, a8T, a8T, a8T, a8T, a8T, a8T, a8T, a8T, a8T, a8T, a8T, a8F, a8F, a8F, a8F, a8F, a8F, a8F]) [a80, a81] := evFT_ok allF extF [tk4_60, tk4_61, tk4_62, tk4_63, tk4_64, tk4_65, tk4_66, tk4_67, tk4_68, tk4_69, tk4_610, tk4_611, tk4_612, tk4_613, tk4_614, tk4_615, tk4_616, tk4_617, tk4_618, tk4_619, tk4_620, tk4_621, tk4_622, tk4_623, tk4_624, tk4_625, tk4_626, tk4_627, tk4_628, tk4_629, tk4_630] 300 100 _ _ _ _ _ (by kernel_rfl)
def tk4_631 : Memo Try.prog := ⟨_, _, _, _, _, tk4_631_ok⟩

/- 537 steps -/
theorem tk4_632_ok : Ans Try.prog 137 [.sl 1 [a8F, a8T, a8T, a8T, a8T, a8T, a8T, a8T, a8T, a8T, a8T, a8T, a8T, a8T, a8T, a8T, a8T, a8F, a8F, a8F, a8F, a8F, a8F, a8F, a8F], .sl 1 [a8F, a8F, a8T, a8T, a8T, a8T, a8T, a8T, a8T, a8T, a8T, a8T, a8T, a8T, a8T, a8T, a8T, a8T, a8F, a8F, a8F, a8F, a8F, a8F, a8F]] [a80, a81] (.sl 1 [a8F, a8T, a8T, a8T, a8T, a8T, a8T, a8T, a8T, a8T, a8T, a8T, a8T, a8T, a8T, a8T, a8T, a8T, a8F, a8F, a8F, a8F, a8F, a8F, a8F]) [a80, a81] := evFT_ok allF extF [tk4_60, tk4_61, tk4_62, tk4_63, tk4_64, tk4_65, tk4_66, tk4_67, tk4_68, tk4_69, tk4_610, tk4_611, tk4_612, tk4_613, tk4_614, tk4_615, tk4_616, tk4_617, tk4_618, tk4_619, tk4_620, tk4_621, tk4_622, tk4_623, tk4_624, tk4_625, tk4_626, tk4_627, tk4_628, tk4_629, tk4_630, tk4_631] 300 100 _ _ _ _ _ (by kernel_rfl)
def tk4_632 : Memo Try.prog := ⟨_, _, _, _, _, tk4_632_ok⟩

/- 807 steps -/
theorem tk4_633_ok : Ans Try.prog 121 [a82, a83, .sl 1 [a8F, a8T, a8T, a8T, a8T, a8T, a8T, a8T, a8T, a8T, a8T, a8T, a8T, a8T, a8T, a8T, a8T, a8T, a8F, a8F, a8F, a8F, a8F, a8F, a8F]] [a80, a81] (.sl 1 [a8F, a8F, a8T, a8T, a8T, a8T, a8T, a8T, a8T, a8T, a8T, a8T, a8T, a8T, a8T, a8T, a8T, a8T, a8T, a8F, a8F, a8F, a8F, a8F, a8F]) [a80, a81] := evFT_ok allF extF [tk4_60, tk4_61, tk4_62, tk4_63, tk4_64, tk4_65, tk4_66, tk4_67, tk4_68, tk4_69, tk4_610, tk4_611, tk4_612, tk4_613, tk4_614, tk4_615, tk4_616, tk4_617, tk4_618, tk4_619, tk4_620, tk4_621, tk4_622, tk4_623, tk4_624, tk4_625, tk4_626, tk4_627, tk4_628, tk4_629, tk4_630, tk4_631, tk4_632] 300 100 _ _ _ _ _ (by kernel_rfl)
def tk4_633 : Memo Try.prog := ⟨_, _, _, _, _, tk4_633_ok⟩

/- 537 steps -/
theorem tk4_634_ok : Ans Try.prog 137 [.sl 1 [a8F, a8T, a8T, a8T, a8T, a8T, a8T, a8T, a8T, a8T, a8T, a8T, a8T, a8T, a8T, a8T, a8T, a8T, a8F, a8F, a8F, a8F, a8F, a8F, a8F], .sl 1 [a8F, a8F, a8T, a8T, a8T, a8T, a8T, a8T, a8T, a8T, a8T, a8T, a8T, a8T, a8T, a8T, a8T, a8T, a8T, a8F, a8F, a8F, a8F, a8F, a8F]] [a80, a81] (.sl 1 [a8F, a8T, a8T, a8T, a8T, a8T, a8T, a8T, a8T, a8T, a8T, a8T, a8T, a8T, a8T, a8T, a8T, a8T, a8T, a8F, a8F, a8F, a8F, a8F, a8F]) [a80, a81] := evFT_ok allF extF [tk4_60, tk4_61, tk4_62, tk4_63, tk4_64, tk4_65, tk4_66, tk4_67, tk4_68, tk4_69, tk4_610, tk4_611, tk4_612, tk4_613, tk4_614, tk4_615, tk4_616, tk4_617, tk4_618, tk4_619, tk4_620, tk4_621, tk4_622, tk4_623, tk4_624, tk4_625, tk4_626, tk4_627, tk4_628, tk4_629, tk4_630, tk4_631, tk4_632, tk4_633] 300 100 _ _ _ _ _ (by kernel_rfl)
def tk4_634 : Memo Try.prog := ⟨_, _, _, _, _, tk4_634_ok⟩

/- 828 steps -/
theorem tk4_635_ok : Ans Try.prog 121 [a82, a83, .sl 1 [a8F, a8T, a8T, a8T, a8T, a8T, a8T, a8T, a8T, a8T, a8T, a8T, a8T, a8T, a8T, a8T, a8T, a8T, a8T, a8F, a8F, a8F, a8F, a8F, a8F]] [a80, a81] (.sl 1 [a8F, a8F, a8T, a8T, a8T, a8T, a8T, a8T, a8T, a8T, a8T, a8T, a8T, a8T, a8T, a8T, a8T, a8T, a8T, a8T, a8F, a8F, a8F, a8F, a8F]) [a80, a81] := evFT_ok allF extF [tk4_60, tk4_61, tk4_62, tk4_63, tk4_64, tk4_65, tk4_66, tk4_67, tk4_68, tk4_69, tk4_610, tk4_611, tk4_612, tk4_613, tk4_614, tk4_615, tk4_616, tk4_617, tk4_618, tk4_619, tk4_620, tk4_621, tk4_622, tk4_623, tk4_624, tk4_625, tk4_626, tk4_627, tk4_628, tk4_629, tk4_630, tk4_631, tk4_632, tk4_633, tk4_634] 300 100 _ _ _ _ _ (by kernel_rfl)
def tk4_635 : Memo Try.prog := ⟨_, _, _, _, _, tk4_635_ok⟩

/- 537 steps -/
theorem tk4_636_ok : Ans Try.prog 137 [.sl 1 [a8F, a8T, a8T, a8T, a8T, a8T, a8T, a8T, a8T, a8T, a8T, a8T, a8T, a8T, a8T, a8T, a8T, a8T, a8T, a8F, a8F, a8F, a8F, a8F, a8F], .sl 1 [a8F, a8F, a8T, a8T, a8T, a8T, a8T, a8T, a8T, a8T, a8T, a8T, a8T, a8T, a8T, a8T, a8T, a8T, a8T, a8T, a8F, a8F, a8F, a8F, a8F]] [a80, a81] (.sl 1 [a8F, a8T, a8T, a8T, a8T, a8T, a8T, a8T, a8T, a8T, a8T, a8T, a8T, a8T, a8T, a8T, a8T, a8T, a8T, a8T, a8F, a8F, a8F, a8F, a8F]) [a80, a81] := evFT_ok allF extF [tk4_60, tk4_61, tk4_62, tk4_63, tk4_64, tk4_65, tk4_66, tk4_67, tk4_68, tk4_69, tk4_610, tk4_611, tk4_612, tk4_613, tk4_614, tk4_615, tk4_616, tk4_617, tk4_618, tk4_619, tk4_620, tk4_621, tk4_622, tk4_623, tk4_624, tk4_625, tk4_626, tk4_627, tk4_628, tk4_629, tk4_630, tk4_631, tk4_632, tk4_633, tk4_634, tk4_635] 300 100 _ _ _ _ _ (by kernel_rfl)
def tk4_636 : Memo Try.prog := ⟨_, _, _, _, _, tk4_636_ok⟩

/- 849 steps -/
theorem tk4_637_ok : Ans Try.prog 121 [a82, a83, .sl 1 [a8F, a8T, a8T, a8T, a8T, a8T, a8T, a8T, a8T, a8T, a8T, a8T, a8T, a8T, a8T, a8T, a8T, a8T, a8T, a8T, a8F, a8F, a8F, a8F, a8F]] [a80, a81] (.sl 1 [a8F, a8F, a8T, a8T, a8T, a8T, a8T, a8T, a8T, a8T, a8T, a8T, a8T, a8T, a8T, a8T, a8T, a8T, a8T, a8T, a8T, a8F, a8F, a8F, a8F]) [a80, a81] := evFT_ok allF extF [tk4_60, tk4_61, tk4_62, tk4_63, tk4_64, tk4_65, tk4_66, tk4_67, tk4_68, tk4_69, tk4_610, tk4_611, tk4_612, tk4_613, tk4_614, tk4_615, tk4_616, tk4_617, tk4_618, tk4_619, tk4_620, tk4_621, tk4_622, tk4_623, tk4_624, tk4_625, tk4_626, tk4_627, tk4_628, tk4_629, tk4_630, tk4_631, tk4_632, tk4_633, tk4_634, tk4_635, tk4_636] 300 100 _ _ _ _ _ (by kernel_rfl)
def tk4_637 : Memo Try.prog := ⟨_, _, _, _, _, tk4_637_ok⟩

/- 537 steps -/
theorem tk4_638_ok : Ans Try.prog 137 [.sl 1 [a8F, a8T, a8T, a8T, a8T, a8T, a8T, a8T, a8T, a8T, a8T, a8T, a8T, a8T, a8T, a8T, a8T, a8T, a8T, a8T, a8F, a8F, a8F, a8F, a8F], .sl 1 [a8F, a8F, a8T, a8T, a8T, a8T, a8T, a8T, a8T, a8T, a8T, a8T, a8T, a8T, a8T, a8T, a8T, a8T, a8T, a8T, a8T, a8F, a8F, a8F, a8F]] [a80, a81] (.sl 1 [a8F, a8T, a8T, a8T, a8T, a8T, a8T, a8T, a8T, a8T, a8T, a8T, a8T, a8T, a8T, a8T, a8T, a8T, a8T, a8T, a8T, a8F, a8F, a8F, a8F]) [a80, a81] := evFT_ok allF extF [tk4_60, tk4_61, tk4_62, tk4_63, tk4_64, tk4_65, tk4_66, tk4_67, tk4_68, tk4_69, tk4_610, tk4_611, tk4_612, tk4_613, tk4_614, tk4_615, tk4_616, tk4_617, tk4_618, tk4_619, tk4_620, tk4_621, tk4_622, tk4_623, tk4_624, tk4_625, tk4_626, tk4_627, tk4_628, tk4_629, tk4_630, tk4_631, tk4_632, tk4_633, tk4_634, tk4_635, tk4_636, tk4_637] 300 100 _ _ _ _ _ (by kernel_rfl)
def tk4_638 : Memo Try.prog := ⟨_, _, _, _, _, tk4_638_ok⟩

/- 870 steps -/
theorem tk4_639_ok : Ans Try.prog 121 [a82, a83, .sl 1 [a8F, a8T, a8T, a8T, a8T, a8T, a8T, a8T, a8T, a8T, a8T, a8T, a8T, a8T, a8T, a8T, a8T, a8T, a8T, a8T, a8T, a8F, a8F, a8F, a8F]] [a80, a81] (.sl 1 [a8F, a8F, a8T, a8T, a8T, a8T, a8T, a8T, a8T, a8T, a8T, a8T, a8T, a8T, a8T, a8T, a8T, a8T, a8T, a8T, a8T, a8T, a8F, a8F, a8F]) [a80, a81] := evFT_ok allF extF [tk4_60, tk4_61, tk4_62, tk4_63, tk4_64, tk4_65, tk4_66, tk4_67, tk4_68, tk4_69, tk4_610, tk4_611, tk4_612, tk4_613, tk4_614, tk4_615, tk4_616, tk4_617, tk4_618, tk4_619, tk4_620, tk4_621, tk4_622, tk4_623, tk4_624, tk4_625, tk4_626, tk4_627, tk4_628, tk4_629, tk4_630, tk4_631, tk4_632, tk4_633, tk4_634, tk4_635, tk4_636, tk4_637, tk4_638] 300 100 _ _ _ _ _ (by kernel_rfl)
def tk4_639 : Memo Try.prog := ⟨_, _, _, _, _, tk4_639_ok⟩

/- 537 steps -/
theorem tk4_640_ok : Ans Try.prog 137 [.sl 1 [a8F, a8T, a8T, a8T, a8T, a8T, a8T, a8T, a8T, a8T, a8T, a8T, a8T, a8T, a8T, a8T, a8T, a8T, a8T, a8T, a8T, a8F, a8F, a8F, a8F], .sl 1 [a8F, a8F, a8T, a8T, a8T, a8T, a8T, a8T, a8T, a8T, a8T, a8T, a8T, a8T, a8T, a8T, a8T, a8T, a8T, a8T, a8T, a8T, a8F, a8F, a8F]] [a80, a81] (.sl 1 [a8F, a8T, a8T, a8T, a8T, a8T, a8T, a8T, a8T, a8T, a8T, a8T, a8T, a8T, a8T, a8T, a8T, a8T, a8T, a8T, a8T, a8T, a8F, a8F, a8F]) [a80, a81] := evFT_ok allF extF [tk4_60, tk4_61, tk4_62, tk4_63, tk4_64, tk4_65, tk4_66, tk4_67, tk4_68, tk4_69, tk4_610, tk4_611, tk4_612, tk4_613, tk4_614, tk4_615, tk4_616, tk4_617, tk4_618, tk4_619, tk4_620, tk4_621, tk4_622, tk4_623, tk4_624, tk4_625, tk4_626, tk4_627, tk4_628, tk4_629, tk4_630, tk4_631, tk4_632, tk4_633, tk4_634, tk4_635, tk4_636, tk4_637, tk4_638, tk4_639] 300 100 _ _ _ _ _ (by kernel_rfl)
def tk4_640 : Memo Try.prog := ⟨_, _, _, _, _, tk4_640_ok⟩

/- 891 steps -/
theorem tk4_641_ok : Ans Try.prog 121 [a82, a83, .sl 1 [a8F, a8T, a8T, a8T, a8T, a8T, a8T, a8T, a8T, a8T, a8T, a8T, a8T, a8T, a8T, a8T, a8T, a8T, a8T, a8T, a8T, a8T, a8F, a8F, a8F]] [a80, a81] (.sl 1 [a8F, a8F, a8T, a8T, a8T, a8T, a8T, a8T, a8T, a8T, a8T, a8T, a8T, a8T, a8T, a8T, a8T, a8T, a8T, a8T, a8T, a8T, a8T, a8F, a8F]) [a80, a81] := evFT_ok allF extF [tk4_60, tk4_61, tk4_62, tk4_63, tk4_64, tk4_65, tk4_66, tk4_67, tk4_68, tk4_69, tk4_610, tk4_611, tk4_612, tk4_613, tk4_614, tk4_615, tk4_616, tk4_617, tk4_618, tk4_619, tk4_620, tk4_621, tk4_622, tk4_623, tk4_624, tk4_625, tk4_626, tk4_627, tk4_628, tk4_629, tk4_630, tk4_631, tk4_632, tk4_633, tk4_634, tk4_635, tk4_636, tk4_637, tk4_638, tk4_639, tk4_640] 300 100 _ _ _ _ _ (by kernel_rfl)
def tk4_641 : Memo Try.prog := ⟨_, _, _, _, _, tk4_641_ok⟩

/- 537 steps -/
theorem tk4_642_ok : Ans Try.prog 137 [.sl 1 [a8F, a8T, a8T, a8T, a8T, a8T, a8T, a8T, a8T, a8T, a8T, a8T, a8T, a8T, a8T, a8T, a8T, a8T, a8T, a8T, a8T, a8T, a8F, a8F, a8F], .sl 1 [a8F, a8F, a8T, a8T, a8T, a8T, a8T, a8T, a8T, a8T, a8T, a8T, a8T, a8T, a8T, a8T, a8T, a8T, a8T, a8T, a8T, a8T, a8T, a8F, a8F]] [a80, a81] (.sl 1 [a8F, a8T, a8T, a8T, a8T, a8T, a8T, a8T, a8T, a8T, a8T, a8T, a8T, a8T, a8T, a8T, a8T, a8T, a8T, a8T, a8T, a8T, a8T, a8F, a8F]) [a80, a81] := evFT_ok allF extF [tk4_60, tk4_61, tk4_62, tk4_63, tk4_64, tk4_65, tk4_66, tk4_67, tk4_68, tk4_69, tk4_610, tk4_611, tk4_612, tk4_613, tk4_614, tk4_615, tk4_616, tk4_617, tk4_618, tk4_619, tk4_620, tk4_621, tk4_622, tk4_623, tk4_624, tk4_625, tk4_626, tk4_627, tk4_628, tk4_629, tk4_630, tk4_631, tk4_632, tk4_633, tk4_634, tk4_635, tk4_636, tk4_637, tk4_638, tk4_639, tk4_640, tk4_641] 300 100 _ _ _ _ _ (by kernel_rfl)
def tk4_642 : Memo Try.prog := ⟨_, _, _, _, _, tk4_642_ok⟩

/- 912 steps -/
theorem tk4_643_ok : Ans Try.prog 121 [a82, a83, .sl 1 [a8F, a8T, a8T, a8T, a8T, a8T, a8T, a8T, a8T, a8T, a8T, a8T, a8T, a8T, a8T, a8T, a8T, a8T, a8T, a8T, a8T, a8T, a8T, a8F, a8F]] [a80, a81] (.sl 1 [a8F, a8F, a8T, a8T, a8T, a8T, a8T, a8T, a8T, a8T, a8T, a8T, a8T, a8T, a8T, a8T, a8T, a8T, a8T, a8T, a8T, a8T, a8T, a8T, a8F]) [a80, a81] := evFT_ok allF extF [tk4_60, tk4_61, tk4_62, tk4_63, tk4_64, tk4_65, tk4_66, tk4_67, tk4_68, tk4_69, tk4_610, tk4_611, tk4_612, tk4_613, tk4_614, tk4_615, tk4_616, tk4_617, tk4_618, tk4_619, tk4_620, tk4_621, tk4_622, tk4_623, tk4_624, tk4_625, tk4_626, tk4_627, tk4_628, tk4_629, tk4_630, tk4_631, tk4_632, tk4_633, tk4_634, tk4_635, tk4_636, tk4_637, tk4_638, tk4_639, tk4_640, tk4_641, tk4_642] 300 100 _ _ _ _ _ (by kernel_rfl)
def tk4_643 : Memo Try.prog := ⟨_, _, _, _, _, tk4_643_ok⟩

/- 537 steps -/
theorem tk4_644_ok : Ans Try.prog 137 [.sl 1 [a8F, a8T, a8T, a8T, a8T, a8T, a8T, a8T, a8T, a8T, a8T, a8T, a8T, a8T, a8T, a8T, a8T, a8T, a8T, a8T, a8T, a8T, a8T, a8F, a8F], .sl 1 [a8F, a8F, a8T, a8T, a8T, a8T, a8T, a8T, a8T, a8T, a8T, a8T, a8T, a8T, a8T, a8T, a8T, a8T, a8T, a8T, a8T, a8T, a8T, a8T, a8F]] [a80, a81] (.sl 1 [a8F, a8T, a8T, a8T, a8T, a8T, a8T, a8T, a8T, a8T, a8T, a8T, a8T, a8T, a8T, a8T, a8T, a8T, a8T, a8T, a8T, a8T, a8T, a8T, a8F]) [a80, a81] := evFT_ok allF extF [tk4_60, tk4_61, tk4_62, tk4_63, tk4_64, tk4_65, tk4_66, tk4_67, tk4_68, tk4_69, tk4_610, tk4_611, tk4_612, tk4_613, tk4_614, tk4_615, tk4_616, tk4_617, tk4_618, tk4_619, tk4_620, tk4_621, tk4_622, tk4_623, tk4_624, tk4_625, tk4_626, tk4_627, tk4_628, tk4_629, tk4_630, tk4_631, tk4_632, tk4_633, tk4_634, tk4_635, tk4_636, tk4_637, tk4_638, tk4_639, tk4_640, tk4_641, tk4_642, tk4_643] 300 100 _ _ _ _ _ (by kernel_rfl)
def tk4_644 : Memo Try.prog := ⟨_, _, _, _, _, tk4_644_ok⟩

/- 933 steps -/
theorem tk4_645_ok : Ans Try.prog 121 [a82, a83, .sl 1 [a8F, a8T, a8T, a8T, a8T, a8T, a8T, a8T, a8T, a8T, a8T, a8T, a8T, a8T, a8T, a8T, a8T, a8T, a8T, a8T, a8T, a8T, a8T, a8T, a8F]] [a80, a81] (.sl 1 [a8F, a8F, a8T, a8T, a8T, a8T, a8T, a8T, a8T, a8T, a8T, a8T, a8T, a8T, a8T, a8T, a8T, a8T, a8T, a8T, a8T, a8T, a8T, a8T, a8T]) [a80, a81] := evFT_ok allF extF [tk4_60, tk4_61, tk4_62, tk4_63, tk4_64, tk4_65, tk4_66, tk4_67, tk4_68, tk4_69, tk4_610, tk4_611, tk4_612, tk4_613, tk4_614, tk4_615, tk4_616, tk4_617, tk4_618, tk4_619, tk4_620, tk4_621, tk4_622, tk4_623, tk4_624, tk4_625, tk4_626, tk4_627, tk4_628, tk4_629, tk4_630, tk4_631, tk4_632, tk4_633, tk4_634, tk4_635, tk4_636, tk4_637, tk4_638, tk4_639, tk4_640, tk4_641, tk4_642, tk4_643, tk4_644] 300 100 _ _ _ _ _ (by kernel_rfl)
def tk4_645 : Memo Try.prog := ⟨_, _, _, _, _, tk4_645_ok⟩

/- 537 steps -/
theorem tk4_646_ok : Ans Try.prog 137 [.sl 1 [a8F, a8T, a8T, a8T, a8T, a8T, a8T, a8T, a8T, a8T, a8T, a8T, a8T, a8T, a8T, a8T, a8T, a8T, a8T, a8T, a8T, a8T, a8T, a8T, a8F], .sl 1 [a8F, a8F, a8T, a8T, a8T, a8T, a8T, a8T, a8T, a8T, a8T, a8T, a8T, a8T, a8T, a8T, a8T, a8T, a8T, a8T, a8T, a8T, a8T, a8T, a8T]] [a80, a81] (a84) [a80, a81] := evFT_ok allF extF [tk4_60, tk4_61, tk4_62, tk4_63, tk4_64, tk4_65, tk4_66, tk4_67, tk4_68, tk4_69, tk4_610, tk4_611, tk4_612, tk4_613, tk4_614, tk4_615, tk4_616, tk4_617, tk4_618, tk4_619, tk4_620, tk4_621, tk4_622, tk4_623, tk4_624, tk4_625, tk4_626, tk4_627, tk4_628, tk4_629, tk4_630, tk4_631, tk4_632, tk4_633, tk4_634, tk4_635, tk4_636, tk4_637, tk4_638, tk4_639, tk4_640, tk4_641, tk4_642, tk4_643, tk4_644, tk4_645] 300 100 _ _ _ _ _ (by kernel_rfl)
def tk4_646 : Memo Try.prog := ⟨_, _, _, _, _, tk4_646_ok⟩

/- 400 steps -/
theorem tk4_647_ok : Ans Try.prog 138 [a84, .sl 1 [a8F, a8T, a8T, a8T, a8T, a8T, a8T, a8T, a8T, a8T, a8T, a8T, a8T, a8T, a8T, a8T, a8T, a8T, a8T, a8T, a8T, a8T, a8T, a8T, a8F]] [a80, a81] (a8F) [a80, a81] := evFT_ok allF extF [tk4_60, tk4_61, tk4_62, tk4_63, tk4_64, tk4_65, tk4_66, tk4_67, tk4_68, tk4_69, tk4_610, tk4_611, tk4_612, tk4_613, tk4_614, tk4_615, tk4_616, tk4_617, tk4_618, tk4_619, tk4_620, tk4_621, tk4_622, tk4_623, tk4_624, tk4_625, tk4_626, tk4_627, tk4_628, tk4_629, tk4_630, tk4_631, tk4_632, tk4_633, tk4_634, tk4_635, tk4_636, tk4_637, tk4_638, tk4_639, tk4_640, tk4_641, tk4_642, tk4_643, tk4_644, tk4_645, tk4_646] 300 100 _ _ _ _ _ (by kernel_rfl)
def tk4_647 : Memo Try.prog := ⟨_, _, _, _, _, tk4_647_ok⟩

/- 933 steps -/
theorem tk4_648_ok : Ans Try.prog 121 [a82, a83, a84] [a80, a81] (.sl 1 [a8F, a8F, a8T, a8T, a8T, a8T, a8T, a8T, a8T, a8T, a8T, a8T, a8T, a8T, a8T, a8T, a8T, a8T, a8T, a8T, a8T, a8T, a8T, a8T, a8T]) [a80, a81] := evFT_ok allF extF [tk4_60, tk4_61, tk4_62, tk4_63, tk4_64, tk4_65, tk4_66, tk4_67, tk4_68, tk4_69, tk4_610, tk4_611, tk4_612, tk4_613, tk4_614, tk4_615, tk4_616, tk4_617, tk4_618, tk4_619, tk4_620, tk4_621, tk4_622, tk4_623, tk4_624, tk4_625, tk4_626, tk4_627, tk4_628, tk4_629, tk4_630, tk4_631, tk4_632, tk4_633, tk4_634, tk4_635, tk4_636, tk4_637, tk4_638, tk4_639, tk4_640, tk4_641, tk4_642, tk4_643, tk4_644, tk4_645, tk4_646, tk4_647] 300 100 _ _ _ _ _ (by kernel_rfl)
def tk4_648 : Memo Try.prog := ⟨_, _, _, _, _, tk4_648_ok⟩

/- 537 steps -/
theorem tk4_649_ok : Ans Try.prog 137 [a84, .sl 1 [a8F, a8F, a8T, a8T, a8T, a8T, a8T, a8T, a8T, a8T, a8T, a8T, a8T, a8T, a8T, a8T, a8T, a8T, a8T, a8T, a8T, a8T, a8T, a8T, a8T]] [a80, a81] (a84) [a80, a81] := evFT_ok allF extF [tk4_60, tk4_61, tk4_62, tk4_63, tk4_64, tk4_65, tk4_66, tk4_67, tk4_68, tk4_69, tk4_610, tk4_611, tk4_612, tk4_613, tk4_614, tk4_615, tk4_616, tk4_617, tk4_618, tk4_619, tk4_620, tk4_621, tk4_622, tk4_623, tk4_624, tk4_625, tk4_626, tk4_627, tk4_628, tk4_629, tk4_630, tk4_631, tk4_632, tk4_633, tk4_634, tk4_635, tk4_636, tk4_637, tk4_638, tk4_639, tk4_640, tk4_641, tk4_642, tk4_643, tk4_644, tk4_645, tk4_646, tk4_647, tk4_648] 300 100 _ _ _ _ _ (by kernel_rfl)
def tk4_649 : Memo Try.prog := ⟨_, _, _, _, _, tk4_649_ok⟩

/- 407 steps -/
theorem tk4_650_ok : Ans Try.prog 138 [a84, a84] [a80, a81] (a8T) [a80, a81] := evFT_ok allF extF [tk4_60, tk4_61, tk4_62, tk4_63, tk4_64, tk4_65, tk4_66, tk4_67, tk4_68, tk4_69, tk4_610, tk4_611, tk4_612, tk4_613, tk4_614, tk4_615, tk4_616, tk4_617, tk4_618, tk4_619, tk4_620, tk4_621, tk4_622, tk4_623, tk4_624, tk4_625, tk4_626, tk4_627, tk4_628, tk4_629, tk4_630, tk4_631, tk4_632, tk4_633, tk4_634, tk4_635, tk4_636, tk4_637, tk4_638, tk4_639, tk4_640, tk4_641, tk4_642, tk4_643, tk4_644, tk4_645, tk4_646, tk4_647, tk4_648, tk4_649] 300 100 _ _ _ _ _ (by kernel_rfl)
def tk4_650 : Memo Try.prog := ⟨_, _, _, _, _, tk4_650_ok⟩

/- 5349 steps -/
theorem tk4_651_ok : Ans Try.prog 121 [.agg [.pl (.int .i64 5), .pl (.int .u64 0), .pl (.int .u64 0), .pl (.int .u64 0), .pl (.int .u64 0), .sl 6 [a82]], a83, .osl 0 25] [a80] (a84) [a80] := evFT_ok allF extF [tk4_60, tk4_61, tk4_62, tk4_63, tk4_64, tk4_65, tk4_66, tk4_67, tk4_68, tk4_69, tk4_610, tk4_611, tk4_612, tk4_613, tk4_614, tk4_615, tk4_616, tk4_617, tk4_618, tk4_619, tk4_620, tk4_621, tk4_622, tk4_623, tk4_624, tk4_625, tk4_626, tk4_627, tk4_628, tk4_629, tk4_630, tk4_631, tk4_632, tk4_633, tk4_634, tk4_635, tk4_636, tk4_637, tk4_638, tk4_639, tk4_640, tk4_641, tk4_642, tk4_643, tk4_644, tk4_645, tk4_646, tk4_647, tk4_648, tk4_649, tk4_650] 300 100 _ _ _ _ _ (by kernel_rfl)
def tk4_651 : Memo Try.prog := ⟨_, _, _, _, _, tk4_651_ok⟩

/- 491 steps -/
theorem tk4_652_ok : Ans Try.prog 99 [.agg [.pl (.int .i64 5), .pl (.int .u64 0), .pl (.int .u64 0), .pl (.int .u64 0), .pl (.int .u64 0), .sl 6 [a82]], a83, .pl (.int .i64 0)] [] (.sl 1 [.pl (.int .i64 1), .pl (.int .i64 2), .pl (.int .i64 3), .pl (.int .i64 4), .pl (.int .i64 5), .pl (.int .i64 6), .pl (.int .i64 7), .pl (.int .i64 8), .pl (.int .i64 9), .pl (.int .i64 10), .pl (.int .i64 11), .pl (.int .i64 12), .pl (.int .i64 13), .pl (.int .i64 14), .pl (.int .i64 15), .pl (.int .i64 16), .pl (.int .i64 17), .pl (.int .i64 18), .pl (.int .i64 19), .pl (.int .i64 20), .pl (.int .i64 21), .pl (.int .i64 22), .pl (.int .i64 23), .pl (.int .i64 24)]) [] := evFT_ok allF extF [tk4_60, tk4_61, tk4_62, tk4_63, tk4_64, tk4_65, tk4_66, tk4_67, tk4_68, tk4_69, tk4_610, tk4_611, tk4_612, tk4_613, tk4_614, tk4_615, tk4_616, tk4_617, tk4_618, tk4_619, tk4_620, tk4_621, tk4_622, tk4_623, tk4_624, tk4_625, tk4_626, tk4_627, tk4_628, tk4_629, tk4_630, tk4_631, tk4_632, tk4_633, tk4_634, tk4_635, tk4_636, tk4_637, tk4_638, tk4_639, tk4_640, tk4_641, tk4_642, tk4_643, tk4_644, tk4_645, tk4_646, tk4_647, tk4_648, tk4_649, tk4_650, tk4_651] 300 100 _ _ _ _ _ (by kernel_rfl)
def tk4_652 : Memo Try.prog := ⟨_, _, _, _, _, tk4_652_ok⟩

/- 24 steps -/
theorem tk4_6_ok : Ans Try.prog 58 [.agg [.pl (.int .i64 5), .pl (.int .u64 0), .pl (.int .u64 0), .pl (.int .u64 0), .pl (.int .u64 0), .sl 6 [a82]], a83] [] (a8T) [] := evFT_ok allF extF [tk4_60, tk4_61, tk4_62, tk4_63, tk4_64, tk4_65, tk4_66, tk4_67, tk4_68, tk4_69, tk4_610, tk4_611, tk4_612, tk4_613, tk4_614, tk4_615, tk4_616, tk4_617, tk4_618, tk4_619, tk4_620, tk4_621, tk4_622, tk4_623, tk4_624, tk4_625, tk4_626, tk4_627, tk4_628, tk4_629, tk4_630, tk4_631, tk4_632, tk4_633, tk4_634, tk4_635, tk4_636, tk4_637, tk4_638, tk4_639, tk4_640, tk4_641, tk4_642, tk4_643, tk4_644, tk4_645, tk4_646, tk4_647, tk4_648, tk4_649, tk4_650, tk4_651, tk4_652] 300 100 _ _ _ _ _ (by kernel_rfl)
def tk4_6_m : Memo Try.prog := ⟨_, _, _, _, _, tk4_6_ok⟩



end Go.Proofs.Ytoadgajhkhejiaa
