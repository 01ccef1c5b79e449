/- Closed runs, call by call: the kernel reckons them. No condition. -/
import Derived.Test.YtoadgajhkhejiaaMRun
import Derived.Test.YtoadgajhkhejiaaAbTree
namespace Go.Proofs.Ytoadgajhkhejiaa
open Go Go.Ab
abbrev a9T : AV := .pl (.bool true)
abbrev a9F : AV := .pl (.bool false)
abbrev a90 : Ob := .row 1 [a9T, a9F, a9F, a9F, a9F, a9F, a9F, a9F, a9F, a9F, a9F, a9F, a9F, a9F, a9F, a9F, a9F, a9F, a9F, a9F, a9F, a9F, a9F, a9F, a9F]
abbrev a91 : Ob := .row 1 [a9F, a9F, a9F, a9F, a9F, a9F, a9F, a9F, a9F, a9F, a9F, a9F, a9F, a9F, a9F, a9F, a9F, a9F, a9F, a9F, a9F, a9F, a9F, a9F, a9F]
abbrev a92 : AV := .pl (.string ⟨#[97, 98, 97, 98, 97, 98, 97, 98, 97, 98, 97, 98, 97, 98, 97, 98, 97, 98, 97, 98, 97, 98, 97, 98]⟩)
abbrev a93 : AV := .agg [.pl (.int .i64 1), .pl (.int .u64 0), .pl (.int .u64 8589934592), .pl (.int .u64 0), .pl (.int .u64 0), .nils]
abbrev a94 : AV := .agg [.pl (.int .i64 1), .pl (.int .u64 0), .pl (.int .u64 17179869184), .pl (.int .u64 0), .pl (.int .u64 0), .nils]
abbrev a95 : AV := .sl 1 [a9T, a9F, a9T, a9F, a9T, a9F, a9T, a9F, a9T, a9F, a9T, a9F, a9T, a9F, a9T, a9F, a9T, a9F, a9T, a9F, a9T, a9F, a9T, a9F, a9T]
abbrev a96 : AV := .agg [.pl (.int .i64 4), .pl (.int .u64 0), .pl (.int .u64 0), .pl (.int .u64 0), .pl (.int .u64 0), .sl 6 [.agg [.pl (.int .i64 2), .pl (.int .u64 0), .pl (.int .u64 0), .pl (.int .u64 0), .pl (.int .u64 0), .sl 6 [a93, a94]]]]
/- 471 steps -/
theorem tk5_60_ok : Ans Try.prog 121 [a93, a92, .osl 1 25] [a90, a90, a91] (.sl 1 [a9F, a9T, a9F, a9F, a9F, a9F, a9F, a9F, a9F, a9F, a9F, a9F, a9F, a9F, a9F, a9F, a9F, a9F, a9F, a9F, a9F, a9F, a9F, a9F, a9F]) [a90, a90, a91] := evFT_ok allF extF [] 300 100 _ _ _ _ _ (by kernel_rfl)
def tk5_60 : Memo Try.prog := ⟨_, _, _, _, _, tk5_60_ok⟩

/- 471 steps -/
theorem tk5_61_ok : Ans Try.prog 121 [a94, a92, .sl 1 [a9F, a9T, a9F, a9F, a9F, a9F, a9F, a9F, a9F, a9F, a9F, a9F, a9F, a9F, a9F, a9F, a9F, a9F, a9F, a9F, a9F, a9F, a9F, a9F, a9F]] [a90, a90, a91] (.sl 1 [a9F, a9F, a9T, a9F, a9F, a9F, a9F, a9F, a9F, a9F, a9F, a9F, a9F, a9F, a9F, a9F, a9F, a9F, a9F, a9F, a9F, a9F, a9F, a9F, a9F]) [a90, a90, a91] := evFT_ok allF extF [tk5_60] 300 100 _ _ _ _ _ (by kernel_rfl)
def tk5_61 : Memo Try.prog := ⟨_, _, _, _, _, tk5_61_ok⟩

/- 537 steps -/
theorem tk5_62_ok : Ans Try.prog 137 [.osl 1 25, .sl 1 [a9F, a9F, a9T, a9F, a9F, a9F, a9F, a9F, a9F, a9F, a9F, a9F, a9F, a9F, a9F, a9F, a9F, a9F, a9F, a9F, a9F, a9F, a9F, a9F, a9F]] [a90, a90] (.sl 1 [a9T, a9F, a9T, a9F, a9F, a9F, a9F, a9F, a9F, a9F, a9F, a9F, a9F, a9F, a9F, a9F, a9F, a9F, a9F, a9F, a9F, a9F, a9F, a9F, a9F]) [a90, a90] := evFT_ok allF extF [tk5_60, tk5_61] 300 100 _ _ _ _ _ (by kernel_rfl)
def tk5_62 : Memo Try.prog := ⟨_, _, _, _, _, tk5_62_ok⟩

/- 492 steps -/
theorem tk5_63_ok : Ans Try.prog 121 [a93, a92, .sl 1 [a9T, a9F, a9T, a9F, a9F, a9F, a9F, a9F, a9F, a9F, a9F, a9F, a9F, a9F, a9F, a9F, a9F, a9F, a9F, a9F, a9F, a9F, a9F, a9F, a9F]] [a90, a90, a91] (.sl 1 [a9F, a9T, a9F, a9T, a9F, a9F, a9F, a9F, a9F, a9F, a9F, a9F, a9F, a9F, a9F, a9F, a9F, a9F, a9F, a9F, a9F, a9F, a9F, a9F, a9F]) [a90, a90, a91] := evFT_ok allF extF [tk5_60, tk5_61, tk5_62] 300 100 _ _ _ _ _ (by kernel_rfl)
def tk5_63 : Memo Try.prog := ⟨_, _, _, _, _, tk5_63_ok⟩

/- 492 steps -/
theorem tk5_64_ok : Ans Try.prog 121 [a94, a92, .sl 1 [a9F, a9T, a9F, a9T, a9F, a9F, a9F, a9F, a9F, a9F, a9F, a9F, a9F, a9F, a9F, a9F, a9F, a9F, a9F, a9F, a9F, a9F, a9F, a9F, a9F]] [a90, a90, a91] (.sl 1 [a9F, a9F, a9T, a9F, a9T, a9F, a9F, a9F, a9F, a9F, a9F, a9F, a9F, a9F, a9F, a9F, a9F, a9F, a9F, a9F, a9F, a9F, a9F, a9F, a9F]) [a90, a90, a91] := evFT_ok allF extF [tk5_60, tk5_61, tk5_62, tk5_63] 300 100 _ _ _ _ _ (by kernel_rfl)
def tk5_64 : Memo Try.prog := ⟨_, _, _, _, _, tk5_64_ok⟩

/- 537 steps -/
theorem tk5_65_ok : Ans Try.prog 137 [.sl 1 [a9T, a9F, a9T, a9F, a9F, a9F, a9F, a9F, a9F, a9F, a9F, a9F, a9F, a9F, a9F, a9F, a9F, a9F, a9F, a9F, a9F, a9F, a9F, a9F, a9F], .sl 1 [a9F, a9F, a9T, a9F, a9T, a9F, a9F, a9F, a9F, a9F, a9F, a9F, a9F, a9F, a9F, a9F, a9F, a9F, a9F, a9F, a9F, a9F, a9F, a9F, a9F]] [a90, a90] (.sl 1 [a9T, a9F, a9T, a9F, a9T, a9F, a9F, a9F, a9F, a9F, a9F, a9F, a9F, a9F, a9F, a9F, a9F, a9F, a9F, a9F, a9F, a9F, a9F, a9F, a9F]) [a90, a90] := evFT_ok allF extF [tk5_60, tk5_61, tk5_62, tk5_63, tk5_64] 300 100 _ _ _ _ _ (by kernel_rfl)
def tk5_65 : Memo Try.prog := ⟨_, _, _, _, _, tk5_65_ok⟩

/- 513 steps -/
theorem tk5_66_ok : Ans Try.prog 121 [a93, a92, .sl 1 [a9T, a9F, a9T, a9F, a9T, a9F, a9F, a9F, a9F, a9F, a9F, a9F, a9F, a9F, a9F, a9F, a9F, a9F, a9F, a9F, a9F, a9F, a9F, a9F, a9F]] [a90, a90, a91] (.sl 1 [a9F, a9T, a9F, a9T, a9F, a9T, a9F, a9F, a9F, a9F, a9F, a9F, a9F, a9F, a9F, a9F, a9F, a9F, a9F, a9F, a9F, a9F, a9F, a9F, a9F]) [a90, a90, a91] := evFT_ok allF extF [tk5_60, tk5_61, tk5_62, tk5_63, tk5_64, tk5_65] 300 100 _ _ _ _ _ (by kernel_rfl)
def tk5_66 : Memo Try.prog := ⟨_, _, _, _, _, tk5_66_ok⟩

/- 513 steps -/
theorem tk5_67_ok : Ans Try.prog 121 [a94, a92, .sl 1 [a9F, a9T, a9F, a9T, a9F, a9T, a9F, a9F, a9F, a9F, a9F, a9F, a9F, a9F, a9F, a9F, a9F, a9F, a9F, a9F, a9F, a9F, a9F, a9F, a9F]] [a90, a90, a91] (.sl 1 [a9F, a9F, a9T, a9F, a9T, a9F, a9T, a9F, a9F, a9F, a9F, a9F, a9F, a9F, a9F, a9F, a9F, a9F, a9F, a9F, a9F, a9F, a9F, a9F, a9F]) [a90, a90, a91] := evFT_ok allF extF [tk5_60, tk5_61, tk5_62, tk5_63, tk5_64, tk5_65, tk5_66] 300 100 _ _ _ _ _ (by kernel_rfl)
def tk5_67 : Memo Try.prog := ⟨_, _, _, _, _, tk5_67_ok⟩

/- 537 steps -/
theorem tk5_68_ok : Ans Try.prog 137 [.sl 1 [a9T, a9F, a9T, a9F, a9T, a9F, a9F, a9F, a9F, a9F, a9F, a9F, a9F, a9F, a9F, a9F, a9F, a9F, a9F, a9F, a9F, a9F, a9F, a9F, a9F], .sl 1 [a9F, a9F, a9T, a9F, a9T, a9F, a9T, a9F, a9F, a9F, a9F, a9F, a9F, a9F, a9F, a9F, a9F, a9F, a9F, a9F, a9F, a9F, a9F, a9F, a9F]] [a90, a90] (.sl 1 [a9T, a9F, a9T, a9F, a9T, a9F, a9T, a9F, a9F, a9F, a9F, a9F, a9F, a9F, a9F, a9F, a9F, a9F, a9F, a9F, a9F, a9F, a9F, a9F, a9F]) [a90, a90] := evFT_ok allF extF [tk5_60, tk5_61, tk5_62, tk5_63, tk5_64, tk5_65, tk5_66, tk5_67] 300 100 _ _ _ _ _ (by kernel_rfl)
def tk5_68 : Memo Try.prog := ⟨_, _, _, _, _, tk5_68_ok⟩

/- 534 steps -/
theorem tk5_69_ok : Ans Try.prog 121 [a93, a92, .sl 1 [a9T, a9F, a9T, a9F, a9T, a9F, a9T, a9F, a9F, a9F, a9F, a9F, a9F, a9F, a9F, a9F, a9F, a9F, a9F, a9F, a9F, a9F, a9F, a9F, a9F]] [a90, a90, a91] (.sl 1 [a9F, a9T, a9F, a9T, a9F, a9T, a9F, a9T, a9F, a9F, a9F, a9F, a9F, a9F, a9F, a9F, a9F, a9F, a9F, a9F, a9F, a9F, a9F, a9F, a9F]) [a90, a90, a91] := evFT_ok allF extF [tk5_60, tk5_61, tk5_62, tk5_63, tk5_64, tk5_65, tk5_66, tk5_67, tk5_68] 300 100 _ _ _ _ _ (by kernel_rfl)
def tk5_69 : Memo Try.prog := ⟨_, _, _, _, _, tk5_69_ok⟩

/- 534 steps -/
theorem tk5_610_ok : Ans Try.prog 121 [a94, a92, .sl 1 [a9F, a9T, a9F, a9T, a9F, a9T, a9F, a9T, a9F, a9F, a9F, a9F, a9F, a9F, a9F, a9F, a9F, a9F, a9F, a9F, a9F, a9F, a9F, a9F, a9F]] [a90, a90, a91] (.sl 1 [a9F, a9F, a9T, a9F, a9T, a9F, a9T, a9F, a9T, a9F, a9F, a9F, a9F, a9F, a9F, a9F, a9F, a9F, a9F, a9F, a9F, a9F, a9F, a9F, a9F]) [a90, a90, a91] := evFT_ok allF extF [tk5_60, tk5_61, tk5_62, tk5_63, tk5_64, tk5_65, tk5_66, tk5_67, tk5_68, tk5_69] 300 100 _ _ _ _ _ (by kernel_rfl)
def tk5_610 : Memo Try.prog := ⟨_, _, _, _, _, tk5_610_ok⟩

/- 537 steps -/
theorem tk5_611_ok : Ans Try.prog 137 [.sl 1 [a9T, a9F, a9T, a9F, a9T, a9F, a9T, a9F, a9F, a9F, a9F, a9F, a9F, a9F, a9F, a9F, a9F, a9F, a9F, a9F, a9F, a9F, a9F, a9F, a9F], .sl 1 [a9F, a9F, a9T, a9F, a9T, a9F, a9T, a9F, a9T, a9F, a9F, a9F, a9F, a9F, a9F, a9F, a9F, a9F, a9F, a9F, a9F, a9F, a9F, a9F, a9F]] [a90, a90] (.sl 1 [a9T, a9F, a9T, a9F, a9T, a9F, a9T, a9F, a9T, a9F, a9F, a9F, a9F, a9F, a9F, a9F, a9F, a9F, a9F, a9F, a9F, a9F, a9F, a9F, a9F]) [a90, a90] := evFT_ok allF extF [tk5_60, tk5_61, tk5_62, tk5_63, tk5_64, tk5_65, tk5_66, tk5_67, tk5_68, tk5_69, tk5_610] 300 100 _ _ _ _ _ (by kernel_rfl)
def tk5_611 : Memo Try.prog := ⟨_, _, _, _, _, tk5_611_ok⟩

/- 555 steps -/
theorem tk5_612_ok : Ans Try.prog 121 [a93, a92, .sl 1 [a9T, a9F, a9T, a9F, a9T, a9F, a9T, a9F, a9T, a9F, a9F, a9F, a9F, a9F, a9F, a9F, a9F, a9F, a9F, a9F, a9F, a9F, a9F, a9F, a9F]] [a90, a90, a91] (.sl 1 [a9F, a9T, a9F, a9T, a9F, a9T, a9F, a9T, a9F, a9T, a9F, a9F, a9F, a9F, a9F, a9F, a9F, a9F, a9F, a9F, a9F, a9F, a9F, a9F, a9F]) [a90, a90, a91] := evFT_ok allF extF [tk5_60, tk5_61, tk5_62, tk5_63, tk5_64, tk5_65, tk5_66, tk5_67, tk5_68, tk5_69, tk5_610, tk5_611] 300 100 _ _ _ _ _ (by kernel_rfl)
def tk5_612 : Memo Try.prog := ⟨_, _, _, _, _, tk5_612_ok⟩

/- 555 steps -/
theorem tk5_613_ok : Ans Try.prog 121 [a94, a92, .sl 1 [a9F, a9T, a9F, a9T, a9F, a9T, a9F, a9T, a9F, a9T, a9F, a9F, a9F, a9F, a9F, a9F, a9F, a9F, a9F, a9F, a9F, a9F, a9F, a9F, a9F]] [a90, a90, a91] (.sl 1 [a9F, a9F, a9T, a9F, a9T, a9F, a9T, a9F, a9T, a9F, a9T, a9F, a9F, a9F, a9F, a9F, a9F, a9F, a9F, a9F, a9F, a9F, a9F, a9F, a9F]) [a90, a90, a91] := evFT_ok allF extF [tk5_60, tk5_61, tk5_62, tk5_63, tk5_64, tk5_65, tk5_66, tk5_67, tk5_68, tk5_69, tk5_610, tk5_611, tk5_612] 300 100 _ _ _ _ _ (by kernel_rfl)
def tk5_613 : Memo Try.prog := ⟨_, _, _, _, _, tk5_613_ok⟩

/- 537 steps -/
theorem tk5_614_ok : Ans Try.prog 137 [.sl 1 [a9T, a9F, a9T, a9F, a9T, a9F, a9T, a9F, a9T, a9F, a9F, a9F, a9F, a9F, a9F, a9F, a9F, a9F, a9F, a9F, a9F, a9F, a9F, a9F, a9F], .sl 1 [a9F, a9F, a9T, a9F, a9T, a9F, a9T, a9F, a9T, a9F, a9T, a9F, a9F, a9F, a9F, a9F, a9F, a9F, a9F, a9F, a9F, a9F, a9F, a9F, a9F]] [a90, a90] (.sl 1 [a9T, a9F, a9T, a9F, a9T, a9F, a9T, a9F, a9T, a9F, a9T, a9F, a9F, a9F, a9F, a9F, a9F, a9F, a9F, a9F, a9F, a9F, a9F, a9F, a9F]) [a90, a90] := evFT_ok allF extF [tk5_60, tk5_61, tk5_62, tk5_63, tk5_64, tk5_65, tk5_66, tk5_67, tk5_68, tk5_69, tk5_610, tk5_611, tk5_612, tk5_613] 300 100 _ _ _ _ _ (by kernel_rfl)
def tk5_614 : Memo Try.prog := ⟨_, _, _, _, _, tk5_614_ok⟩

/- 576 steps -/
theorem tk5_615_ok : Ans Try.prog 121 [a93, a92, .sl 1 [a9T, a9F, a9T, a9F, a9T, a9F, a9T, a9F, a9T, a9F, a9T, a9F, a9F, a9F, a9F, a9F, a9F, a9F, a9F, a9F, a9F, a9F, a9F, a9F, a9F]] [a90, a90, a91] (.sl 1 [a9F, a9T, a9F, a9T, a9F, a9T, a9F, a9T, a9F, a9T, a9F, a9T, a9F, a9F, a9F, a9F, a9F, a9F, a9F, a9F, a9F, a9F, a9F, a9F, a9F]) [a90, a90, a91] := evFT_ok allF extF [tk5_60, tk5_61, tk5_62, tk5_63, tk5_64, tk5_65, tk5_66, tk5_67, tk5_68, tk5_69, tk5_610, tk5_611, tk5_612, tk5_613, tk5_614] 300 100 _ _ _ _ _ (by kernel_rfl)
def tk5_615 : Memo Try.prog := ⟨_, _, _, _, _, tk5_615_ok⟩

/- 576 steps -/
theorem tk5_616_ok : Ans Try.prog 121 [a94, a92, .sl 1 [a9F, a9T, a9F, a9T, a9F, a9T, a9F, a9T, a9F, a9T, a9F, a9T, a9F, a9F, a9F, a9F, a9F, a9F, a9F, a9F, a9F, a9F, a9F, a9F, a9F]] [a90, a90, a91] (.sl 1 [a9F, a9F, a9T, a9F, a9T, a9F, a9T, a9F, a9T, a9F, a9T, a9F, a9T, a9F, a9F, a9F, a9F, a9F, a9F, a9F, a9F, a9F, a9F, a9F, a9F]) [a90, a90, a91] := evFT_ok allF extF [tk5_60, tk5_61, tk5_62, tk5_63, tk5_64, tk5_65, tk5_66, tk5_67, tk5_68, tk5_69, tk5_610, tk5_611, tk5_612, tk5_613, tk5_614, tk5_615] 300 100 _ _ _ _ _ (by kernel_rfl)
def tk5_616 : Memo Try.prog := ⟨_, _, _, _, _, tk5_616_ok⟩

/- 537 steps -/
theorem tk5_617_ok : Ans Try.prog 137 [.sl 1 [a9T, a9F, a9T, a9F, a9T, a9F, a9T, a9F, a9T, a9F, a9T, a9F, a9F, a9F, a9F, a9F, a9F, a9F, a9F, a9F, a9F, a9F, a9F, a9F, a9F], .sl 1 [a9F, a9F, a9T, a9F, a9T, a9F, a9T, a9F, a9T, a9F, a9T, a9F, a9T, a9F, a9F, a9F, a9F, a9F, a9F, a9F, a9F, a9F, a9F, a9F, a9F]] [a90, a90] (.sl 1 [a9T, a9F, a9T, a9F, a9T, a9F, a9T, a9F, a9T, a9F, a9T, a9F, a9T, a9F, a9F, a9F, a9F, a9F, a9F, a9F, a9F, a9F, a9F, a9F, a9F]) [a90, a90] := evFT_ok allF extF [tk5_60, tk5_61, tk5_62, tk5_63, tk5_64, tk5_65, tk5_66, tk5_67, tk5_68, tk5_69, tk5_610, tk5_611, tk5_612, tk5_613, tk5_614, tk5_615, tk5_616] 300 100 _ _ _ _ _ (by kernel_rfl)
def tk5_617 : Memo Try.prog := ⟨_, _, _, _, _, tk5_617_ok⟩

/- 597 steps -/
theorem tk5_618_ok : Ans Try.prog 121 [a93, a92, .sl 1 [a9T, a9F, a9T, a9F, a9T, a9F, a9T, a9F, a9T, a9F, a9T, a9F, a9T, a9F, a9F, a9F, a9F, a9F, a9F, a9F, a9F, a9F, a9F, a9F, a9F]] [a90, a90, a91] (.sl 1 [a9F, a9T, a9F, a9T, a9F, a9T, a9F, a9T, a9F, a9T, a9F, a9T, a9F, a9T, a9F, a9F, a9F, a9F, a9F, a9F, a9F, a9F, a9F, a9F, a9F]) [a90, a90, a91] := evFT_ok allF extF [tk5_60, tk5_61, tk5_62, tk5_63, tk5_64, tk5_65, tk5_66, tk5_67, tk5_68, tk5_69, tk5_610, tk5_611, tk5_612, tk5_613, tk5_614, tk5_615, tk5_616, tk5_617] 300 100 _ _ _ _ _ (by kernel_rfl)
def tk5_618 : Memo Try.prog := ⟨_, _, _, _, _, tk5_618_ok⟩

/- 597 steps -/
theorem tk5_619_ok : Ans Try.prog 121 [a94, a92, .sl 1 [a9F, a9T, a9F, a9T, a9F, a9T, a9F, a9T, a9F, a9T, a9F, a9T, a9F, a9T, a9F, a9F, a9F, a9F, a9F, a9F, a9F, a9F, a9F, a9F, a9F]] [a90, a90, a91] (.sl 1 [a9F, a9F, a9T, a9F, a9T, a9F, a9T, a9F, a9T, a9F, a9T, a9F, a9T, a9F, a9T, a9F, a9F, a9F, a9F, a9F, a9F, a9F, a9F, a9F, a9F]) [a90, a90, a91] := evFT_ok allF extF [tk5_60, tk5_61, tk5_62, tk5_63, tk5_64, tk5_65, tk5_66, tk5_67, tk5_68, tk5_69, tk5_610, tk5_611, tk5_612, tk5_613, tk5_614, tk5_615, tk5_616, tk5_617, tk5_618] 300 100 _ _ _ _ _ (by kernel_rfl)
def tk5_619 : Memo Try.prog := ⟨_, _, _, _, _, tk5_619_ok⟩

/- 537 steps -/
theorem tk5_620_ok : Ans Try.prog 137 [.sl 1 [a9T, a9F, a9T, a9F, a9T, a9F, a9T, a9F, a9T, a9F, a9T, a9F, a9T, a9F, a9F, a9F, a9F, a9F, a9F, a9F, a9F, a9F, a9F, a9F, a9F], .sl 1 [a9F, a9F, a9T, a9F, a9T, a9F, a9T, a9F, a9T, a9F, a9T, a9F, a9T, a9F, a9T, a9F, a9F, a9F, a9F, a9F, a9F, a9F, a9F, a9F, a9F]] [a90, a90] (.sl 1 [a9T, a9F, a9T, a9F, a9T, a9F, a9T, a9F, a9T, a9F, a9T, a9F, a9T, a9F, a9T, a9F, a9F, a9F, a9F, a9F, a9F, a9F, a9F, a9F, a9F]) [a90, a90] := evFT_ok allF extF [tk5_60, tk5_61, tk5_62, tk5_63, tk5_64, tk5_65, tk5_66, tk5_67, tk5_68, tk5_69, tk5_610, tk5_611, tk5_612, tk5_613, tk5_614, tk5_615, tk5_616, tk5_617, tk5_618, tk5_619] 300 100 _ _ _ _ _ (by kernel_rfl)
def tk5_620 : Memo Try.prog := ⟨_, _, _, _, _, tk5_620_ok⟩

/- 618 steps -/
theorem tk5_621_ok : Ans Try.prog 121 [a93, a92, .sl 1 [a9T, a9F, a9T, a9F, a9T, a9F, a9T, a9F, a9T, a9F, a9T, a9F, a9T, a9F, a9T, a9F, a9F, a9F, a9F, a9F, a9F, a9F, a9F, a9F, a9F]] [a90, a90, a91] (.sl 1 [a9F, a9T, a9F, a9T, a9F, a9T, a9F, a9T, a9F, a9T, a9F, a9T, a9F, a9T, a9F, a9T, a9F, a9F, a9F, a9F, a9F, a9F, a9F, a9F, a9F]) [a90, a90, a91] := evFT_ok allF extF [tk5_60, tk5_61, tk5_62, tk5_63, tk5_64, tk5_65, tk5_66, tk5_67, tk5_68, tk5_69, tk5_610, tk5_611, tk5_612, tk5_613, tk5_614, tk5_615, tk5_616, tk5_617, tk5_618, tk5_619, tk5_620] 300 100 _ _ _ _ _ (by kernel_rfl)
def tk5_621 : Memo Try.prog := ⟨_, _, _, _, _, tk5_621_ok⟩

/- 618 steps -/
theorem tk5_622_ok : Ans Try.prog 121 [a94, a92, .sl 1 [a9F, a9T, a9F, a9T, a9F, a9T, a9F, a9T, a9F, a9T, a9F, a9T, a9F, a9T, a9F, a9T, a9F, a9F, a9F, a9F, a9F, a9F, a9F, a9F, a9F]] [a90, a90, a91] (.sl 1 [a9F, a9F, a9T, a9F, a9T, a9F, a9T, a9F, a9T, a9F, a9T, a9F, a9T, a9F, a9T, a9F, a9T, a9F, a9F, a9F, a9F, a9F, a9F, a9F, a9F]) [a90, a90, a91] := evFT_ok allF extF [tk5_60, tk5_61, tk5_62, tk5_63, tk5_64, tk5_65, tk5_66, tk5_67, tk5_68, tk5_69, tk5_610, tk5_611, tk5_612, tk5_613, tk5_614, tk5_615, tk5_616, tk5_617, tk5_618, tk5_619, tk5_620, tk5_621] 300 100 _ _ _ _ _ (by kernel_rfl)
def tk5_622 : Memo Try.prog := ⟨_, _, _, _, _, tk5_622_ok⟩

/- 537 steps -/
theorem tk5_623_ok : Ans Try.prog 137 [.sl 1 [a9T, a9F, a9T, a9F, a9T, a9F, a9T, a9F, a9T, a9F, a9T, a9F, a9T, a9F, a9T, a9F, a9F, a9F, a9F, a9F, a9F, a9F, a9F, a9F, a9F], .sl 1 [a9F, a9F, a9T, a9F, a9T, a9F, a9T, a9F, a9T, a9F, a9T, a9F, a9T, a9F, a9T, a9F, a9T, a9F, a9F, a9F, a9F, a9F, a9F, a9F, a9F]] [a90, a90] (.sl 1 [a9T, a9F, a9T, a9F, a9T, a9F, a9T, a9F, a9T, a9F, a9T, a9F, a9T, a9F, a9T, a9F, a9T, a9F, a9F, a9F, a9F, a9F, a9F, a9F, a9F]) [a90, a90] := evFT_ok allF extF [tk5_60, tk5_61, tk5_62, tk5_63, tk5_64, tk5_65, tk5_66, tk5_67, tk5_68, tk5_69, tk5_610, tk5_611, tk5_612, tk5_613, tk5_614, tk5_615, tk5_616, tk5_617, tk5_618, tk5_619, tk5_620, tk5_621, tk5_622] 300 100 _ _ _ _ _ (by kernel_rfl)
def tk5_623 : Memo Try.prog := ⟨_, _, _, _, _, tk5_623_ok⟩

/- 639 steps -/
theorem tk5_624_ok : Ans Try.prog 121 [a93, a92, .sl 1 [a9T, a9F, a9T, a9F, a9T, a9F, a9T, a9F, a9T, a9F, a9T, a9F, a9T, a9F, a9T, a9F, a9T, a9F, a9F, a9F, a9F, a9F, a9F, a9F, a9F]] [a90, a90, a91] (.sl 1 [a9F, a9T, a9F, a9T, a9F, a9T, a9F, a9T, a9F, a9T, a9F, a9T, a9F, a9T, a9F, a9T, a9F, a9T, a9F, a9F, a9F, a9F, a9F, a9F, a9F]) [a90, a90, a91] := evFT_ok allF extF [tk5_60, tk5_61, tk5_62, tk5_63, tk5_64, tk5_65, tk5_66, tk5_67, tk5_68, tk5_69, tk5_610, tk5_611, tk5_612, tk5_613, tk5_614, tk5_615, tk5_616, tk5_617, tk5_618, tk5_619, tk5_620, tk5_621, tk5_622, tk5_623] 300 100 _ _ _ _ _ (by kernel_rfl)
def tk5_624 : Memo Try.prog := ⟨_, _, _, _, _, tk5_624_ok⟩

/- 639 steps -/
theorem tk5_625_ok : Ans Try.prog 121 [a94, a92, .sl 1 [a9F, a9T, a9F, a9T, a9F, a9T, a9F, a9T, a9F, a9T, a9F, a9T, a9F, a9T, a9F, a9T, a9F, a9T, a9F, a9F, a9F, a9F, a9F, a9F, a9F]] [a90, a90, a91] (.sl 1 [a9F, a9F, a9T, a9F, a9T, a9F, a9T, a9F, a9T, a9F, a9T, a9F, a9T, a9F, a9T, a9F, a9T, a9F, a9T, a9F, a9F, a9F, a9F, a9F, a9F]) [a90, a90, a91] := evFT_ok allF extF [tk5_60, tk5_61, tk5_62, tk5_63, tk5_64, tk5_65, tk5_66, tk5_67, tk5_68, tk5_69, tk5_610, tk5_611, tk5_612, tk5_613, tk5_614, tk5_615, tk5_616, tk5_617, tk5_618, tk5_619, tk5_620, tk5_621, tk5_622, tk5_623, tk5_624] 300 100 _ _ _ _ _ (by kernel_rfl)
def tk5_625 : Memo Try.prog := ⟨_, _, _, _, _, tk5_625_ok⟩

/- 537 steps -/
theorem tk5_626_ok : Ans Try.prog 137 [.sl 1 [a9T, a9F, a9T, a9F, a9T, a9F, a9T, a9F, a9T, a9F, a9T, a9F, a9T, a9F, a9T, a9F, a9T, a9F, a9F, a9F, a9F, a9F, a9F, a9F, a9F], .sl 1 [a9F, a9F, a9T, a9F, a9T, a9F, a9T, a9F, a9T, a9F, a9T, a9F, a9T, a9F, a9T, a9F, a9T, a9F, a9T, a9F, a9F, a9F, a9F, a9F, a9F]] [a90, a90] (.sl 1 [a9T, a9F, a9T, a9F, a9T, a9F, a9T, a9F, a9T, a9F, a9T, a9F, a9T, a9F, a9T, a9F, a9T, a9F, a9T, a9F, a9F, a9F, a9F, a9F, a9F]) [a90, a90] := evFT_ok allF extF [tk5_60, tk5_61, tk5_62, tk5_63, tk5_64, tk5_65, tk5_66, tk5_67, tk5_68, tk5_69, tk5_610, tk5_611, tk5_612, tk5_613, tk5_614, tk5_615, tk5_616, tk5_617, tk5_618, tk5_619, tk5_620, tk5_621, tk5_622, tk5_623, tk5_624, tk5_625] 300 100 _ _ _ _ _ (by kernel_rfl)
def tk5_626 : Memo Try.prog := ⟨_, _, _, _, _, tk5_626_ok⟩

/- 660 steps -/
theorem tk5_627_ok : Ans Try.prog 121 [a93, a92, .sl 1 [a9T, a9F, a9T, a9F, a9T, a9F, a9T, a9F, a9T, a9F, a9T, a9F, a9T, a9F, a9T, a9F, a9T, a9F, a9T, a9F, a9F, a9F, a9F, a9F, a9F]] [a90, a90, a91] (.sl 1 [a9F, a9T, a9F, a9T, a9F, a9T, a9F, a9T, a9F, a9T, a9F, a9T, a9F, a9T, a9F, a9T, a9F, a9T, a9F, a9T, a9F, a9F, a9F, a9F, a9F]) [a90, a90, a91] := evFT_ok allF extF [tk5_60, tk5_61, tk5_62, tk5_63, tk5_64, tk5_65, tk5_66, tk5_67, tk5_68, tk5_69, tk5_610, tk5_611, tk5_612, tk5_613, tk5_614, tk5_615, tk5_616, tk5_617, tk5_618, tk5_619, tk5_620, tk5_621, tk5_622, tk5_623, tk5_624, tk5_625, tk5_626] 300 100 _ _ _ _ _ (by kernel_rfl)
def tk5_627 : Memo Try.prog := ⟨_, _, _, _, _, tk5_627_ok⟩

/- 660 steps -/
theorem tk5_628_ok : Ans Try.prog 121 [a94, a92, .sl 1 [a9F, a9T, a9F, a9T, a9F, a9T, a9F, a9T, a9F, a9T, a9F, a9T, a9F, a9T, a9F, a9T, a9F, a9T, a9F, a9T, a9F, a9F, a9F, a9F, a9F]] [a90, a90, a91] (.sl 1 [a9F, a9F, a9T, a9F, a9T, a9F, a9T, a9F, a9T, a9F, a9T, a9F, a9T, a9F, a9T, a9F, a9T, a9F, a9T, a9F, a9T, a9F, a9F, a9F, a9F]) [a90, a90, a91] := evFT_ok allF extF [tk5_60, tk5_61, tk5_62, tk5_63, tk5_64, tk5_65, tk5_66, tk5_67, tk5_68, tk5_69, tk5_610, tk5_611, tk5_612, tk5_613, tk5_614, tk5_615, tk5_616, tk5_617, tk5_618, tk5_619, tk5_620, tk5_621, tk5_622, tk5_623, tk5_624, tk5_625, tk5_626, tk5_627] 300 100 _ _ _ _ _ (by kernel_rfl)
def tk5_628 : Memo Try.prog := ⟨_, _, _, _, _, tk5_628_ok⟩

/- 537 steps -/
theorem tk5_629_ok : Ans Try.prog 137 [.sl 1 [a9T, a9F, a9T, a9F, a9T, a9F, a9T, a9F, a9T, a9F, a9T, a9F, a9T, a9F, a9T, a9F, a9T, a9F, a9T, a9F, a9F, a9F, a9F, a9F, a9F], .sl 1 [a9F, a9F, a9T, a9F, a9T, a9F, a9T, a9F, a9T, a9F, a9T, a9F, a9T, a9F, a9T, a9F, a9T, a9F, a9T, a9F, a9T, a9F, a9F, a9F, a9F]] [a90, a90] (.sl 1 [a9T, a9F, a9T, a9F, a9T, a9F, a9T, a9F, a9T, a9F, a9T, a9F, a9T, a9F, a9T, a9F, a9T, a9F, a9T, a9F, a9T, a9F, a9F, a9F, a9F]) [a90, a90] := evFT_ok allF extF [tk5_60, tk5_61, tk5_62, tk5_63, tk5_64, tk5_65, tk5_66, tk5_67, tk5_68, tk5_69, tk5_610, tk5_611, tk5_612, tk5_613, tk5_614, tk5_615, tk5_616, tk5_617, tk5_618, tk5_619, tk5_620, tk5_621, tk5_622, tk5_623, tk5_624, tk5_625, tk5_626, tk5_627, tk5_628] 300 100 _ _ _ _ _ (by kernel_rfl)
def tk5_629 : Memo Try.prog := ⟨_, _, _, _, _, tk5_629_ok⟩

/- 681 steps -/
theorem tk5_630_ok : Ans Try.prog 121 [a93, a92, .sl 1 [a9T, a9F, a9T, a9F, a9T, a9F, a9T, a9F, a9T, a9F, a9T, a9F, a9T, a9F, a9T, a9F, a9T, a9F, a9T, a9F, a9T, a9F, a9F, a9F, a9F]] [a90, a90, a91] (.sl 1 [a9F, a9T, a9F, a9T, a9F, a9T, a9F, a9T, a9F, a9T, a9F, a9T, a9F, a9T, a9F, a9T, a9F, a9T, a9F, a9T, a9F, a9T, a9F, a9F, a9F]) [a90, a90, a91] := evFT_ok allF extF [tk5_60, tk5_61, tk5_62, tk5_63, tk5_64, tk5_65, tk5_66, tk5_67, tk5_68, tk5_69, tk5_610, tk5_611, tk5_612, tk5_613, tk5_614, tk5_615, tk5_616, tk5_617, tk5_618, tk5_619, tk5_620, tk5_621, tk5_622, tk5_623, tk5_624, tk5_625, tk5_626, tk5_627, tk5_628, tk5_629] 300 100 _ _ _ _ _ (by kernel_rfl)
def tk5_630 : Memo Try.prog := ⟨_, _, _, _, _, tk5_630_ok⟩

/- 681 steps -/
theorem tk5_631_ok : Ans Try.prog 121 [a94, a92, .sl 1 [a9F, a9T, a9F, a9T, a9F, a9T, a9F, a9T, a9F, a9T, a9F, a9T, a9F, a9T, a9F, a9T, a9F, a9T, a9F, a9T, a9F, a9T, a9F, a9F, a9F]] [a90, a90, a91] (.sl 1 [a9F, a9F, a9T, a9F, a9T, a9F, a9T, a9F, a9T, a9F, a9T, a9F, a9T, a9F, a9T, a9F, a9T, a9F, a9T, a9F, a9T, a9F, a9T, a9F, a9F]) [a90, a90, a91] := evFT_ok allF extF [tk5_60, tk5_61, tk5_62, tk5_63, tk5_64, tk5_65, tk5_66, tk5_67, tk5_68, tk5_69, tk5_610, tk5_611, tk5_612, tk5_613, tk5_614, tk5_615, tk5_616, tk5_617, tk5_618, tk5_619, tk5_620, tk5_621, tk5_622, tk5_623, tk5_624, tk5_625, tk5_626, tk5_627, tk5_628, tk5_629, tk5_630] 300 100 _ _ _ _ _ (by kernel_rfl)
def tk5_631 : Memo Try.prog := ⟨_, _, _, _, _, tk5_631_ok⟩

/- 537 steps -/
theorem tk5_632_ok : Ans Try.prog 137 [.sl 1 [a9T, a9F, a9T, a9F, a9T, a9F, a9T, a9F, a9T, a9F, a9T, a9F, a9T, a9F, a9T, a9F, a9T, a9F, a9T, a9F, a9T, a9F, a9F, a9F, a9F], .sl 1 [a9F, a9F, a9T, a9F, a9T, a9F, a9T, a9F, a9T, a9F, a9T, a9F, a9T, a9F, a9T, a9F, a9T, a9F, a9T, a9F, a9T, a9F, a9T, a9F, a9F]] [a90, a90] (.sl 1 [a9T, a9F, a9T, a9F, a9T, a9F, a9T, a9F, a9T, a9F, a9T, a9F, a9T, a9F, a9T, a9F, a9T, a9F, a9T, a9F, a9T, a9F, a9T, a9F, a9F]) [a90, a90] := evFT_ok allF extF [tk5_60, tk5_61, tk5_62, tk5_63, tk5_64, tk5_65, tk5_66, tk5_67, tk5_68, tk5_69, tk5_610, tk5_611, tk5_612, tk5_613, tk5_614, tk5_615, tk5_616, tk5_617, tk5_618, tk5_619, tk5_620, tk5_621, tk5_622, tk5_623, tk5_624, tk5_625, tk5_626, tk5_627, tk5_628, tk5_629, tk5_630, tk5_631] 300 100 _ _ _ _ _ (by kernel_rfl)
def tk5_632 : Memo Try.prog := ⟨_, _, _, _, _, tk5_632_ok⟩

/- 702 steps -/
theorem tk5_633_ok : Ans Try.prog 121 [a93, a92, .sl 1 [a9T, a9F, a9T, a9F, a9T, a9F, a9T, a9F, a9T, a9F, a9T, a9F, a9T, a9F, a9T, a9F, a9T, a9F, a9T, a9F, a9T, a9F, a9T, a9F, a9F]] [a90, a90, a91] (.sl 1 [a9F, a9T, a9F, a9T, a9F, a9T, a9F, a9T, a9F, a9T, a9F, a9T, a9F, a9T, a9F, a9T, a9F, a9T, a9F, a9T, a9F, a9T, a9F, a9T, a9F]) [a90, a90, a91] := evFT_ok allF extF [tk5_60, tk5_61, tk5_62, tk5_63, tk5_64, tk5_65, tk5_66, tk5_67, tk5_68, tk5_69, tk5_610, tk5_611, tk5_612, tk5_613, tk5_614, tk5_615, tk5_616, tk5_617, tk5_618, tk5_619, tk5_620, tk5_621, tk5_622, tk5_623, tk5_624, tk5_625, tk5_626, tk5_627, tk5_628, tk5_629, tk5_630, tk5_631, tk5_632] 300 100 _ _ _ _ _ (by kernel_rfl)
def tk5_633 : Memo Try.prog := ⟨_, _, _, _, _, tk5_633_ok⟩

/- 702 steps -/
theorem tk5_634_ok : Ans Try.prog 121 [a94, a92, .sl 1 [a9F, a9T, a9F, a9T, a9F, a9T, a9F, a9T, a9F, a9T, a9F, a9T, a9F, a9T, a9F, a9T, a9F, a9T, a9F, a9T, a9F, a9T, a9F, a9T, a9F]] [a90, a90, a91] (.sl 1 [a9F, a9F, a9T, a9F, a9T, a9F, a9T, a9F, a9T, a9F, a9T, a9F, a9T, a9F, a9T, a9F, a9T, a9F, a9T, a9F, a9T, a9F, a9T, a9F, a9T]) [a90, a90, a91] := evFT_ok allF extF [tk5_60, tk5_61, tk5_62, tk5_63, tk5_64, tk5_65, tk5_66, tk5_67, tk5_68, tk5_69, tk5_610, tk5_611, tk5_612, tk5_613, tk5_614, tk5_615, tk5_616, tk5_617, tk5_618, tk5_619, tk5_620, tk5_621, tk5_622, tk5_623, tk5_624, tk5_625, tk5_626, tk5_627, tk5_628, tk5_629, tk5_630, tk5_631, tk5_632, tk5_633] 300 100 _ _ _ _ _ (by kernel_rfl)
def tk5_634 : Memo Try.prog := ⟨_, _, _, _, _, tk5_634_ok⟩

/- 537 steps -/
theorem tk5_635_ok : Ans Try.prog 137 [.sl 1 [a9T, a9F, a9T, a9F, a9T, a9F, a9T, a9F, a9T, a9F, a9T, a9F, a9T, a9F, a9T, a9F, a9T, a9F, a9T, a9F, a9T, a9F, a9T, a9F, a9F], .sl 1 [a9F, a9F, a9T, a9F, a9T, a9F, a9T, a9F, a9T, a9F, a9T, a9F, a9T, a9F, a9T, a9F, a9T, a9F, a9T, a9F, a9T, a9F, a9T, a9F, a9T]] [a90, a90] (a95) [a90, a90] := evFT_ok allF extF [tk5_60, tk5_61, tk5_62, tk5_63, tk5_64, tk5_65, tk5_66, tk5_67, tk5_68, tk5_69, tk5_610, tk5_611, tk5_612, tk5_613, tk5_614, tk5_615, tk5_616, tk5_617, tk5_618, tk5_619, tk5_620, tk5_621, tk5_622, tk5_623, tk5_624, tk5_625, tk5_626, tk5_627, tk5_628, tk5_629, tk5_630, tk5_631, tk5_632, tk5_633, tk5_634] 300 100 _ _ _ _ _ (by kernel_rfl)
def tk5_635 : Memo Try.prog := ⟨_, _, _, _, _, tk5_635_ok⟩

/- 400 steps -/
theorem tk5_636_ok : Ans Try.prog 138 [a95, .sl 1 [a9T, a9F, a9T, a9F, a9T, a9F, a9T, a9F, a9T, a9F, a9T, a9F, a9T, a9F, a9T, a9F, a9T, a9F, a9T, a9F, a9T, a9F, a9T, a9F, a9F]] [a90, a90] (a9F) [a90, a90] := evFT_ok allF extF [tk5_60, tk5_61, tk5_62, tk5_63, tk5_64, tk5_65, tk5_66, tk5_67, tk5_68, tk5_69, tk5_610, tk5_611, tk5_612, tk5_613, tk5_614, tk5_615, tk5_616, tk5_617, tk5_618, tk5_619, tk5_620, tk5_621, tk5_622, tk5_623, tk5_624, tk5_625, tk5_626, tk5_627, tk5_628, tk5_629, tk5_630, tk5_631, tk5_632, tk5_633, tk5_634, tk5_635] 300 100 _ _ _ _ _ (by kernel_rfl)
def tk5_636 : Memo Try.prog := ⟨_, _, _, _, _, tk5_636_ok⟩

/- 702 steps -/
theorem tk5_637_ok : Ans Try.prog 121 [a93, a92, a95] [a90, a90, a91] (.sl 1 [a9F, a9T, a9F, a9T, a9F, a9T, a9F, a9T, a9F, a9T, a9F, a9T, a9F, a9T, a9F, a9T, a9F, a9T, a9F, a9T, a9F, a9T, a9F, a9T, a9F]) [a90, a90, a91] := evFT_ok allF extF [tk5_60, tk5_61, tk5_62, tk5_63, tk5_64, tk5_65, tk5_66, tk5_67, tk5_68, tk5_69, tk5_610, tk5_611, tk5_612, tk5_613, tk5_614, tk5_615, tk5_616, tk5_617, tk5_618, tk5_619, tk5_620, tk5_621, tk5_622, tk5_623, tk5_624, tk5_625, tk5_626, tk5_627, tk5_628, tk5_629, tk5_630, tk5_631, tk5_632, tk5_633, tk5_634, tk5_635, tk5_636] 300 100 _ _ _ _ _ (by kernel_rfl)
def tk5_637 : Memo Try.prog := ⟨_, _, _, _, _, tk5_637_ok⟩

/- 537 steps -/
theorem tk5_638_ok : Ans Try.prog 137 [a95, .sl 1 [a9F, a9F, a9T, a9F, a9T, a9F, a9T, a9F, a9T, a9F, a9T, a9F, a9T, a9F, a9T, a9F, a9T, a9F, a9T, a9F, a9T, a9F, a9T, a9F, a9T]] [a90, a90] (a95) [a90, a90] := evFT_ok allF extF [tk5_60, tk5_61, tk5_62, tk5_63, tk5_64, tk5_65, tk5_66, tk5_67, tk5_68, tk5_69, tk5_610, tk5_611, tk5_612, tk5_613, tk5_614, tk5_615, tk5_616, tk5_617, tk5_618, tk5_619, tk5_620, tk5_621, tk5_622, tk5_623, tk5_624, tk5_625, tk5_626, tk5_627, tk5_628, tk5_629, tk5_630, tk5_631, tk5_632, tk5_633, tk5_634, tk5_635, tk5_636, tk5_637] 300 100 _ _ _ _ _ (by kernel_rfl)
def tk5_638 : Memo Try.prog := ⟨_, _, _, _, _, tk5_638_ok⟩

/- 407 steps -/
theorem tk5_639_ok : Ans Try.prog 138 [a95, a95] [a90, a90] (a9T) [a90, a90] := evFT_ok allF extF [tk5_60, tk5_61, tk5_62, tk5_63, tk5_64, tk5_65, tk5_66, tk5_67, tk5_68, tk5_69, tk5_610, tk5_611, tk5_612, tk5_613, tk5_614, tk5_615, tk5_616, tk5_617, tk5_618, tk5_619, tk5_620, tk5_621, tk5_622, tk5_623, tk5_624, tk5_625, tk5_626, tk5_627, tk5_628, tk5_629, tk5_630, tk5_631, tk5_632, tk5_633, tk5_634, tk5_635, tk5_636, tk5_637, tk5_638] 300 100 _ _ _ _ _ (by kernel_rfl)
def tk5_639 : Memo Try.prog := ⟨_, _, _, _, _, tk5_639_ok⟩

/- 3422 steps -/
theorem tk5_640_ok : Ans Try.prog 121 [a96, a92, .osl 0 25] [a90] (a95) [a90] := evFT_ok allF extF [tk5_60, tk5_61, tk5_62, tk5_63, tk5_64, tk5_65, tk5_66, tk5_67, tk5_68, tk5_69, tk5_610, tk5_611, tk5_612, tk5_613, tk5_614, tk5_615, tk5_616, tk5_617, tk5_618, tk5_619, tk5_620, tk5_621, tk5_622, tk5_623, tk5_624, tk5_625, tk5_626, tk5_627, tk5_628, tk5_629, tk5_630, tk5_631, tk5_632, tk5_633, tk5_634, tk5_635, tk5_636, tk5_637, tk5_638, tk5_639] 300 100 _ _ _ _ _ (by kernel_rfl)
def tk5_640 : Memo Try.prog := ⟨_, _, _, _, _, tk5_640_ok⟩

/- 498 steps -/
theorem tk5_641_ok : Ans Try.prog 99 [a96, a92, .pl (.int .i64 0)] [] (.sl 1 [.pl (.int .i64 0), .pl (.int .i64 2), .pl (.int .i64 4), .pl (.int .i64 6), .pl (.int .i64 8), .pl (.int .i64 10), .pl (.int .i64 12), .pl (.int .i64 14), .pl (.int .i64 16), .pl (.int .i64 18), .pl (.int .i64 20), .pl (.int .i64 22), .pl (.int .i64 24)]) [] := evFT_ok allF extF [tk5_60, tk5_61, tk5_62, tk5_63, tk5_64, tk5_65, tk5_66, tk5_67, tk5_68, tk5_69, tk5_610, tk5_611, tk5_612, tk5_613, tk5_614, tk5_615, tk5_616, tk5_617, tk5_618, tk5_619, tk5_620, tk5_621, tk5_622, tk5_623, tk5_624, tk5_625, tk5_626, tk5_627, tk5_628, tk5_629, tk5_630, tk5_631, tk5_632, tk5_633, tk5_634, tk5_635, tk5_636, tk5_637, tk5_638, tk5_639, tk5_640] 300 100 _ _ _ _ _ (by kernel_rfl)
def tk5_641 : Memo Try.prog := ⟨_, _, _, _, _, tk5_641_ok⟩

/- 24 steps -/
theorem tk5_6_ok : Ans Try.prog 58 [a96, a92] [] (a9T) [] := evFT_ok allF extF [tk5_60, tk5_61, tk5_62, tk5_63, tk5_64, tk5_65, tk5_66, tk5_67, tk5_68, tk5_69, tk5_610, tk5_611, tk5_612, tk5_613, tk5_614, tk5_615, tk5_616, tk5_617, tk5_618, tk5_619, tk5_620, tk5_621, tk5_622, tk5_623, tk5_624, tk5_625, tk5_626, tk5_627, tk5_628, tk5_629, tk5_630, tk5_631, tk5_632, tk5_633, tk5_634, tk5_635, tk5_636, tk5_637, tk5_638, tk5_639, tk5_640, tk5_641] 300 100 _ _ _ _ _ (by kernel_rfl)
def tk5_6_m : Memo Try.prog := ⟨_, _, _, _, _, tk5_6_ok⟩



end Go.Proofs.Ytoadgajhkhejiaa
