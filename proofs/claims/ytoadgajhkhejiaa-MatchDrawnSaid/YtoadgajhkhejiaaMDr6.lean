/- Closed runs, call by call: the kernel reckons them. No condition. -/
import Derived.Test.YtoadgajhkhejiaaMRun
import Derived.Test.YtoadgajhkhejiaaAbTree
namespace Go.Proofs.Ytoadgajhkhejiaa
open Go Go.Ab
abbrev a6T : AV := .pl (.bool true)
abbrev a6F : AV := .pl (.bool false)
abbrev a60 : AV := .agg [.pl (.int .i64 3), .pl (.int .u64 0), .pl (.int .u64 0), .pl (.int .u64 0), .pl (.int .u64 0), .sl 6 [.agg [.pl (.int .i64 2), .pl (.int .u64 0), .pl (.int .u64 0), .pl (.int .u64 0), .pl (.int .u64 0), .sl 6 [.agg [.pl (.int .i64 1), .pl (.int .u64 0), .pl (.int .u64 34359738368), .pl (.int .u64 0), .pl (.int .u64 0), .nils], .agg [.pl (.int .i64 1), .pl (.int .u64 0), .pl (.int .u64 1125899906842624), .pl (.int .u64 0), .pl (.int .u64 0), .nils], .agg [.pl (.int .i64 1), .pl (.int .u64 0), .pl (.int .u64 2199023255552), .pl (.int .u64 0), .pl (.int .u64 0), .nils], .agg [.pl (.int .i64 1), .pl (.int .u64 0), .pl (.int .u64 4503599627370496), .pl (.int .u64 0), .pl (.int .u64 0), .nils]]], .agg [.pl (.int .i64 2), .pl (.int .u64 0), .pl (.int .u64 0), .pl (.int .u64 0), .pl (.int .u64 0), .sl 6 [.agg [.pl (.int .i64 1), .pl (.int .u64 0), .pl (.int .u64 36028797018963968), .pl (.int .u64 0), .pl (.int .u64 0), .nils], .agg [.pl (.int .i64 1), .pl (.int .u64 0), .pl (.int .u64 8589934592), .pl (.int .u64 0), .pl (.int .u64 0), .nils], .agg [.pl (.int .i64 1), .pl (.int .u64 0), .pl (.int .u64 1125899906842624), .pl (.int .u64 0), .pl (.int .u64 0), .nils], .agg [.pl (.int .i64 1), .pl (.int .u64 0), .pl (.int .u64 70368744177664), .pl (.int .u64 0), .pl (.int .u64 0), .nils]]]]]
abbrev a61 : AV := .agg [.pl (.int .i64 2), .pl (.int .u64 0), .pl (.int .u64 0), .pl (.int .u64 0), .pl (.int .u64 0), .sl 6 [.agg [.pl (.int .i64 6), .pl (.int .u64 0), .pl (.int .u64 0), .pl (.int .u64 0), .pl (.int .u64 0), .sl 6 [.agg [.pl (.int .i64 1), .pl (.int .u64 0), .pl (.int .u64 8589934592), .pl (.int .u64 0), .pl (.int .u64 0), .nils]]], .agg [.pl (.int .i64 6), .pl (.int .u64 0), .pl (.int .u64 0), .pl (.int .u64 0), .pl (.int .u64 0), .sl 6 [.agg [.pl (.int .i64 1), .pl (.int .u64 0), .pl (.int .u64 17179869184), .pl (.int .u64 0), .pl (.int .u64 0), .nils]]]]]
abbrev a62 : AV := .agg [.pl (.int .i64 2), .pl (.int .u64 0), .pl (.int .u64 0), .pl (.int .u64 0), .pl (.int .u64 0), .sl 6 [.agg [.pl (.int .i64 5), .pl (.int .u64 0), .pl (.int .u64 0), .pl (.int .u64 0), .pl (.int .u64 0), .sl 6 [.agg [.pl (.int .i64 1), .pl (.int .u64 0), .pl (.int .u64 60129542144), .pl (.int .u64 0), .pl (.int .u64 0), .nils]]], .agg [.pl (.int .i64 4), .pl (.int .u64 0), .pl (.int .u64 0), .pl (.int .u64 0), .pl (.int .u64 0), .sl 6 [.agg [.pl (.int .i64 1), .pl (.int .u64 18446744073709551615), .pl (.int .u64 18446744073709551615), .pl (.int .u64 18446744073709551615), .pl (.int .u64 18446744073709551615), .nils]]]]]
abbrev a63 : AV := .sl 6 [.agg [.pl (.int .i64 1), .pl (.int .u64 0), .pl (.int .u64 8589934592), .pl (.int .u64 0), .pl (.int .u64 0), .nils], .agg [.pl (.int .i64 1), .pl (.int .u64 0), .pl (.int .u64 17179869184), .pl (.int .u64 0), .pl (.int .u64 0), .nils]]
abbrev a64 : AV := .agg [.pl (.int .i64 4), .pl (.int .u64 0), .pl (.int .u64 0), .pl (.int .u64 0), .pl (.int .u64 0), .sl 6 [.agg [.pl (.int .i64 1), .pl (.int .u64 18446744073709551615), .pl (.int .u64 18446744065119617023), .pl (.int .u64 18446744073709551615), .pl (.int .u64 18446744073709551615), .nils]]]
abbrev a65 : AV := .agg [.pl (.int .i64 5), .pl (.int .u64 0), .pl (.int .u64 0), .pl (.int .u64 0), .pl (.int .u64 0), .sl 6 [.agg [.pl (.int .i64 1), .pl (.int .u64 18446744073709551615), .pl (.int .u64 18446744073709551615), .pl (.int .u64 18446744073709551615), .pl (.int .u64 18446744073709551615), .nils]]]
abbrev a66 : AV := .agg [.pl (.int .i64 4), .pl (.int .u64 0), .pl (.int .u64 0), .pl (.int .u64 0), .pl (.int .u64 0), .sl 6 [.agg [.pl (.int .i64 2), .pl (.int .u64 0), .pl (.int .u64 0), .pl (.int .u64 0), .pl (.int .u64 0), a63]]]
abbrev a67 : AV := .agg [.pl (.int .i64 2), .pl (.int .u64 0), .pl (.int .u64 0), .pl (.int .u64 0), .pl (.int .u64 0), .nils]
abbrev a68 : AV := .agg [.pl (.int .i64 3), .pl (.int .u64 0), .pl (.int .u64 0), .pl (.int .u64 0), .pl (.int .u64 0), a63]
abbrev a69 : AV := .pl (.string ⟨#[97, 98, 97, 98, 97, 98, 97, 98, 97, 98, 97, 98, 97, 98, 97, 98, 97, 98, 97, 98, 97, 98, 97, 98]⟩)
/- 466 steps -/
theorem tk0_0_ok : Ans Try.prog 58 [a68, .pl (.string ⟨#[97]⟩)] [] (a6T) [] := evFT_ok allF extF [] 300 100 _ _ _ _ _ (by kernel_rfl)
def tk0_0_m : Memo Try.prog := ⟨_, _, _, _, _, tk0_0_ok⟩


/- 466 steps -/
theorem tk0_1_ok : Ans Try.prog 58 [a68, .pl (.string ⟨#[98]⟩)] [] (a6T) [] := evFT_ok allF extF [] 300 100 _ _ _ _ _ (by kernel_rfl)
def tk0_1_m : Memo Try.prog := ⟨_, _, _, _, _, tk0_1_ok⟩


/- 728 steps -/
theorem tk0_2_ok : Ans Try.prog 58 [a68, .pl (.string ⟨#[99, 114, 105, 116]⟩)] [] (a6F) [] := evFT_ok allF extF [] 300 100 _ _ _ _ _ (by kernel_rfl)
def tk0_2_m : Memo Try.prog := ⟨_, _, _, _, _, tk0_2_ok⟩


/- 728 steps -/
theorem tk0_3_ok : Ans Try.prog 58 [a68, .pl (.string ⟨#[119, 97, 114, 110]⟩)] [] (a6F) [] := evFT_ok allF extF [] 300 100 _ _ _ _ _ (by kernel_rfl)
def tk0_3_m : Memo Try.prog := ⟨_, _, _, _, _, tk0_3_ok⟩


/- 555 steps -/
theorem tk0_4_ok : Ans Try.prog 58 [a68, .pl (.string ⟨#[97, 98]⟩)] [] (a6F) [] := evFT_ok allF extF [] 300 100 _ _ _ _ _ (by kernel_rfl)
def tk0_4_m : Memo Try.prog := ⟨_, _, _, _, _, tk0_4_ok⟩


/- 550 steps -/
theorem tk0_5_ok : Ans Try.prog 58 [a68, .pl (.string ⟨#[0, 255]⟩)] [] (a6F) [] := evFT_ok allF extF [] 300 100 _ _ _ _ _ (by kernel_rfl)
def tk0_5_m : Memo Try.prog := ⟨_, _, _, _, _, tk0_5_ok⟩


/- 2513 steps -/
theorem tk0_6_ok : Ans Try.prog 58 [a68, a69] [] (a6F) [] := evFT_ok allF extF [] 300 100 _ _ _ _ _ (by kernel_rfl)
def tk0_6_m : Memo Try.prog := ⟨_, _, _, _, _, tk0_6_ok⟩


/- 330 steps -/
theorem tk0_7_ok : Ans Try.prog 58 [a68, .pl (.string ⟨#[]⟩)] [] (a6F) [] := evFT_ok allF extF [] 300 100 _ _ _ _ _ (by kernel_rfl)
def tk0_7_m : Memo Try.prog := ⟨_, _, _, _, _, tk0_7_ok⟩


/- 141 steps -/
theorem tk1_0_ok : Ans Try.prog 58 [a67, .pl (.string ⟨#[97]⟩)] [] (a6F) [] := evFT_ok allF extF [] 300 100 _ _ _ _ _ (by kernel_rfl)
def tk1_0_m : Memo Try.prog := ⟨_, _, _, _, _, tk1_0_ok⟩


/- 141 steps -/
theorem tk1_1_ok : Ans Try.prog 58 [a67, .pl (.string ⟨#[98]⟩)] [] (a6F) [] := evFT_ok allF extF [] 300 100 _ _ _ _ _ (by kernel_rfl)
def tk1_1_m : Memo Try.prog := ⟨_, _, _, _, _, tk1_1_ok⟩


/- 174 steps -/
theorem tk1_2_ok : Ans Try.prog 58 [a67, .pl (.string ⟨#[99, 114, 105, 116]⟩)] [] (a6F) [] := evFT_ok allF extF [] 300 100 _ _ _ _ _ (by kernel_rfl)
def tk1_2_m : Memo Try.prog := ⟨_, _, _, _, _, tk1_2_ok⟩


/- 174 steps -/
theorem tk1_3_ok : Ans Try.prog 58 [a67, .pl (.string ⟨#[119, 97, 114, 110]⟩)] [] (a6F) [] := evFT_ok allF extF [] 300 100 _ _ _ _ _ (by kernel_rfl)
def tk1_3_m : Memo Try.prog := ⟨_, _, _, _, _, tk1_3_ok⟩


/- 152 steps -/
theorem tk1_4_ok : Ans Try.prog 58 [a67, .pl (.string ⟨#[97, 98]⟩)] [] (a6F) [] := evFT_ok allF extF [] 300 100 _ _ _ _ _ (by kernel_rfl)
def tk1_4_m : Memo Try.prog := ⟨_, _, _, _, _, tk1_4_ok⟩


/- 152 steps -/
theorem tk1_5_ok : Ans Try.prog 58 [a67, .pl (.string ⟨#[0, 255]⟩)] [] (a6F) [] := evFT_ok allF extF [] 300 100 _ _ _ _ _ (by kernel_rfl)
def tk1_5_m : Memo Try.prog := ⟨_, _, _, _, _, tk1_5_ok⟩


/- 394 steps -/
theorem tk1_6_ok : Ans Try.prog 58 [a67, a69] [] (a6F) [] := evFT_ok allF extF [] 300 100 _ _ _ _ _ (by kernel_rfl)
def tk1_6_m : Memo Try.prog := ⟨_, _, _, _, _, tk1_6_ok⟩


/- 130 steps -/
theorem tk1_7_ok : Ans Try.prog 58 [a67, .pl (.string ⟨#[]⟩)] [] (a6T) [] := evFT_ok allF extF [] 300 100 _ _ _ _ _ (by kernel_rfl)
def tk1_7_m : Memo Try.prog := ⟨_, _, _, _, _, tk1_7_ok⟩


/- 1121 steps -/
theorem tk2_0_ok : Ans Try.prog 58 [a60, .pl (.string ⟨#[97]⟩)] [] (a6F) [] := evFT_ok allF extF [] 300 100 _ _ _ _ _ (by kernel_rfl)
def tk2_0_m : Memo Try.prog := ⟨_, _, _, _, _, tk2_0_ok⟩


/- 1121 steps -/
theorem tk2_1_ok : Ans Try.prog 58 [a60, .pl (.string ⟨#[98]⟩)] [] (a6F) [] := evFT_ok allF extF [] 300 100 _ _ _ _ _ (by kernel_rfl)
def tk2_1_m : Memo Try.prog := ⟨_, _, _, _, _, tk2_1_ok⟩


/- 1780 steps -/
theorem tk2_2_ok : Ans Try.prog 58 [a60, .pl (.string ⟨#[99, 114, 105, 116]⟩)] [] (a6T) [] := evFT_ok allF extF [] 300 100 _ _ _ _ _ (by kernel_rfl)
def tk2_2_m : Memo Try.prog := ⟨_, _, _, _, _, tk2_2_ok⟩


/- 1780 steps -/
theorem tk2_3_ok : Ans Try.prog 58 [a60, .pl (.string ⟨#[119, 97, 114, 110]⟩)] [] (a6T) [] := evFT_ok allF extF [] 300 100 _ _ _ _ _ (by kernel_rfl)
def tk2_3_m : Memo Try.prog := ⟨_, _, _, _, _, tk2_3_ok⟩


/- 1318 steps -/
theorem tk2_4_ok : Ans Try.prog 58 [a60, .pl (.string ⟨#[97, 98]⟩)] [] (a6F) [] := evFT_ok allF extF [] 300 100 _ _ _ _ _ (by kernel_rfl)
def tk2_4_m : Memo Try.prog := ⟨_, _, _, _, _, tk2_4_ok⟩


/- 1318 steps -/
theorem tk2_5_ok : Ans Try.prog 58 [a60, .pl (.string ⟨#[0, 255]⟩)] [] (a6F) [] := evFT_ok allF extF [] 300 100 _ _ _ _ _ (by kernel_rfl)
def tk2_5_m : Memo Try.prog := ⟨_, _, _, _, _, tk2_5_ok⟩


/- 4989 steps -/
theorem tk2_60_ok : Ans Try.prog 121 [a60, a69, .osl 0 25] [.row 1 [a6T, a6F, a6F, a6F, a6F, a6F, a6F, a6F, a6F, a6F, a6F, a6F, a6F, a6F, a6F, a6F, a6F, a6F, a6F, a6F, a6F, a6F, a6F, a6F, a6F]] (.sl 1 [a6F, a6F, a6F, a6F, a6F, a6F, a6F, a6F, a6F, a6F, a6F, a6F, a6F, a6F, a6F, a6F, a6F, a6F, a6F, a6F, a6F, a6F, a6F, a6F, a6F]) [.row 1 [a6T, a6F, a6F, a6F, a6F, a6F, a6F, a6F, a6F, a6F, a6F, a6F, a6F, a6F, a6F, a6F, a6F, a6F, a6F, a6F, a6F, a6F, a6F, a6F, a6F]] := evFT_ok allF extF [] 300 100 _ _ _ _ _ (by kernel_rfl)
def tk2_60 : Memo Try.prog := ⟨_, _, _, _, _, tk2_60_ok⟩

/- 661 steps -/
theorem tk2_6_ok : Ans Try.prog 58 [a60, a69] [] (a6F) [] := evFT_ok allF extF [tk2_60] 300 100 _ _ _ _ _ (by kernel_rfl)
def tk2_6_m : Memo Try.prog := ⟨_, _, _, _, _, tk2_6_ok⟩


/- 882 steps -/
theorem tk2_7_ok : Ans Try.prog 58 [a60, .pl (.string ⟨#[]⟩)] [] (a6F) [] := evFT_ok allF extF [] 300 100 _ _ _ _ _ (by kernel_rfl)
def tk2_7_m : Memo Try.prog := ⟨_, _, _, _, _, tk2_7_ok⟩


/- 739 steps -/
theorem tk3_0_ok : Ans Try.prog 58 [a62, .pl (.string ⟨#[97]⟩)] [] (a6T) [] := evFT_ok allF extF [] 300 100 _ _ _ _ _ (by kernel_rfl)
def tk3_0_m : Memo Try.prog := ⟨_, _, _, _, _, tk3_0_ok⟩


/- 739 steps -/
theorem tk3_1_ok : Ans Try.prog 58 [a62, .pl (.string ⟨#[98]⟩)] [] (a6T) [] := evFT_ok allF extF [] 300 100 _ _ _ _ _ (by kernel_rfl)
def tk3_1_m : Memo Try.prog := ⟨_, _, _, _, _, tk3_1_ok⟩


/- 2278 steps -/
theorem tk3_2_ok : Ans Try.prog 58 [a62, .pl (.string ⟨#[99, 114, 105, 116]⟩)] [] (a6T) [] := evFT_ok allF extF [] 300 100 _ _ _ _ _ (by kernel_rfl)
def tk3_2_m : Memo Try.prog := ⟨_, _, _, _, _, tk3_2_ok⟩


/- 1151 steps -/
theorem tk3_3_ok : Ans Try.prog 58 [a62, .pl (.string ⟨#[119, 97, 114, 110]⟩)] [] (a6F) [] := evFT_ok allF extF [] 300 100 _ _ _ _ _ (by kernel_rfl)
def tk3_3_m : Memo Try.prog := ⟨_, _, _, _, _, tk3_3_ok⟩


/- 1151 steps -/
theorem tk3_4_ok : Ans Try.prog 58 [a62, .pl (.string ⟨#[97, 98]⟩)] [] (a6T) [] := evFT_ok allF extF [] 300 100 _ _ _ _ _ (by kernel_rfl)
def tk3_4_m : Memo Try.prog := ⟨_, _, _, _, _, tk3_4_ok⟩


/- 873 steps -/
theorem tk3_5_ok : Ans Try.prog 58 [a62, .pl (.string ⟨#[0, 255]⟩)] [] (a6F) [] := evFT_ok allF extF [] 300 100 _ _ _ _ _ (by kernel_rfl)
def tk3_5_m : Memo Try.prog := ⟨_, _, _, _, _, tk3_5_ok⟩


/- 574 steps -/
theorem tk3_7_ok : Ans Try.prog 58 [a62, .pl (.string ⟨#[]⟩)] [] (a6F) [] := evFT_ok allF extF [] 300 100 _ _ _ _ _ (by kernel_rfl)
def tk3_7_m : Memo Try.prog := ⟨_, _, _, _, _, tk3_7_ok⟩


/- 392 steps -/
theorem tk4_0_ok : Ans Try.prog 58 [a65, .pl (.string ⟨#[97]⟩)] [] (a6T) [] := evFT_ok allF extF [] 300 100 _ _ _ _ _ (by kernel_rfl)
def tk4_0_m : Memo Try.prog := ⟨_, _, _, _, _, tk4_0_ok⟩


/- 392 steps -/
theorem tk4_1_ok : Ans Try.prog 58 [a65, .pl (.string ⟨#[98]⟩)] [] (a6T) [] := evFT_ok allF extF [] 300 100 _ _ _ _ _ (by kernel_rfl)
def tk4_1_m : Memo Try.prog := ⟨_, _, _, _, _, tk4_1_ok⟩


/- 1745 steps -/
theorem tk4_2_ok : Ans Try.prog 58 [a65, .pl (.string ⟨#[99, 114, 105, 116]⟩)] [] (a6T) [] := evFT_ok allF extF [] 300 100 _ _ _ _ _ (by kernel_rfl)
def tk4_2_m : Memo Try.prog := ⟨_, _, _, _, _, tk4_2_ok⟩


/- 1745 steps -/
theorem tk4_3_ok : Ans Try.prog 58 [a65, .pl (.string ⟨#[119, 97, 114, 110]⟩)] [] (a6T) [] := evFT_ok allF extF [] 300 100 _ _ _ _ _ (by kernel_rfl)
def tk4_3_m : Memo Try.prog := ⟨_, _, _, _, _, tk4_3_ok⟩


/- 728 steps -/
theorem tk4_4_ok : Ans Try.prog 58 [a65, .pl (.string ⟨#[97, 98]⟩)] [] (a6T) [] := evFT_ok allF extF [] 300 100 _ _ _ _ _ (by kernel_rfl)
def tk4_4_m : Memo Try.prog := ⟨_, _, _, _, _, tk4_4_ok⟩


/- 728 steps -/
theorem tk4_5_ok : Ans Try.prog 58 [a65, .pl (.string ⟨#[0, 255]⟩)] [] (a6T) [] := evFT_ok allF extF [] 300 100 _ _ _ _ _ (by kernel_rfl)
def tk4_5_m : Memo Try.prog := ⟨_, _, _, _, _, tk4_5_ok⟩


/- 282 steps -/
theorem tk4_7_ok : Ans Try.prog 58 [a65, .pl (.string ⟨#[]⟩)] [] (a6F) [] := evFT_ok allF extF [] 300 100 _ _ _ _ _ (by kernel_rfl)
def tk4_7_m : Memo Try.prog := ⟨_, _, _, _, _, tk4_7_ok⟩


/- 511 steps -/
theorem tk5_0_ok : Ans Try.prog 58 [a66, .pl (.string ⟨#[97]⟩)] [] (a6F) [] := evFT_ok allF extF [] 300 100 _ _ _ _ _ (by kernel_rfl)
def tk5_0_m : Memo Try.prog := ⟨_, _, _, _, _, tk5_0_ok⟩


/- 511 steps -/
theorem tk5_1_ok : Ans Try.prog 58 [a66, .pl (.string ⟨#[98]⟩)] [] (a6F) [] := evFT_ok allF extF [] 300 100 _ _ _ _ _ (by kernel_rfl)
def tk5_1_m : Memo Try.prog := ⟨_, _, _, _, _, tk5_1_ok⟩


/- 763 steps -/
theorem tk5_2_ok : Ans Try.prog 58 [a66, .pl (.string ⟨#[99, 114, 105, 116]⟩)] [] (a6F) [] := evFT_ok allF extF [] 300 100 _ _ _ _ _ (by kernel_rfl)
def tk5_2_m : Memo Try.prog := ⟨_, _, _, _, _, tk5_2_ok⟩


/- 763 steps -/
theorem tk5_3_ok : Ans Try.prog 58 [a66, .pl (.string ⟨#[119, 97, 114, 110]⟩)] [] (a6F) [] := evFT_ok allF extF [] 300 100 _ _ _ _ _ (by kernel_rfl)
def tk5_3_m : Memo Try.prog := ⟨_, _, _, _, _, tk5_3_ok⟩


/- 986 steps -/
theorem tk5_4_ok : Ans Try.prog 58 [a66, .pl (.string ⟨#[97, 98]⟩)] [] (a6T) [] := evFT_ok allF extF [] 300 100 _ _ _ _ _ (by kernel_rfl)
def tk5_4_m : Memo Try.prog := ⟨_, _, _, _, _, tk5_4_ok⟩


/- 595 steps -/
theorem tk5_5_ok : Ans Try.prog 58 [a66, .pl (.string ⟨#[0, 255]⟩)] [] (a6F) [] := evFT_ok allF extF [] 300 100 _ _ _ _ _ (by kernel_rfl)
def tk5_5_m : Memo Try.prog := ⟨_, _, _, _, _, tk5_5_ok⟩


/- 406 steps -/
theorem tk5_7_ok : Ans Try.prog 58 [a66, .pl (.string ⟨#[]⟩)] [] (a6T) [] := evFT_ok allF extF [] 300 100 _ _ _ _ _ (by kernel_rfl)
def tk5_7_m : Memo Try.prog := ⟨_, _, _, _, _, tk5_7_ok⟩


/- 616 steps -/
theorem tk6_0_ok : Ans Try.prog 58 [a61, .pl (.string ⟨#[97]⟩)] [] (a6T) [] := evFT_ok allF extF [] 300 100 _ _ _ _ _ (by kernel_rfl)
def tk6_0_m : Memo Try.prog := ⟨_, _, _, _, _, tk6_0_ok⟩


/- 616 steps -/
theorem tk6_1_ok : Ans Try.prog 58 [a61, .pl (.string ⟨#[98]⟩)] [] (a6T) [] := evFT_ok allF extF [] 300 100 _ _ _ _ _ (by kernel_rfl)
def tk6_1_m : Memo Try.prog := ⟨_, _, _, _, _, tk6_1_ok⟩


/- 878 steps -/
theorem tk6_2_ok : Ans Try.prog 58 [a61, .pl (.string ⟨#[99, 114, 105, 116]⟩)] [] (a6F) [] := evFT_ok allF extF [] 300 100 _ _ _ _ _ (by kernel_rfl)
def tk6_2_m : Memo Try.prog := ⟨_, _, _, _, _, tk6_2_ok⟩


/- 878 steps -/
theorem tk6_3_ok : Ans Try.prog 58 [a61, .pl (.string ⟨#[119, 97, 114, 110]⟩)] [] (a6F) [] := evFT_ok allF extF [] 300 100 _ _ _ _ _ (by kernel_rfl)
def tk6_3_m : Memo Try.prog := ⟨_, _, _, _, _, tk6_3_ok⟩


/- 731 steps -/
theorem tk6_4_ok : Ans Try.prog 58 [a61, .pl (.string ⟨#[97, 98]⟩)] [] (a6T) [] := evFT_ok allF extF [] 300 100 _ _ _ _ _ (by kernel_rfl)
def tk6_4_m : Memo Try.prog := ⟨_, _, _, _, _, tk6_4_ok⟩


/- 700 steps -/
theorem tk6_5_ok : Ans Try.prog 58 [a61, .pl (.string ⟨#[0, 255]⟩)] [] (a6F) [] := evFT_ok allF extF [] 300 100 _ _ _ _ _ (by kernel_rfl)
def tk6_5_m : Memo Try.prog := ⟨_, _, _, _, _, tk6_5_ok⟩


/- 2689 steps -/
theorem tk6_6_ok : Ans Try.prog 58 [a61, a69] [] (a6F) [] := evFT_ok allF extF [] 300 100 _ _ _ _ _ (by kernel_rfl)
def tk6_6_m : Memo Try.prog := ⟨_, _, _, _, _, tk6_6_ok⟩


/- 480 steps -/
theorem tk6_7_ok : Ans Try.prog 58 [a61, .pl (.string ⟨#[]⟩)] [] (a6T) [] := evFT_ok allF extF [] 300 100 _ _ _ _ _ (by kernel_rfl)
def tk6_7_m : Memo Try.prog := ⟨_, _, _, _, _, tk6_7_ok⟩


/- 347 steps -/
theorem tk7_0_ok : Ans Try.prog 58 [a64, .pl (.string ⟨#[97]⟩)] [] (a6F) [] := evFT_ok allF extF [] 300 100 _ _ _ _ _ (by kernel_rfl)
def tk7_0_m : Memo Try.prog := ⟨_, _, _, _, _, tk7_0_ok⟩


/- 523 steps -/
theorem tk7_1_ok : Ans Try.prog 58 [a64, .pl (.string ⟨#[98]⟩)] [] (a6T) [] := evFT_ok allF extF [] 300 100 _ _ _ _ _ (by kernel_rfl)
def tk7_1_m : Memo Try.prog := ⟨_, _, _, _, _, tk7_1_ok⟩


/- 2002 steps -/
theorem tk7_2_ok : Ans Try.prog 58 [a64, .pl (.string ⟨#[99, 114, 105, 116]⟩)] [] (a6T) [] := evFT_ok allF extF [] 300 100 _ _ _ _ _ (by kernel_rfl)
def tk7_2_m : Memo Try.prog := ⟨_, _, _, _, _, tk7_2_ok⟩


/- 859 steps -/
theorem tk7_3_ok : Ans Try.prog 58 [a64, .pl (.string ⟨#[119, 97, 114, 110]⟩)] [] (a6F) [] := evFT_ok allF extF [] 300 100 _ _ _ _ _ (by kernel_rfl)
def tk7_3_m : Memo Try.prog := ⟨_, _, _, _, _, tk7_3_ok⟩


/- 413 steps -/
theorem tk7_4_ok : Ans Try.prog 58 [a64, .pl (.string ⟨#[97, 98]⟩)] [] (a6F) [] := evFT_ok allF extF [] 300 100 _ _ _ _ _ (by kernel_rfl)
def tk7_4_m : Memo Try.prog := ⟨_, _, _, _, _, tk7_4_ok⟩


/- 901 steps -/
theorem tk7_5_ok : Ans Try.prog 58 [a64, .pl (.string ⟨#[0, 255]⟩)] [] (a6T) [] := evFT_ok allF extF [] 300 100 _ _ _ _ _ (by kernel_rfl)
def tk7_5_m : Memo Try.prog := ⟨_, _, _, _, _, tk7_5_ok⟩


/- 1865 steps -/
theorem tk7_6_ok : Ans Try.prog 58 [a64, a69] [] (a6F) [] := evFT_ok allF extF [] 300 100 _ _ _ _ _ (by kernel_rfl)
def tk7_6_m : Memo Try.prog := ⟨_, _, _, _, _, tk7_6_ok⟩


/- 260 steps -/
theorem tk7_7_ok : Ans Try.prog 58 [a64, .pl (.string ⟨#[]⟩)] [] (a6T) [] := evFT_ok allF extF [] 300 100 _ _ _ _ _ (by kernel_rfl)
def tk7_7_m : Memo Try.prog := ⟨_, _, _, _, _, tk7_7_ok⟩



end Go.Proofs.Ytoadgajhkhejiaa
