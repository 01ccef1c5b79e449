/- Closed runs, call by call: the kernel reckons them. No condition. -/
import Derived.Test.YtoadgajhkhejiaaMRun
import Derived.Test.YtoadgajhkhejiaaAbTree
namespace Go.Proofs.Ytoadgajhkhejiaa
open Go Go.Ab
/- 548 steps -/
theorem rp0_ok : Ans Try.prog 56 [.pl (.string ⟨#[97, 124, 98]⟩)] [] (.tup [.agg [.pl (.int .i64 3), .pl (.int .u64 0), .pl (.int .u64 0), .pl (.int .u64 0), .pl (.int .u64 0), .sl 6 [.agg [.pl (.int .i64 1), .pl (.int .u64 0), .pl (.int .u64 8589934592), .pl (.int .u64 0), .pl (.int .u64 0), .nils], .agg [.pl (.int .i64 1), .pl (.int .u64 0), .pl (.int .u64 17179869184), .pl (.int .u64 0), .pl (.int .u64 0), .nils]]], .pl (.bool true)]) [] := evFT_ok allF extF [] 300 100 _ _ _ _ _ (by kernel_rfl)
def rp0_m : Memo Try.prog := ⟨_, _, _, _, _, rp0_ok⟩


/- 107 steps -/
theorem rp1_ok : Ans Try.prog 56 [.pl (.string ⟨#[]⟩)] [] (.tup [.agg [.pl (.int .i64 2), .pl (.int .u64 0), .pl (.int .u64 0), .pl (.int .u64 0), .pl (.int .u64 0), .nils], .pl (.bool true)]) [] := evFT_ok allF extF [] 300 100 _ _ _ _ _ (by kernel_rfl)
def rp1_m : Memo Try.prog := ⟨_, _, _, _, _, rp1_ok⟩


/- 1934 steps -/
theorem rp2_ok : Ans Try.prog 56 [.pl (.string ⟨#[40, 99, 114, 105, 116, 124, 119, 97, 114, 110, 41]⟩)] [] (.tup [.agg [.pl (.int .i64 3), .pl (.int .u64 0), .pl (.int .u64 0), .pl (.int .u64 0), .pl (.int .u64 0), .sl 6 [.agg [.pl (.int .i64 2), .pl (.int .u64 0), .pl (.int .u64 0), .pl (.int .u64 0), .pl (.int .u64 0), .sl 6 [.agg [.pl (.int .i64 1), .pl (.int .u64 0), .pl (.int .u64 34359738368), .pl (.int .u64 0), .pl (.int .u64 0), .nils], .agg [.pl (.int .i64 1), .pl (.int .u64 0), .pl (.int .u64 1125899906842624), .pl (.int .u64 0), .pl (.int .u64 0), .nils], .agg [.pl (.int .i64 1), .pl (.int .u64 0), .pl (.int .u64 2199023255552), .pl (.int .u64 0), .pl (.int .u64 0), .nils], .agg [.pl (.int .i64 1), .pl (.int .u64 0), .pl (.int .u64 4503599627370496), .pl (.int .u64 0), .pl (.int .u64 0), .nils]]], .agg [.pl (.int .i64 2), .pl (.int .u64 0), .pl (.int .u64 0), .pl (.int .u64 0), .pl (.int .u64 0), .sl 6 [.agg [.pl (.int .i64 1), .pl (.int .u64 0), .pl (.int .u64 36028797018963968), .pl (.int .u64 0), .pl (.int .u64 0), .nils], .agg [.pl (.int .i64 1), .pl (.int .u64 0), .pl (.int .u64 8589934592), .pl (.int .u64 0), .pl (.int .u64 0), .nils], .agg [.pl (.int .i64 1), .pl (.int .u64 0), .pl (.int .u64 1125899906842624), .pl (.int .u64 0), .pl (.int .u64 0), .nils], .agg [.pl (.int .i64 1), .pl (.int .u64 0), .pl (.int .u64 70368744177664), .pl (.int .u64 0), .pl (.int .u64 0), .nils]]]]], .pl (.bool true)]) [] := evFT_ok allF extF [] 300 100 _ _ _ _ _ (by kernel_rfl)
def rp2_m : Memo Try.prog := ⟨_, _, _, _, _, rp2_ok⟩


/- 792 steps -/
theorem rp3_ok : Ans Try.prog 56 [.pl (.string ⟨#[91, 97, 45, 99, 93, 43, 46, 42]⟩)] [] (.tup [.agg [.pl (.int .i64 2), .pl (.int .u64 0), .pl (.int .u64 0), .pl (.int .u64 0), .pl (.int .u64 0), .sl 6 [.agg [.pl (.int .i64 5), .pl (.int .u64 0), .pl (.int .u64 0), .pl (.int .u64 0), .pl (.int .u64 0), .sl 6 [.agg [.pl (.int .i64 1), .pl (.int .u64 0), .pl (.int .u64 60129542144), .pl (.int .u64 0), .pl (.int .u64 0), .nils]]], .agg [.pl (.int .i64 4), .pl (.int .u64 0), .pl (.int .u64 0), .pl (.int .u64 0), .pl (.int .u64 0), .sl 6 [.agg [.pl (.int .i64 1), .pl (.int .u64 18446744073709551615), .pl (.int .u64 18446744073709551615), .pl (.int .u64 18446744073709551615), .pl (.int .u64 18446744073709551615), .nils]]]]], .pl (.bool true)]) [] := evFT_ok allF extF [] 300 100 _ _ _ _ _ (by kernel_rfl)
def rp3_m : Memo Try.prog := ⟨_, _, _, _, _, rp3_ok⟩


/- 246 steps -/
theorem rp4_ok : Ans Try.prog 56 [.pl (.string ⟨#[46, 43]⟩)] [] (.tup [.agg [.pl (.int .i64 5), .pl (.int .u64 0), .pl (.int .u64 0), .pl (.int .u64 0), .pl (.int .u64 0), .sl 6 [.agg [.pl (.int .i64 1), .pl (.int .u64 18446744073709551615), .pl (.int .u64 18446744073709551615), .pl (.int .u64 18446744073709551615), .pl (.int .u64 18446744073709551615), .nils]]], .pl (.bool true)]) [] := evFT_ok allF extF [] 300 100 _ _ _ _ _ (by kernel_rfl)
def rp4_m : Memo Try.prog := ⟨_, _, _, _, _, rp4_ok⟩


/- 783 steps -/
theorem rp5_ok : Ans Try.prog 56 [.pl (.string ⟨#[40, 97, 98, 41, 42]⟩)] [] (.tup [.agg [.pl (.int .i64 4), .pl (.int .u64 0), .pl (.int .u64 0), .pl (.int .u64 0), .pl (.int .u64 0), .sl 6 [.agg [.pl (.int .i64 2), .pl (.int .u64 0), .pl (.int .u64 0), .pl (.int .u64 0), .pl (.int .u64 0), .sl 6 [.agg [.pl (.int .i64 1), .pl (.int .u64 0), .pl (.int .u64 8589934592), .pl (.int .u64 0), .pl (.int .u64 0), .nils], .agg [.pl (.int .i64 1), .pl (.int .u64 0), .pl (.int .u64 17179869184), .pl (.int .u64 0), .pl (.int .u64 0), .nils]]]]], .pl (.bool true)]) [] := evFT_ok allF extF [] 300 100 _ _ _ _ _ (by kernel_rfl)
def rp5_m : Memo Try.prog := ⟨_, _, _, _, _, rp5_ok⟩


/- 491 steps -/
theorem rp6_ok : Ans Try.prog 56 [.pl (.string ⟨#[97, 63, 98, 63]⟩)] [] (.tup [.agg [.pl (.int .i64 2), .pl (.int .u64 0), .pl (.int .u64 0), .pl (.int .u64 0), .pl (.int .u64 0), .sl 6 [.agg [.pl (.int .i64 6), .pl (.int .u64 0), .pl (.int .u64 0), .pl (.int .u64 0), .pl (.int .u64 0), .sl 6 [.agg [.pl (.int .i64 1), .pl (.int .u64 0), .pl (.int .u64 8589934592), .pl (.int .u64 0), .pl (.int .u64 0), .nils]]], .agg [.pl (.int .i64 6), .pl (.int .u64 0), .pl (.int .u64 0), .pl (.int .u64 0), .pl (.int .u64 0), .sl 6 [.agg [.pl (.int .i64 1), .pl (.int .u64 0), .pl (.int .u64 17179869184), .pl (.int .u64 0), .pl (.int .u64 0), .nils]]]]], .pl (.bool true)]) [] := evFT_ok allF extF [] 300 100 _ _ _ _ _ (by kernel_rfl)
def rp6_m : Memo Try.prog := ⟨_, _, _, _, _, rp6_ok⟩


/- 600 steps -/
theorem rp7_ok : Ans Try.prog 56 [.pl (.string ⟨#[91, 94, 97, 93, 42]⟩)] [] (.tup [.agg [.pl (.int .i64 4), .pl (.int .u64 0), .pl (.int .u64 0), .pl (.int .u64 0), .pl (.int .u64 0), .sl 6 [.agg [.pl (.int .i64 1), .pl (.int .u64 18446744073709551615), .pl (.int .u64 18446744065119617023), .pl (.int .u64 18446744073709551615), .pl (.int .u64 18446744073709551615), .nils]]], .pl (.bool true)]) [] := evFT_ok allF extF [] 300 100 _ _ _ _ _ (by kernel_rfl)
def rp7_m : Memo Try.prog := ⟨_, _, _, _, _, rp7_ok⟩


/- 2739 steps -/
theorem rp8_ok : Ans Try.prog 56 [.pl (.string ⟨#[97, 42, 97, 42, 97, 42, 97, 42, 97, 42, 97, 42, 97, 42, 97, 42, 97, 42, 97, 42, 97, 42, 97, 42, 97, 42, 97, 42]⟩)] [] (.tup [.agg [.pl (.int .i64 2), .pl (.int .u64 0), .pl (.int .u64 0), .pl (.int .u64 0), .pl (.int .u64 0), .sl 6 [.agg [.pl (.int .i64 4), .pl (.int .u64 0), .pl (.int .u64 0), .pl (.int .u64 0), .pl (.int .u64 0), .sl 6 [.agg [.pl (.int .i64 1), .pl (.int .u64 0), .pl (.int .u64 8589934592), .pl (.int .u64 0), .pl (.int .u64 0), .nils]]], .agg [.pl (.int .i64 4), .pl (.int .u64 0), .pl (.int .u64 0), .pl (.int .u64 0), .pl (.int .u64 0), .sl 6 [.agg [.pl (.int .i64 1), .pl (.int .u64 0), .pl (.int .u64 8589934592), .pl (.int .u64 0), .pl (.int .u64 0), .nils]]], .agg [.pl (.int .i64 4), .pl (.int .u64 0), .pl (.int .u64 0), .pl (.int .u64 0), .pl (.int .u64 0), .sl 6 [.agg [.pl (.int .i64 1), .pl (.int .u64 0), .pl (.int .u64 8589934592), .pl (.int .u64 0), .pl (.int .u64 0), .nils]]], .agg [.pl (.int .i64 4), .pl (.int .u64 0), .pl (.int .u64 0), .pl (.int .u64 0), .pl (.int .u64 0), .sl 6 [.agg [.pl (.int .i64 1), .pl (.int .u64 0), .pl (.int .u64 8589934592), .pl (.int .u64 0), .pl (.int .u64 0), .nils]]], .agg [.pl (.int .i64 4), .pl (.int .u64 0), .pl (.int .u64 0), .pl (.int .u64 0), .pl (.int .u64 0), .sl 6 [.agg [.pl (.int .i64 1), .pl (.int .u64 0), .pl (.int .u64 8589934592), .pl (.int .u64 0), .pl (.int .u64 0), .nils]]], .agg [.pl (.int .i64 4), .pl (.int .u64 0), .pl (.int .u64 0), .pl (.int .u64 0), .pl (.int .u64 0), .sl 6 [.agg [.pl (.int .i64 1), .pl (.int .u64 0), .pl (.int .u64 8589934592), .pl (.int .u64 0), .pl (.int .u64 0), .nils]]], .agg [.pl (.int .i64 4), .pl (.int .u64 0), .pl (.int .u64 0), .pl (.int .u64 0), .pl (.int .u64 0), .sl 6 [.agg [.pl (.int .i64 1), .pl (.int .u64 0), .pl (.int .u64 8589934592), .pl (.int .u64 0), .pl (.int .u64 0), .nils]]], .agg [.pl (.int .i64 4), .pl (.int .u64 0), .pl (.int .u64 0), .pl (.int .u64 0), .pl (.int .u64 0), .sl 6 [.agg [.pl (.int .i64 1), .pl (.int .u64 0), .pl (.int .u64 8589934592), .pl (.int .u64 0), .pl (.int .u64 0), .nils]]], .agg [.pl (.int .i64 4), .pl (.int .u64 0), .pl (.int .u64 0), .pl (.int .u64 0), .pl (.int .u64 0), .sl 6 [.agg [.pl (.int .i64 1), .pl (.int .u64 0), .pl (.int .u64 8589934592), .pl (.int .u64 0), .pl (.int .u64 0), .nils]]], .agg [.pl (.int .i64 4), .pl (.int .u64 0), .pl (.int .u64 0), .pl (.int .u64 0), .pl (.int .u64 0), .sl 6 [.agg [.pl (.int .i64 1), .pl (.int .u64 0), .pl (.int .u64 8589934592), .pl (.int .u64 0), .pl (.int .u64 0), .nils]]], .agg [.pl (.int .i64 4), .pl (.int .u64 0), .pl (.int .u64 0), .pl (.int .u64 0), .pl (.int .u64 0), .sl 6 [.agg [.pl (.int .i64 1), .pl (.int .u64 0), .pl (.int .u64 8589934592), .pl (.int .u64 0), .pl (.int .u64 0), .nils]]], .agg [.pl (.int .i64 4), .pl (.int .u64 0), .pl (.int .u64 0), .pl (.int .u64 0), .pl (.int .u64 0), .sl 6 [.agg [.pl (.int .i64 1), .pl (.int .u64 0), .pl (.int .u64 8589934592), .pl (.int .u64 0), .pl (.int .u64 0), .nils]]], .agg [.pl (.int .i64 4), .pl (.int .u64 0), .pl (.int .u64 0), .pl (.int .u64 0), .pl (.int .u64 0), .sl 6 [.agg [.pl (.int .i64 1), .pl (.int .u64 0), .pl (.int .u64 8589934592), .pl (.int .u64 0), .pl (.int .u64 0), .nils]]], .agg [.pl (.int .i64 4), .pl (.int .u64 0), .pl (.int .u64 0), .pl (.int .u64 0), .pl (.int .u64 0), .sl 6 [.agg [.pl (.int .i64 1), .pl (.int .u64 0), .pl (.int .u64 8589934592), .pl (.int .u64 0), .pl (.int .u64 0), .nils]]]]], .pl (.bool true)]) [] := evFT_ok allF extF [] 300 100 _ _ _ _ _ (by kernel_rfl)
def rp8_m : Memo Try.prog := ⟨_, _, _, _, _, rp8_ok⟩



end Go.Proofs.Ytoadgajhkhejiaa
