/- Closed runs, call by call: the kernel reckons them. No condition. -/
import Derived.Test.YtoadgajhkhejiaaMRun
import Derived.Test.YtoadgajhkhejiaaAbTree
namespace Go.Proofs.Ytoadgajhkhejiaa
open Go Go.Ab
/- 816 steps -/
theorem sm0_0_ok : Ans Try.prog 50 [.sl 7 [.agg [.pl (.int .i64 2), .pl (.int .u64 0), .pl (.int .u64 0), .pl (.int .u64 0), .pl (.int .u64 0), .pl (.int .i64 1), .pl (.int .i64 3)], .agg [.pl (.int .i64 1), .pl (.int .u64 0), .pl (.int .u64 8589934592), .pl (.int .u64 0), .pl (.int .u64 0), .pl (.int .i64 0), .pl (.int .i64 0)], .agg [.pl (.int .i64 3), .pl (.int .u64 0), .pl (.int .u64 0), .pl (.int .u64 0), .pl (.int .u64 0), .pl (.int .i64 4), .pl (.int .i64 0)], .agg [.pl (.int .i64 1), .pl (.int .u64 0), .pl (.int .u64 17179869184), .pl (.int .u64 0), .pl (.int .u64 0), .pl (.int .i64 0), .pl (.int .i64 0)], .agg [.pl (.int .i64 4), .pl (.int .u64 0), .pl (.int .u64 0), .pl (.int .u64 0), .pl (.int .u64 0), .pl (.int .i64 0), .pl (.int .i64 0)]], .pl (.string ⟨#[97]⟩)] [] (.pl (.bool true)) [] := evFT_ok allF extF [] 300 100 _ _ _ _ _ (by kernel_rfl)
def sm0_0_m : Memo Try.prog := ⟨_, _, _, _, _, sm0_0_ok⟩


/- 780 steps -/
theorem sm0_1_ok : Ans Try.prog 50 [.sl 7 [.agg [.pl (.int .i64 2), .pl (.int .u64 0), .pl (.int .u64 0), .pl (.int .u64 0), .pl (.int .u64 0), .pl (.int .i64 1), .pl (.int .i64 3)], .agg [.pl (.int .i64 1), .pl (.int .u64 0), .pl (.int .u64 8589934592), .pl (.int .u64 0), .pl (.int .u64 0), .pl (.int .i64 0), .pl (.int .i64 0)], .agg [.pl (.int .i64 3), .pl (.int .u64 0), .pl (.int .u64 0), .pl (.int .u64 0), .pl (.int .u64 0), .pl (.int .i64 4), .pl (.int .i64 0)], .agg [.pl (.int .i64 1), .pl (.int .u64 0), .pl (.int .u64 17179869184), .pl (.int .u64 0), .pl (.int .u64 0), .pl (.int .i64 0), .pl (.int .i64 0)], .agg [.pl (.int .i64 4), .pl (.int .u64 0), .pl (.int .u64 0), .pl (.int .u64 0), .pl (.int .u64 0), .pl (.int .i64 0), .pl (.int .i64 0)]], .pl (.string ⟨#[98]⟩)] [] (.pl (.bool true)) [] := evFT_ok allF extF [] 300 100 _ _ _ _ _ (by kernel_rfl)
def sm0_1_m : Memo Try.prog := ⟨_, _, _, _, _, sm0_1_ok⟩


/- 1280 steps -/
theorem sm0_2_ok : Ans Try.prog 50 [.sl 7 [.agg [.pl (.int .i64 2), .pl (.int .u64 0), .pl (.int .u64 0), .pl (.int .u64 0), .pl (.int .u64 0), .pl (.int .i64 1), .pl (.int .i64 3)], .agg [.pl (.int .i64 1), .pl (.int .u64 0), .pl (.int .u64 8589934592), .pl (.int .u64 0), .pl (.int .u64 0), .pl (.int .i64 0), .pl (.int .i64 0)], .agg [.pl (.int .i64 3), .pl (.int .u64 0), .pl (.int .u64 0), .pl (.int .u64 0), .pl (.int .u64 0), .pl (.int .i64 4), .pl (.int .i64 0)], .agg [.pl (.int .i64 1), .pl (.int .u64 0), .pl (.int .u64 17179869184), .pl (.int .u64 0), .pl (.int .u64 0), .pl (.int .i64 0), .pl (.int .i64 0)], .agg [.pl (.int .i64 4), .pl (.int .u64 0), .pl (.int .u64 0), .pl (.int .u64 0), .pl (.int .u64 0), .pl (.int .i64 0), .pl (.int .i64 0)]], .pl (.string ⟨#[99, 114, 105, 116]⟩)] [] (.pl (.bool false)) [] := evFT_ok allF extF [] 300 100 _ _ _ _ _ (by kernel_rfl)
def sm0_2_m : Memo Try.prog := ⟨_, _, _, _, _, sm0_2_ok⟩


/- 1280 steps -/
theorem sm0_3_ok : Ans Try.prog 50 [.sl 7 [.agg [.pl (.int .i64 2), .pl (.int .u64 0), .pl (.int .u64 0), .pl (.int .u64 0), .pl (.int .u64 0), .pl (.int .i64 1), .pl (.int .i64 3)], .agg [.pl (.int .i64 1), .pl (.int .u64 0), .pl (.int .u64 8589934592), .pl (.int .u64 0), .pl (.int .u64 0), .pl (.int .i64 0), .pl (.int .i64 0)], .agg [.pl (.int .i64 3), .pl (.int .u64 0), .pl (.int .u64 0), .pl (.int .u64 0), .pl (.int .u64 0), .pl (.int .i64 4), .pl (.int .i64 0)], .agg [.pl (.int .i64 1), .pl (.int .u64 0), .pl (.int .u64 17179869184), .pl (.int .u64 0), .pl (.int .u64 0), .pl (.int .i64 0), .pl (.int .i64 0)], .agg [.pl (.int .i64 4), .pl (.int .u64 0), .pl (.int .u64 0), .pl (.int .u64 0), .pl (.int .u64 0), .pl (.int .i64 0), .pl (.int .i64 0)]], .pl (.string ⟨#[119, 97, 114, 110]⟩)] [] (.pl (.bool false)) [] := evFT_ok allF extF [] 300 100 _ _ _ _ _ (by kernel_rfl)
def sm0_3_m : Memo Try.prog := ⟨_, _, _, _, _, sm0_3_ok⟩


/- 998 steps -/
theorem sm0_4_ok : Ans Try.prog 50 [.sl 7 [.agg [.pl (.int .i64 2), .pl (.int .u64 0), .pl (.int .u64 0), .pl (.int .u64 0), .pl (.int .u64 0), .pl (.int .i64 1), .pl (.int .i64 3)], .agg [.pl (.int .i64 1), .pl (.int .u64 0), .pl (.int .u64 8589934592), .pl (.int .u64 0), .pl (.int .u64 0), .pl (.int .i64 0), .pl (.int .i64 0)], .agg [.pl (.int .i64 3), .pl (.int .u64 0), .pl (.int .u64 0), .pl (.int .u64 0), .pl (.int .u64 0), .pl (.int .i64 4), .pl (.int .i64 0)], .agg [.pl (.int .i64 1), .pl (.int .u64 0), .pl (.int .u64 17179869184), .pl (.int .u64 0), .pl (.int .u64 0), .pl (.int .i64 0), .pl (.int .i64 0)], .agg [.pl (.int .i64 4), .pl (.int .u64 0), .pl (.int .u64 0), .pl (.int .u64 0), .pl (.int .u64 0), .pl (.int .i64 0), .pl (.int .i64 0)]], .pl (.string ⟨#[97, 98]⟩)] [] (.pl (.bool false)) [] := evFT_ok allF extF [] 300 100 _ _ _ _ _ (by kernel_rfl)
def sm0_4_m : Memo Try.prog := ⟨_, _, _, _, _, sm0_4_ok⟩


/- 922 steps -/
theorem sm0_5_ok : Ans Try.prog 50 [.sl 7 [.agg [.pl (.int .i64 2), .pl (.int .u64 0), .pl (.int .u64 0), .pl (.int .u64 0), .pl (.int .u64 0), .pl (.int .i64 1), .pl (.int .i64 3)], .agg [.pl (.int .i64 1), .pl (.int .u64 0), .pl (.int .u64 8589934592), .pl (.int .u64 0), .pl (.int .u64 0), .pl (.int .i64 0), .pl (.int .i64 0)], .agg [.pl (.int .i64 3), .pl (.int .u64 0), .pl (.int .u64 0), .pl (.int .u64 0), .pl (.int .u64 0), .pl (.int .i64 4), .pl (.int .i64 0)], .agg [.pl (.int .i64 1), .pl (.int .u64 0), .pl (.int .u64 17179869184), .pl (.int .u64 0), .pl (.int .u64 0), .pl (.int .i64 0), .pl (.int .i64 0)], .agg [.pl (.int .i64 4), .pl (.int .u64 0), .pl (.int .u64 0), .pl (.int .u64 0), .pl (.int .u64 0), .pl (.int .i64 0), .pl (.int .i64 0)]], .pl (.string ⟨#[0, 255]⟩)] [] (.pl (.bool false)) [] := evFT_ok allF extF [] 300 100 _ _ _ _ _ (by kernel_rfl)
def sm0_5_m : Memo Try.prog := ⟨_, _, _, _, _, sm0_5_ok⟩


/- 4936 steps -/
theorem sm0_6_ok : Ans Try.prog 50 [.sl 7 [.agg [.pl (.int .i64 2), .pl (.int .u64 0), .pl (.int .u64 0), .pl (.int .u64 0), .pl (.int .u64 0), .pl (.int .i64 1), .pl (.int .i64 3)], .agg [.pl (.int .i64 1), .pl (.int .u64 0), .pl (.int .u64 8589934592), .pl (.int .u64 0), .pl (.int .u64 0), .pl (.int .i64 0), .pl (.int .i64 0)], .agg [.pl (.int .i64 3), .pl (.int .u64 0), .pl (.int .u64 0), .pl (.int .u64 0), .pl (.int .u64 0), .pl (.int .i64 4), .pl (.int .i64 0)], .agg [.pl (.int .i64 1), .pl (.int .u64 0), .pl (.int .u64 17179869184), .pl (.int .u64 0), .pl (.int .u64 0), .pl (.int .i64 0), .pl (.int .i64 0)], .agg [.pl (.int .i64 4), .pl (.int .u64 0), .pl (.int .u64 0), .pl (.int .u64 0), .pl (.int .u64 0), .pl (.int .i64 0), .pl (.int .i64 0)]], .pl (.string ⟨#[97, 98, 97, 98, 97, 98, 97, 98, 97, 98, 97, 98, 97, 98, 97, 98, 97, 98, 97, 98, 97, 98, 97, 98]⟩)] [] (.pl (.bool false)) [] := evFT_ok allF extF [] 300 100 _ _ _ _ _ (by kernel_rfl)
def sm0_6_m : Memo Try.prog := ⟨_, _, _, _, _, sm0_6_ok⟩


/- 564 steps -/
theorem sm0_7_ok : Ans Try.prog 50 [.sl 7 [.agg [.pl (.int .i64 2), .pl (.int .u64 0), .pl (.int .u64 0), .pl (.int .u64 0), .pl (.int .u64 0), .pl (.int .i64 1), .pl (.int .i64 3)], .agg [.pl (.int .i64 1), .pl (.int .u64 0), .pl (.int .u64 8589934592), .pl (.int .u64 0), .pl (.int .u64 0), .pl (.int .i64 0), .pl (.int .i64 0)], .agg [.pl (.int .i64 3), .pl (.int .u64 0), .pl (.int .u64 0), .pl (.int .u64 0), .pl (.int .u64 0), .pl (.int .i64 4), .pl (.int .i64 0)], .agg [.pl (.int .i64 1), .pl (.int .u64 0), .pl (.int .u64 17179869184), .pl (.int .u64 0), .pl (.int .u64 0), .pl (.int .i64 0), .pl (.int .i64 0)], .agg [.pl (.int .i64 4), .pl (.int .u64 0), .pl (.int .u64 0), .pl (.int .u64 0), .pl (.int .u64 0), .pl (.int .i64 0), .pl (.int .i64 0)]], .pl (.string ⟨#[]⟩)] [] (.pl (.bool false)) [] := evFT_ok allF extF [] 300 100 _ _ _ _ _ (by kernel_rfl)
def sm0_7_m : Memo Try.prog := ⟨_, _, _, _, _, sm0_7_ok⟩


/- 220 steps -/
theorem sm1_0_ok : Ans Try.prog 50 [.sl 7 [.agg [.pl (.int .i64 4), .pl (.int .u64 0), .pl (.int .u64 0), .pl (.int .u64 0), .pl (.int .u64 0), .pl (.int .i64 0), .pl (.int .i64 0)]], .pl (.string ⟨#[97]⟩)] [] (.pl (.bool false)) [] := evFT_ok allF extF [] 300 100 _ _ _ _ _ (by kernel_rfl)
def sm1_0_m : Memo Try.prog := ⟨_, _, _, _, _, sm1_0_ok⟩


/- 220 steps -/
theorem sm1_1_ok : Ans Try.prog 50 [.sl 7 [.agg [.pl (.int .i64 4), .pl (.int .u64 0), .pl (.int .u64 0), .pl (.int .u64 0), .pl (.int .u64 0), .pl (.int .i64 0), .pl (.int .i64 0)]], .pl (.string ⟨#[98]⟩)] [] (.pl (.bool false)) [] := evFT_ok allF extF [] 300 100 _ _ _ _ _ (by kernel_rfl)
def sm1_1_m : Memo Try.prog := ⟨_, _, _, _, _, sm1_1_ok⟩


/- 385 steps -/
theorem sm1_2_ok : Ans Try.prog 50 [.sl 7 [.agg [.pl (.int .i64 4), .pl (.int .u64 0), .pl (.int .u64 0), .pl (.int .u64 0), .pl (.int .u64 0), .pl (.int .i64 0), .pl (.int .i64 0)]], .pl (.string ⟨#[99, 114, 105, 116]⟩)] [] (.pl (.bool false)) [] := evFT_ok allF extF [] 300 100 _ _ _ _ _ (by kernel_rfl)
def sm1_2_m : Memo Try.prog := ⟨_, _, _, _, _, sm1_2_ok⟩


/- 385 steps -/
theorem sm1_3_ok : Ans Try.prog 50 [.sl 7 [.agg [.pl (.int .i64 4), .pl (.int .u64 0), .pl (.int .u64 0), .pl (.int .u64 0), .pl (.int .u64 0), .pl (.int .i64 0), .pl (.int .i64 0)]], .pl (.string ⟨#[119, 97, 114, 110]⟩)] [] (.pl (.bool false)) [] := evFT_ok allF extF [] 300 100 _ _ _ _ _ (by kernel_rfl)
def sm1_3_m : Memo Try.prog := ⟨_, _, _, _, _, sm1_3_ok⟩


/- 275 steps -/
theorem sm1_4_ok : Ans Try.prog 50 [.sl 7 [.agg [.pl (.int .i64 4), .pl (.int .u64 0), .pl (.int .u64 0), .pl (.int .u64 0), .pl (.int .u64 0), .pl (.int .i64 0), .pl (.int .i64 0)]], .pl (.string ⟨#[97, 98]⟩)] [] (.pl (.bool false)) [] := evFT_ok allF extF [] 300 100 _ _ _ _ _ (by kernel_rfl)
def sm1_4_m : Memo Try.prog := ⟨_, _, _, _, _, sm1_4_ok⟩


/- 275 steps -/
theorem sm1_5_ok : Ans Try.prog 50 [.sl 7 [.agg [.pl (.int .i64 4), .pl (.int .u64 0), .pl (.int .u64 0), .pl (.int .u64 0), .pl (.int .u64 0), .pl (.int .i64 0), .pl (.int .i64 0)]], .pl (.string ⟨#[0, 255]⟩)] [] (.pl (.bool false)) [] := evFT_ok allF extF [] 300 100 _ _ _ _ _ (by kernel_rfl)
def sm1_5_m : Memo Try.prog := ⟨_, _, _, _, _, sm1_5_ok⟩


/- 1485 steps -/
theorem sm1_6_ok : Ans Try.prog 50 [.sl 7 [.agg [.pl (.int .i64 4), .pl (.int .u64 0), .pl (.int .u64 0), .pl (.int .u64 0), .pl (.int .u64 0), .pl (.int .i64 0), .pl (.int .i64 0)]], .pl (.string ⟨#[97, 98, 97, 98, 97, 98, 97, 98, 97, 98, 97, 98, 97, 98, 97, 98, 97, 98, 97, 98, 97, 98, 97, 98]⟩)] [] (.pl (.bool false)) [] := evFT_ok allF extF [] 300 100 _ _ _ _ _ (by kernel_rfl)
def sm1_6_m : Memo Try.prog := ⟨_, _, _, _, _, sm1_6_ok⟩


/- 162 steps -/
theorem sm1_7_ok : Ans Try.prog 50 [.sl 7 [.agg [.pl (.int .i64 4), .pl (.int .u64 0), .pl (.int .u64 0), .pl (.int .u64 0), .pl (.int .u64 0), .pl (.int .i64 0), .pl (.int .i64 0)]], .pl (.string ⟨#[]⟩)] [] (.pl (.bool true)) [] := evFT_ok allF extF [] 300 100 _ _ _ _ _ (by kernel_rfl)
def sm1_7_m : Memo Try.prog := ⟨_, _, _, _, _, sm1_7_ok⟩


/- 1367 steps -/
theorem sm2_0_ok : Ans Try.prog 50 [.sl 7 [.agg [.pl (.int .i64 2), .pl (.int .u64 0), .pl (.int .u64 0), .pl (.int .u64 0), .pl (.int .u64 0), .pl (.int .i64 1), .pl (.int .i64 6)], .agg [.pl (.int .i64 1), .pl (.int .u64 0), .pl (.int .u64 34359738368), .pl (.int .u64 0), .pl (.int .u64 0), .pl (.int .i64 0), .pl (.int .i64 0)], .agg [.pl (.int .i64 1), .pl (.int .u64 0), .pl (.int .u64 1125899906842624), .pl (.int .u64 0), .pl (.int .u64 0), .pl (.int .i64 0), .pl (.int .i64 0)], .agg [.pl (.int .i64 1), .pl (.int .u64 0), .pl (.int .u64 2199023255552), .pl (.int .u64 0), .pl (.int .u64 0), .pl (.int .i64 0), .pl (.int .i64 0)], .agg [.pl (.int .i64 1), .pl (.int .u64 0), .pl (.int .u64 4503599627370496), .pl (.int .u64 0), .pl (.int .u64 0), .pl (.int .i64 0), .pl (.int .i64 0)], .agg [.pl (.int .i64 3), .pl (.int .u64 0), .pl (.int .u64 0), .pl (.int .u64 0), .pl (.int .u64 0), .pl (.int .i64 10), .pl (.int .i64 0)], .agg [.pl (.int .i64 1), .pl (.int .u64 0), .pl (.int .u64 36028797018963968), .pl (.int .u64 0), .pl (.int .u64 0), .pl (.int .i64 0), .pl (.int .i64 0)], .agg [.pl (.int .i64 1), .pl (.int .u64 0), .pl (.int .u64 8589934592), .pl (.int .u64 0), .pl (.int .u64 0), .pl (.int .i64 0), .pl (.int .i64 0)], .agg [.pl (.int .i64 1), .pl (.int .u64 0), .pl (.int .u64 1125899906842624), .pl (.int .u64 0), .pl (.int .u64 0), .pl (.int .i64 0), .pl (.int .i64 0)], .agg [.pl (.int .i64 1), .pl (.int .u64 0), .pl (.int .u64 70368744177664), .pl (.int .u64 0), .pl (.int .u64 0), .pl (.int .i64 0), .pl (.int .i64 0)], .agg [.pl (.int .i64 4), .pl (.int .u64 0), .pl (.int .u64 0), .pl (.int .u64 0), .pl (.int .u64 0), .pl (.int .i64 0), .pl (.int .i64 0)]], .pl (.string ⟨#[97]⟩)] [] (.pl (.bool false)) [] := evFT_ok allF extF [] 300 100 _ _ _ _ _ (by kernel_rfl)
def sm2_0_m : Memo Try.prog := ⟨_, _, _, _, _, sm2_0_ok⟩


/- 1367 steps -/
theorem sm2_1_ok : Ans Try.prog 50 [.sl 7 [.agg [.pl (.int .i64 2), .pl (.int .u64 0), .pl (.int .u64 0), .pl (.int .u64 0), .pl (.int .u64 0), .pl (.int .i64 1), .pl (.int .i64 6)], .agg [.pl (.int .i64 1), .pl (.int .u64 0), .pl (.int .u64 34359738368), .pl (.int .u64 0), .pl (.int .u64 0), .pl (.int .i64 0), .pl (.int .i64 0)], .agg [.pl (.int .i64 1), .pl (.int .u64 0), .pl (.int .u64 1125899906842624), .pl (.int .u64 0), .pl (.int .u64 0), .pl (.int .i64 0), .pl (.int .i64 0)], .agg [.pl (.int .i64 1), .pl (.int .u64 0), .pl (.int .u64 2199023255552), .pl (.int .u64 0), .pl (.int .u64 0), .pl (.int .i64 0), .pl (.int .i64 0)], .agg [.pl (.int .i64 1), .pl (.int .u64 0), .pl (.int .u64 4503599627370496), .pl (.int .u64 0), .pl (.int .u64 0), .pl (.int .i64 0), .pl (.int .i64 0)], .agg [.pl (.int .i64 3), .pl (.int .u64 0), .pl (.int .u64 0), .pl (.int .u64 0), .pl (.int .u64 0), .pl (.int .i64 10), .pl (.int .i64 0)], .agg [.pl (.int .i64 1), .pl (.int .u64 0), .pl (.int .u64 36028797018963968), .pl (.int .u64 0), .pl (.int .u64 0), .pl (.int .i64 0), .pl (.int .i64 0)], .agg [.pl (.int .i64 1), .pl (.int .u64 0), .pl (.int .u64 8589934592), .pl (.int .u64 0), .pl (.int .u64 0), .pl (.int .i64 0), .pl (.int .i64 0)], .agg [.pl (.int .i64 1), .pl (.int .u64 0), .pl (.int .u64 1125899906842624), .pl (.int .u64 0), .pl (.int .u64 0), .pl (.int .i64 0), .pl (.int .i64 0)], .agg [.pl (.int .i64 1), .pl (.int .u64 0), .pl (.int .u64 70368744177664), .pl (.int .u64 0), .pl (.int .u64 0), .pl (.int .i64 0), .pl (.int .i64 0)], .agg [.pl (.int .i64 4), .pl (.int .u64 0), .pl (.int .u64 0), .pl (.int .u64 0), .pl (.int .u64 0), .pl (.int .i64 0), .pl (.int .i64 0)]], .pl (.string ⟨#[98]⟩)] [] (.pl (.bool false)) [] := evFT_ok allF extF [] 300 100 _ _ _ _ _ (by kernel_rfl)
def sm2_1_m : Memo Try.prog := ⟨_, _, _, _, _, sm2_1_ok⟩


/- 2655 steps -/
theorem sm2_2_ok : Ans Try.prog 50 [.sl 7 [.agg [.pl (.int .i64 2), .pl (.int .u64 0), .pl (.int .u64 0), .pl (.int .u64 0), .pl (.int .u64 0), .pl (.int .i64 1), .pl (.int .i64 6)], .agg [.pl (.int .i64 1), .pl (.int .u64 0), .pl (.int .u64 34359738368), .pl (.int .u64 0), .pl (.int .u64 0), .pl (.int .i64 0), .pl (.int .i64 0)], .agg [.pl (.int .i64 1), .pl (.int .u64 0), .pl (.int .u64 1125899906842624), .pl (.int .u64 0), .pl (.int .u64 0), .pl (.int .i64 0), .pl (.int .i64 0)], .agg [.pl (.int .i64 1), .pl (.int .u64 0), .pl (.int .u64 2199023255552), .pl (.int .u64 0), .pl (.int .u64 0), .pl (.int .i64 0), .pl (.int .i64 0)], .agg [.pl (.int .i64 1), .pl (.int .u64 0), .pl (.int .u64 4503599627370496), .pl (.int .u64 0), .pl (.int .u64 0), .pl (.int .i64 0), .pl (.int .i64 0)], .agg [.pl (.int .i64 3), .pl (.int .u64 0), .pl (.int .u64 0), .pl (.int .u64 0), .pl (.int .u64 0), .pl (.int .i64 10), .pl (.int .i64 0)], .agg [.pl (.int .i64 1), .pl (.int .u64 0), .pl (.int .u64 36028797018963968), .pl (.int .u64 0), .pl (.int .u64 0), .pl (.int .i64 0), .pl (.int .i64 0)], .agg [.pl (.int .i64 1), .pl (.int .u64 0), .pl (.int .u64 8589934592), .pl (.int .u64 0), .pl (.int .u64 0), .pl (.int .i64 0), .pl (.int .i64 0)], .agg [.pl (.int .i64 1), .pl (.int .u64 0), .pl (.int .u64 1125899906842624), .pl (.int .u64 0), .pl (.int .u64 0), .pl (.int .i64 0), .pl (.int .i64 0)], .agg [.pl (.int .i64 1), .pl (.int .u64 0), .pl (.int .u64 70368744177664), .pl (.int .u64 0), .pl (.int .u64 0), .pl (.int .i64 0), .pl (.int .i64 0)], .agg [.pl (.int .i64 4), .pl (.int .u64 0), .pl (.int .u64 0), .pl (.int .u64 0), .pl (.int .u64 0), .pl (.int .i64 0), .pl (.int .i64 0)]], .pl (.string ⟨#[99, 114, 105, 116]⟩)] [] (.pl (.bool true)) [] := evFT_ok allF extF [] 300 100 _ _ _ _ _ (by kernel_rfl)
def sm2_2_m : Memo Try.prog := ⟨_, _, _, _, _, sm2_2_ok⟩


/- 2619 steps -/
theorem sm2_3_ok : Ans Try.prog 50 [.sl 7 [.agg [.pl (.int .i64 2), .pl (.int .u64 0), .pl (.int .u64 0), .pl (.int .u64 0), .pl (.int .u64 0), .pl (.int .i64 1), .pl (.int .i64 6)], .agg [.pl (.int .i64 1), .pl (.int .u64 0), .pl (.int .u64 34359738368), .pl (.int .u64 0), .pl (.int .u64 0), .pl (.int .i64 0), .pl (.int .i64 0)], .agg [.pl (.int .i64 1), .pl (.int .u64 0), .pl (.int .u64 1125899906842624), .pl (.int .u64 0), .pl (.int .u64 0), .pl (.int .i64 0), .pl (.int .i64 0)], .agg [.pl (.int .i64 1), .pl (.int .u64 0), .pl (.int .u64 2199023255552), .pl (.int .u64 0), .pl (.int .u64 0), .pl (.int .i64 0), .pl (.int .i64 0)], .agg [.pl (.int .i64 1), .pl (.int .u64 0), .pl (.int .u64 4503599627370496), .pl (.int .u64 0), .pl (.int .u64 0), .pl (.int .i64 0), .pl (.int .i64 0)], .agg [.pl (.int .i64 3), .pl (.int .u64 0), .pl (.int .u64 0), .pl (.int .u64 0), .pl (.int .u64 0), .pl (.int .i64 10), .pl (.int .i64 0)], .agg [.pl (.int .i64 1), .pl (.int .u64 0), .pl (.int .u64 36028797018963968), .pl (.int .u64 0), .pl (.int .u64 0), .pl (.int .i64 0), .pl (.int .i64 0)], .agg [.pl (.int .i64 1), .pl (.int .u64 0), .pl (.int .u64 8589934592), .pl (.int .u64 0), .pl (.int .u64 0), .pl (.int .i64 0), .pl (.int .i64 0)], .agg [.pl (.int .i64 1), .pl (.int .u64 0), .pl (.int .u64 1125899906842624), .pl (.int .u64 0), .pl (.int .u64 0), .pl (.int .i64 0), .pl (.int .i64 0)], .agg [.pl (.int .i64 1), .pl (.int .u64 0), .pl (.int .u64 70368744177664), .pl (.int .u64 0), .pl (.int .u64 0), .pl (.int .i64 0), .pl (.int .i64 0)], .agg [.pl (.int .i64 4), .pl (.int .u64 0), .pl (.int .u64 0), .pl (.int .u64 0), .pl (.int .u64 0), .pl (.int .i64 0), .pl (.int .i64 0)]], .pl (.string ⟨#[119, 97, 114, 110]⟩)] [] (.pl (.bool true)) [] := evFT_ok allF extF [] 300 100 _ _ _ _ _ (by kernel_rfl)
def sm2_3_m : Memo Try.prog := ⟨_, _, _, _, _, sm2_3_ok⟩


/- 1732 steps -/
theorem sm2_4_ok : Ans Try.prog 50 [.sl 7 [.agg [.pl (.int .i64 2), .pl (.int .u64 0), .pl (.int .u64 0), .pl (.int .u64 0), .pl (.int .u64 0), .pl (.int .i64 1), .pl (.int .i64 6)], .agg [.pl (.int .i64 1), .pl (.int .u64 0), .pl (.int .u64 34359738368), .pl (.int .u64 0), .pl (.int .u64 0), .pl (.int .i64 0), .pl (.int .i64 0)], .agg [.pl (.int .i64 1), .pl (.int .u64 0), .pl (.int .u64 1125899906842624), .pl (.int .u64 0), .pl (.int .u64 0), .pl (.int .i64 0), .pl (.int .i64 0)], .agg [.pl (.int .i64 1), .pl (.int .u64 0), .pl (.int .u64 2199023255552), .pl (.int .u64 0), .pl (.int .u64 0), .pl (.int .i64 0), .pl (.int .i64 0)], .agg [.pl (.int .i64 1), .pl (.int .u64 0), .pl (.int .u64 4503599627370496), .pl (.int .u64 0), .pl (.int .u64 0), .pl (.int .i64 0), .pl (.int .i64 0)], .agg [.pl (.int .i64 3), .pl (.int .u64 0), .pl (.int .u64 0), .pl (.int .u64 0), .pl (.int .u64 0), .pl (.int .i64 10), .pl (.int .i64 0)], .agg [.pl (.int .i64 1), .pl (.int .u64 0), .pl (.int .u64 36028797018963968), .pl (.int .u64 0), .pl (.int .u64 0), .pl (.int .i64 0), .pl (.int .i64 0)], .agg [.pl (.int .i64 1), .pl (.int .u64 0), .pl (.int .u64 8589934592), .pl (.int .u64 0), .pl (.int .u64 0), .pl (.int .i64 0), .pl (.int .i64 0)], .agg [.pl (.int .i64 1), .pl (.int .u64 0), .pl (.int .u64 1125899906842624), .pl (.int .u64 0), .pl (.int .u64 0), .pl (.int .i64 0), .pl (.int .i64 0)], .agg [.pl (.int .i64 1), .pl (.int .u64 0), .pl (.int .u64 70368744177664), .pl (.int .u64 0), .pl (.int .u64 0), .pl (.int .i64 0), .pl (.int .i64 0)], .agg [.pl (.int .i64 4), .pl (.int .u64 0), .pl (.int .u64 0), .pl (.int .u64 0), .pl (.int .u64 0), .pl (.int .i64 0), .pl (.int .i64 0)]], .pl (.string ⟨#[97, 98]⟩)] [] (.pl (.bool false)) [] := evFT_ok allF extF [] 300 100 _ _ _ _ _ (by kernel_rfl)
def sm2_4_m : Memo Try.prog := ⟨_, _, _, _, _, sm2_4_ok⟩


/- 1732 steps -/
theorem sm2_5_ok : Ans Try.prog 50 [.sl 7 [.agg [.pl (.int .i64 2), .pl (.int .u64 0), .pl (.int .u64 0), .pl (.int .u64 0), .pl (.int .u64 0), .pl (.int .i64 1), .pl (.int .i64 6)], .agg [.pl (.int .i64 1), .pl (.int .u64 0), .pl (.int .u64 34359738368), .pl (.int .u64 0), .pl (.int .u64 0), .pl (.int .i64 0), .pl (.int .i64 0)], .agg [.pl (.int .i64 1), .pl (.int .u64 0), .pl (.int .u64 1125899906842624), .pl (.int .u64 0), .pl (.int .u64 0), .pl (.int .i64 0), .pl (.int .i64 0)], .agg [.pl (.int .i64 1), .pl (.int .u64 0), .pl (.int .u64 2199023255552), .pl (.int .u64 0), .pl (.int .u64 0), .pl (.int .i64 0), .pl (.int .i64 0)], .agg [.pl (.int .i64 1), .pl (.int .u64 0), .pl (.int .u64 4503599627370496), .pl (.int .u64 0), .pl (.int .u64 0), .pl (.int .i64 0), .pl (.int .i64 0)], .agg [.pl (.int .i64 3), .pl (.int .u64 0), .pl (.int .u64 0), .pl (.int .u64 0), .pl (.int .u64 0), .pl (.int .i64 10), .pl (.int .i64 0)], .agg [.pl (.int .i64 1), .pl (.int .u64 0), .pl (.int .u64 36028797018963968), .pl (.int .u64 0), .pl (.int .u64 0), .pl (.int .i64 0), .pl (.int .i64 0)], .agg [.pl (.int .i64 1), .pl (.int .u64 0), .pl (.int .u64 8589934592), .pl (.int .u64 0), .pl (.int .u64 0), .pl (.int .i64 0), .pl (.int .i64 0)], .agg [.pl (.int .i64 1), .pl (.int .u64 0), .pl (.int .u64 1125899906842624), .pl (.int .u64 0), .pl (.int .u64 0), .pl (.int .i64 0), .pl (.int .i64 0)], .agg [.pl (.int .i64 1), .pl (.int .u64 0), .pl (.int .u64 70368744177664), .pl (.int .u64 0), .pl (.int .u64 0), .pl (.int .i64 0), .pl (.int .i64 0)], .agg [.pl (.int .i64 4), .pl (.int .u64 0), .pl (.int .u64 0), .pl (.int .u64 0), .pl (.int .u64 0), .pl (.int .i64 0), .pl (.int .i64 0)]], .pl (.string ⟨#[0, 255]⟩)] [] (.pl (.bool false)) [] := evFT_ok allF extF [] 300 100 _ _ _ _ _ (by kernel_rfl)
def sm2_5_m : Memo Try.prog := ⟨_, _, _, _, _, sm2_5_ok⟩


/- 9759 steps -/
theorem sm2_6_ok : Ans Try.prog 50 [.sl 7 [.agg [.pl (.int .i64 2), .pl (.int .u64 0), .pl (.int .u64 0), .pl (.int .u64 0), .pl (.int .u64 0), .pl (.int .i64 1), .pl (.int .i64 6)], .agg [.pl (.int .i64 1), .pl (.int .u64 0), .pl (.int .u64 34359738368), .pl (.int .u64 0), .pl (.int .u64 0), .pl (.int .i64 0), .pl (.int .i64 0)], .agg [.pl (.int .i64 1), .pl (.int .u64 0), .pl (.int .u64 1125899906842624), .pl (.int .u64 0), .pl (.int .u64 0), .pl (.int .i64 0), .pl (.int .i64 0)], .agg [.pl (.int .i64 1), .pl (.int .u64 0), .pl (.int .u64 2199023255552), .pl (.int .u64 0), .pl (.int .u64 0), .pl (.int .i64 0), .pl (.int .i64 0)], .agg [.pl (.int .i64 1), .pl (.int .u64 0), .pl (.int .u64 4503599627370496), .pl (.int .u64 0), .pl (.int .u64 0), .pl (.int .i64 0), .pl (.int .i64 0)], .agg [.pl (.int .i64 3), .pl (.int .u64 0), .pl (.int .u64 0), .pl (.int .u64 0), .pl (.int .u64 0), .pl (.int .i64 10), .pl (.int .i64 0)], .agg [.pl (.int .i64 1), .pl (.int .u64 0), .pl (.int .u64 36028797018963968), .pl (.int .u64 0), .pl (.int .u64 0), .pl (.int .i64 0), .pl (.int .i64 0)], .agg [.pl (.int .i64 1), .pl (.int .u64 0), .pl (.int .u64 8589934592), .pl (.int .u64 0), .pl (.int .u64 0), .pl (.int .i64 0), .pl (.int .i64 0)], .agg [.pl (.int .i64 1), .pl (.int .u64 0), .pl (.int .u64 1125899906842624), .pl (.int .u64 0), .pl (.int .u64 0), .pl (.int .i64 0), .pl (.int .i64 0)], .agg [.pl (.int .i64 1), .pl (.int .u64 0), .pl (.int .u64 70368744177664), .pl (.int .u64 0), .pl (.int .u64 0), .pl (.int .i64 0), .pl (.int .i64 0)], .agg [.pl (.int .i64 4), .pl (.int .u64 0), .pl (.int .u64 0), .pl (.int .u64 0), .pl (.int .u64 0), .pl (.int .i64 0), .pl (.int .i64 0)]], .pl (.string ⟨#[97, 98, 97, 98, 97, 98, 97, 98, 97, 98, 97, 98, 97, 98, 97, 98, 97, 98, 97, 98, 97, 98, 97, 98]⟩)] [] (.pl (.bool false)) [] := evFT_ok allF extF [] 300 100 _ _ _ _ _ (by kernel_rfl)
def sm2_6_m : Memo Try.prog := ⟨_, _, _, _, _, sm2_6_ok⟩


/- 1002 steps -/
theorem sm2_7_ok : Ans Try.prog 50 [.sl 7 [.agg [.pl (.int .i64 2), .pl (.int .u64 0), .pl (.int .u64 0), .pl (.int .u64 0), .pl (.int .u64 0), .pl (.int .i64 1), .pl (.int .i64 6)], .agg [.pl (.int .i64 1), .pl (.int .u64 0), .pl (.int .u64 34359738368), .pl (.int .u64 0), .pl (.int .u64 0), .pl (.int .i64 0), .pl (.int .i64 0)], .agg [.pl (.int .i64 1), .pl (.int .u64 0), .pl (.int .u64 1125899906842624), .pl (.int .u64 0), .pl (.int .u64 0), .pl (.int .i64 0), .pl (.int .i64 0)], .agg [.pl (.int .i64 1), .pl (.int .u64 0), .pl (.int .u64 2199023255552), .pl (.int .u64 0), .pl (.int .u64 0), .pl (.int .i64 0), .pl (.int .i64 0)], .agg [.pl (.int .i64 1), .pl (.int .u64 0), .pl (.int .u64 4503599627370496), .pl (.int .u64 0), .pl (.int .u64 0), .pl (.int .i64 0), .pl (.int .i64 0)], .agg [.pl (.int .i64 3), .pl (.int .u64 0), .pl (.int .u64 0), .pl (.int .u64 0), .pl (.int .u64 0), .pl (.int .i64 10), .pl (.int .i64 0)], .agg [.pl (.int .i64 1), .pl (.int .u64 0), .pl (.int .u64 36028797018963968), .pl (.int .u64 0), .pl (.int .u64 0), .pl (.int .i64 0), .pl (.int .i64 0)], .agg [.pl (.int .i64 1), .pl (.int .u64 0), .pl (.int .u64 8589934592), .pl (.int .u64 0), .pl (.int .u64 0), .pl (.int .i64 0), .pl (.int .i64 0)], .agg [.pl (.int .i64 1), .pl (.int .u64 0), .pl (.int .u64 1125899906842624), .pl (.int .u64 0), .pl (.int .u64 0), .pl (.int .i64 0), .pl (.int .i64 0)], .agg [.pl (.int .i64 1), .pl (.int .u64 0), .pl (.int .u64 70368744177664), .pl (.int .u64 0), .pl (.int .u64 0), .pl (.int .i64 0), .pl (.int .i64 0)], .agg [.pl (.int .i64 4), .pl (.int .u64 0), .pl (.int .u64 0), .pl (.int .u64 0), .pl (.int .u64 0), .pl (.int .i64 0), .pl (.int .i64 0)]], .pl (.string ⟨#[]⟩)] [] (.pl (.bool false)) [] := evFT_ok allF extF [] 300 100 _ _ _ _ _ (by kernel_rfl)
def sm2_7_m : Memo Try.prog := ⟨_, _, _, _, _, sm2_7_ok⟩


/- 979 steps -/
theorem sm3_0_ok : Ans Try.prog 50 [.sl 7 [.agg [.pl (.int .i64 1), .pl (.int .u64 0), .pl (.int .u64 60129542144), .pl (.int .u64 0), .pl (.int .u64 0), .pl (.int .i64 0), .pl (.int .i64 0)], .agg [.pl (.int .i64 2), .pl (.int .u64 0), .pl (.int .u64 0), .pl (.int .u64 0), .pl (.int .u64 0), .pl (.int .i64 0), .pl (.int .i64 2)], .agg [.pl (.int .i64 2), .pl (.int .u64 0), .pl (.int .u64 0), .pl (.int .u64 0), .pl (.int .u64 0), .pl (.int .i64 3), .pl (.int .i64 5)], .agg [.pl (.int .i64 1), .pl (.int .u64 18446744073709551615), .pl (.int .u64 18446744073709551615), .pl (.int .u64 18446744073709551615), .pl (.int .u64 18446744073709551615), .pl (.int .i64 0), .pl (.int .i64 0)], .agg [.pl (.int .i64 3), .pl (.int .u64 0), .pl (.int .u64 0), .pl (.int .u64 0), .pl (.int .u64 0), .pl (.int .i64 2), .pl (.int .i64 0)], .agg [.pl (.int .i64 4), .pl (.int .u64 0), .pl (.int .u64 0), .pl (.int .u64 0), .pl (.int .u64 0), .pl (.int .i64 0), .pl (.int .i64 0)]], .pl (.string ⟨#[97]⟩)] [] (.pl (.bool true)) [] := evFT_ok allF extF [] 300 100 _ _ _ _ _ (by kernel_rfl)
def sm3_0_m : Memo Try.prog := ⟨_, _, _, _, _, sm3_0_ok⟩


/- 979 steps -/
theorem sm3_1_ok : Ans Try.prog 50 [.sl 7 [.agg [.pl (.int .i64 1), .pl (.int .u64 0), .pl (.int .u64 60129542144), .pl (.int .u64 0), .pl (.int .u64 0), .pl (.int .i64 0), .pl (.int .i64 0)], .agg [.pl (.int .i64 2), .pl (.int .u64 0), .pl (.int .u64 0), .pl (.int .u64 0), .pl (.int .u64 0), .pl (.int .i64 0), .pl (.int .i64 2)], .agg [.pl (.int .i64 2), .pl (.int .u64 0), .pl (.int .u64 0), .pl (.int .u64 0), .pl (.int .u64 0), .pl (.int .i64 3), .pl (.int .i64 5)], .agg [.pl (.int .i64 1), .pl (.int .u64 18446744073709551615), .pl (.int .u64 18446744073709551615), .pl (.int .u64 18446744073709551615), .pl (.int .u64 18446744073709551615), .pl (.int .i64 0), .pl (.int .i64 0)], .agg [.pl (.int .i64 3), .pl (.int .u64 0), .pl (.int .u64 0), .pl (.int .u64 0), .pl (.int .u64 0), .pl (.int .i64 2), .pl (.int .i64 0)], .agg [.pl (.int .i64 4), .pl (.int .u64 0), .pl (.int .u64 0), .pl (.int .u64 0), .pl (.int .u64 0), .pl (.int .i64 0), .pl (.int .i64 0)]], .pl (.string ⟨#[98]⟩)] [] (.pl (.bool true)) [] := evFT_ok allF extF [] 300 100 _ _ _ _ _ (by kernel_rfl)
def sm3_1_m : Memo Try.prog := ⟨_, _, _, _, _, sm3_1_ok⟩


/- 2056 steps -/
theorem sm3_2_ok : Ans Try.prog 50 [.sl 7 [.agg [.pl (.int .i64 1), .pl (.int .u64 0), .pl (.int .u64 60129542144), .pl (.int .u64 0), .pl (.int .u64 0), .pl (.int .i64 0), .pl (.int .i64 0)], .agg [.pl (.int .i64 2), .pl (.int .u64 0), .pl (.int .u64 0), .pl (.int .u64 0), .pl (.int .u64 0), .pl (.int .i64 0), .pl (.int .i64 2)], .agg [.pl (.int .i64 2), .pl (.int .u64 0), .pl (.int .u64 0), .pl (.int .u64 0), .pl (.int .u64 0), .pl (.int .i64 3), .pl (.int .i64 5)], .agg [.pl (.int .i64 1), .pl (.int .u64 18446744073709551615), .pl (.int .u64 18446744073709551615), .pl (.int .u64 18446744073709551615), .pl (.int .u64 18446744073709551615), .pl (.int .i64 0), .pl (.int .i64 0)], .agg [.pl (.int .i64 3), .pl (.int .u64 0), .pl (.int .u64 0), .pl (.int .u64 0), .pl (.int .u64 0), .pl (.int .i64 2), .pl (.int .i64 0)], .agg [.pl (.int .i64 4), .pl (.int .u64 0), .pl (.int .u64 0), .pl (.int .u64 0), .pl (.int .u64 0), .pl (.int .i64 0), .pl (.int .i64 0)]], .pl (.string ⟨#[99, 114, 105, 116]⟩)] [] (.pl (.bool true)) [] := evFT_ok allF extF [] 300 100 _ _ _ _ _ (by kernel_rfl)
def sm3_2_m : Memo Try.prog := ⟨_, _, _, _, _, sm3_2_ok⟩


/- 1426 steps -/
theorem sm3_3_ok : Ans Try.prog 50 [.sl 7 [.agg [.pl (.int .i64 1), .pl (.int .u64 0), .pl (.int .u64 60129542144), .pl (.int .u64 0), .pl (.int .u64 0), .pl (.int .i64 0), .pl (.int .i64 0)], .agg [.pl (.int .i64 2), .pl (.int .u64 0), .pl (.int .u64 0), .pl (.int .u64 0), .pl (.int .u64 0), .pl (.int .i64 0), .pl (.int .i64 2)], .agg [.pl (.int .i64 2), .pl (.int .u64 0), .pl (.int .u64 0), .pl (.int .u64 0), .pl (.int .u64 0), .pl (.int .i64 3), .pl (.int .i64 5)], .agg [.pl (.int .i64 1), .pl (.int .u64 18446744073709551615), .pl (.int .u64 18446744073709551615), .pl (.int .u64 18446744073709551615), .pl (.int .u64 18446744073709551615), .pl (.int .i64 0), .pl (.int .i64 0)], .agg [.pl (.int .i64 3), .pl (.int .u64 0), .pl (.int .u64 0), .pl (.int .u64 0), .pl (.int .u64 0), .pl (.int .i64 2), .pl (.int .i64 0)], .agg [.pl (.int .i64 4), .pl (.int .u64 0), .pl (.int .u64 0), .pl (.int .u64 0), .pl (.int .u64 0), .pl (.int .i64 0), .pl (.int .i64 0)]], .pl (.string ⟨#[119, 97, 114, 110]⟩)] [] (.pl (.bool false)) [] := evFT_ok allF extF [] 300 100 _ _ _ _ _ (by kernel_rfl)
def sm3_3_m : Memo Try.prog := ⟨_, _, _, _, _, sm3_3_ok⟩


/- 1429 steps -/
theorem sm3_4_ok : Ans Try.prog 50 [.sl 7 [.agg [.pl (.int .i64 1), .pl (.int .u64 0), .pl (.int .u64 60129542144), .pl (.int .u64 0), .pl (.int .u64 0), .pl (.int .i64 0), .pl (.int .i64 0)], .agg [.pl (.int .i64 2), .pl (.int .u64 0), .pl (.int .u64 0), .pl (.int .u64 0), .pl (.int .u64 0), .pl (.int .i64 0), .pl (.int .i64 2)], .agg [.pl (.int .i64 2), .pl (.int .u64 0), .pl (.int .u64 0), .pl (.int .u64 0), .pl (.int .u64 0), .pl (.int .i64 3), .pl (.int .i64 5)], .agg [.pl (.int .i64 1), .pl (.int .u64 18446744073709551615), .pl (.int .u64 18446744073709551615), .pl (.int .u64 18446744073709551615), .pl (.int .u64 18446744073709551615), .pl (.int .i64 0), .pl (.int .i64 0)], .agg [.pl (.int .i64 3), .pl (.int .u64 0), .pl (.int .u64 0), .pl (.int .u64 0), .pl (.int .u64 0), .pl (.int .i64 2), .pl (.int .i64 0)], .agg [.pl (.int .i64 4), .pl (.int .u64 0), .pl (.int .u64 0), .pl (.int .u64 0), .pl (.int .u64 0), .pl (.int .i64 0), .pl (.int .i64 0)]], .pl (.string ⟨#[97, 98]⟩)] [] (.pl (.bool true)) [] := evFT_ok allF extF [] 300 100 _ _ _ _ _ (by kernel_rfl)
def sm3_4_m : Memo Try.prog := ⟨_, _, _, _, _, sm3_4_ok⟩


/- 1006 steps -/
theorem sm3_5_ok : Ans Try.prog 50 [.sl 7 [.agg [.pl (.int .i64 1), .pl (.int .u64 0), .pl (.int .u64 60129542144), .pl (.int .u64 0), .pl (.int .u64 0), .pl (.int .i64 0), .pl (.int .i64 0)], .agg [.pl (.int .i64 2), .pl (.int .u64 0), .pl (.int .u64 0), .pl (.int .u64 0), .pl (.int .u64 0), .pl (.int .i64 0), .pl (.int .i64 2)], .agg [.pl (.int .i64 2), .pl (.int .u64 0), .pl (.int .u64 0), .pl (.int .u64 0), .pl (.int .u64 0), .pl (.int .i64 3), .pl (.int .i64 5)], .agg [.pl (.int .i64 1), .pl (.int .u64 18446744073709551615), .pl (.int .u64 18446744073709551615), .pl (.int .u64 18446744073709551615), .pl (.int .u64 18446744073709551615), .pl (.int .i64 0), .pl (.int .i64 0)], .agg [.pl (.int .i64 3), .pl (.int .u64 0), .pl (.int .u64 0), .pl (.int .u64 0), .pl (.int .u64 0), .pl (.int .i64 2), .pl (.int .i64 0)], .agg [.pl (.int .i64 4), .pl (.int .u64 0), .pl (.int .u64 0), .pl (.int .u64 0), .pl (.int .u64 0), .pl (.int .i64 0), .pl (.int .i64 0)]], .pl (.string ⟨#[0, 255]⟩)] [] (.pl (.bool false)) [] := evFT_ok allF extF [] 300 100 _ _ _ _ _ (by kernel_rfl)
def sm3_5_m : Memo Try.prog := ⟨_, _, _, _, _, sm3_5_ok⟩


/- 11326 steps -/
theorem sm3_6_ok : Ans Try.prog 50 [.sl 7 [.agg [.pl (.int .i64 1), .pl (.int .u64 0), .pl (.int .u64 60129542144), .pl (.int .u64 0), .pl (.int .u64 0), .pl (.int .i64 0), .pl (.int .i64 0)], .agg [.pl (.int .i64 2), .pl (.int .u64 0), .pl (.int .u64 0), .pl (.int .u64 0), .pl (.int .u64 0), .pl (.int .i64 0), .pl (.int .i64 2)], .agg [.pl (.int .i64 2), .pl (.int .u64 0), .pl (.int .u64 0), .pl (.int .u64 0), .pl (.int .u64 0), .pl (.int .i64 3), .pl (.int .i64 5)], .agg [.pl (.int .i64 1), .pl (.int .u64 18446744073709551615), .pl (.int .u64 18446744073709551615), .pl (.int .u64 18446744073709551615), .pl (.int .u64 18446744073709551615), .pl (.int .i64 0), .pl (.int .i64 0)], .agg [.pl (.int .i64 3), .pl (.int .u64 0), .pl (.int .u64 0), .pl (.int .u64 0), .pl (.int .u64 0), .pl (.int .i64 2), .pl (.int .i64 0)], .agg [.pl (.int .i64 4), .pl (.int .u64 0), .pl (.int .u64 0), .pl (.int .u64 0), .pl (.int .u64 0), .pl (.int .i64 0), .pl (.int .i64 0)]], .pl (.string ⟨#[97, 98, 97, 98, 97, 98, 97, 98, 97, 98, 97, 98, 97, 98, 97, 98, 97, 98, 97, 98, 97, 98, 97, 98]⟩)] [] (.pl (.bool true)) [] := evFT_ok allF extF [] 300 100 _ _ _ _ _ (by kernel_rfl)
def sm3_6_m : Memo Try.prog := ⟨_, _, _, _, _, sm3_6_ok⟩


/- 586 steps -/
theorem sm3_7_ok : Ans Try.prog 50 [.sl 7 [.agg [.pl (.int .i64 1), .pl (.int .u64 0), .pl (.int .u64 60129542144), .pl (.int .u64 0), .pl (.int .u64 0), .pl (.int .i64 0), .pl (.int .i64 0)], .agg [.pl (.int .i64 2), .pl (.int .u64 0), .pl (.int .u64 0), .pl (.int .u64 0), .pl (.int .u64 0), .pl (.int .i64 0), .pl (.int .i64 2)], .agg [.pl (.int .i64 2), .pl (.int .u64 0), .pl (.int .u64 0), .pl (.int .u64 0), .pl (.int .u64 0), .pl (.int .i64 3), .pl (.int .i64 5)], .agg [.pl (.int .i64 1), .pl (.int .u64 18446744073709551615), .pl (.int .u64 18446744073709551615), .pl (.int .u64 18446744073709551615), .pl (.int .u64 18446744073709551615), .pl (.int .i64 0), .pl (.int .i64 0)], .agg [.pl (.int .i64 3), .pl (.int .u64 0), .pl (.int .u64 0), .pl (.int .u64 0), .pl (.int .u64 0), .pl (.int .i64 2), .pl (.int .i64 0)], .agg [.pl (.int .i64 4), .pl (.int .u64 0), .pl (.int .u64 0), .pl (.int .u64 0), .pl (.int .u64 0), .pl (.int .i64 0), .pl (.int .i64 0)]], .pl (.string ⟨#[]⟩)] [] (.pl (.bool false)) [] := evFT_ok allF extF [] 300 100 _ _ _ _ _ (by kernel_rfl)
def sm3_7_m : Memo Try.prog := ⟨_, _, _, _, _, sm3_7_ok⟩


/- 560 steps -/
theorem sm4_0_ok : Ans Try.prog 50 [.sl 7 [.agg [.pl (.int .i64 1), .pl (.int .u64 18446744073709551615), .pl (.int .u64 18446744073709551615), .pl (.int .u64 18446744073709551615), .pl (.int .u64 18446744073709551615), .pl (.int .i64 0), .pl (.int .i64 0)], .agg [.pl (.int .i64 2), .pl (.int .u64 0), .pl (.int .u64 0), .pl (.int .u64 0), .pl (.int .u64 0), .pl (.int .i64 0), .pl (.int .i64 2)], .agg [.pl (.int .i64 4), .pl (.int .u64 0), .pl (.int .u64 0), .pl (.int .u64 0), .pl (.int .u64 0), .pl (.int .i64 0), .pl (.int .i64 0)]], .pl (.string ⟨#[97]⟩)] [] (.pl (.bool true)) [] := evFT_ok allF extF [] 300 100 _ _ _ _ _ (by kernel_rfl)
def sm4_0_m : Memo Try.prog := ⟨_, _, _, _, _, sm4_0_ok⟩


/- 560 steps -/
theorem sm4_1_ok : Ans Try.prog 50 [.sl 7 [.agg [.pl (.int .i64 1), .pl (.int .u64 18446744073709551615), .pl (.int .u64 18446744073709551615), .pl (.int .u64 18446744073709551615), .pl (.int .u64 18446744073709551615), .pl (.int .i64 0), .pl (.int .i64 0)], .agg [.pl (.int .i64 2), .pl (.int .u64 0), .pl (.int .u64 0), .pl (.int .u64 0), .pl (.int .u64 0), .pl (.int .i64 0), .pl (.int .i64 2)], .agg [.pl (.int .i64 4), .pl (.int .u64 0), .pl (.int .u64 0), .pl (.int .u64 0), .pl (.int .u64 0), .pl (.int .i64 0), .pl (.int .i64 0)]], .pl (.string ⟨#[98]⟩)] [] (.pl (.bool true)) [] := evFT_ok allF extF [] 300 100 _ _ _ _ _ (by kernel_rfl)
def sm4_1_m : Memo Try.prog := ⟨_, _, _, _, _, sm4_1_ok⟩


/- 1250 steps -/
theorem sm4_2_ok : Ans Try.prog 50 [.sl 7 [.agg [.pl (.int .i64 1), .pl (.int .u64 18446744073709551615), .pl (.int .u64 18446744073709551615), .pl (.int .u64 18446744073709551615), .pl (.int .u64 18446744073709551615), .pl (.int .i64 0), .pl (.int .i64 0)], .agg [.pl (.int .i64 2), .pl (.int .u64 0), .pl (.int .u64 0), .pl (.int .u64 0), .pl (.int .u64 0), .pl (.int .i64 0), .pl (.int .i64 2)], .agg [.pl (.int .i64 4), .pl (.int .u64 0), .pl (.int .u64 0), .pl (.int .u64 0), .pl (.int .u64 0), .pl (.int .i64 0), .pl (.int .i64 0)]], .pl (.string ⟨#[99, 114, 105, 116]⟩)] [] (.pl (.bool true)) [] := evFT_ok allF extF [] 300 100 _ _ _ _ _ (by kernel_rfl)
def sm4_2_m : Memo Try.prog := ⟨_, _, _, _, _, sm4_2_ok⟩


/- 1250 steps -/
theorem sm4_3_ok : Ans Try.prog 50 [.sl 7 [.agg [.pl (.int .i64 1), .pl (.int .u64 18446744073709551615), .pl (.int .u64 18446744073709551615), .pl (.int .u64 18446744073709551615), .pl (.int .u64 18446744073709551615), .pl (.int .i64 0), .pl (.int .i64 0)], .agg [.pl (.int .i64 2), .pl (.int .u64 0), .pl (.int .u64 0), .pl (.int .u64 0), .pl (.int .u64 0), .pl (.int .i64 0), .pl (.int .i64 2)], .agg [.pl (.int .i64 4), .pl (.int .u64 0), .pl (.int .u64 0), .pl (.int .u64 0), .pl (.int .u64 0), .pl (.int .i64 0), .pl (.int .i64 0)]], .pl (.string ⟨#[119, 97, 114, 110]⟩)] [] (.pl (.bool true)) [] := evFT_ok allF extF [] 300 100 _ _ _ _ _ (by kernel_rfl)
def sm4_3_m : Memo Try.prog := ⟨_, _, _, _, _, sm4_3_ok⟩


/- 790 steps -/
theorem sm4_4_ok : Ans Try.prog 50 [.sl 7 [.agg [.pl (.int .i64 1), .pl (.int .u64 18446744073709551615), .pl (.int .u64 18446744073709551615), .pl (.int .u64 18446744073709551615), .pl (.int .u64 18446744073709551615), .pl (.int .i64 0), .pl (.int .i64 0)], .agg [.pl (.int .i64 2), .pl (.int .u64 0), .pl (.int .u64 0), .pl (.int .u64 0), .pl (.int .u64 0), .pl (.int .i64 0), .pl (.int .i64 2)], .agg [.pl (.int .i64 4), .pl (.int .u64 0), .pl (.int .u64 0), .pl (.int .u64 0), .pl (.int .u64 0), .pl (.int .i64 0), .pl (.int .i64 0)]], .pl (.string ⟨#[97, 98]⟩)] [] (.pl (.bool true)) [] := evFT_ok allF extF [] 300 100 _ _ _ _ _ (by kernel_rfl)
def sm4_4_m : Memo Try.prog := ⟨_, _, _, _, _, sm4_4_ok⟩


/- 790 steps -/
theorem sm4_5_ok : Ans Try.prog 50 [.sl 7 [.agg [.pl (.int .i64 1), .pl (.int .u64 18446744073709551615), .pl (.int .u64 18446744073709551615), .pl (.int .u64 18446744073709551615), .pl (.int .u64 18446744073709551615), .pl (.int .i64 0), .pl (.int .i64 0)], .agg [.pl (.int .i64 2), .pl (.int .u64 0), .pl (.int .u64 0), .pl (.int .u64 0), .pl (.int .u64 0), .pl (.int .i64 0), .pl (.int .i64 2)], .agg [.pl (.int .i64 4), .pl (.int .u64 0), .pl (.int .u64 0), .pl (.int .u64 0), .pl (.int .u64 0), .pl (.int .i64 0), .pl (.int .i64 0)]], .pl (.string ⟨#[0, 255]⟩)] [] (.pl (.bool true)) [] := evFT_ok allF extF [] 300 100 _ _ _ _ _ (by kernel_rfl)
def sm4_5_m : Memo Try.prog := ⟨_, _, _, _, _, sm4_5_ok⟩


/- 5850 steps -/
theorem sm4_6_ok : Ans Try.prog 50 [.sl 7 [.agg [.pl (.int .i64 1), .pl (.int .u64 18446744073709551615), .pl (.int .u64 18446744073709551615), .pl (.int .u64 18446744073709551615), .pl (.int .u64 18446744073709551615), .pl (.int .i64 0), .pl (.int .i64 0)], .agg [.pl (.int .i64 2), .pl (.int .u64 0), .pl (.int .u64 0), .pl (.int .u64 0), .pl (.int .u64 0), .pl (.int .i64 0), .pl (.int .i64 2)], .agg [.pl (.int .i64 4), .pl (.int .u64 0), .pl (.int .u64 0), .pl (.int .u64 0), .pl (.int .u64 0), .pl (.int .i64 0), .pl (.int .i64 0)]], .pl (.string ⟨#[97, 98, 97, 98, 97, 98, 97, 98, 97, 98, 97, 98, 97, 98, 97, 98, 97, 98, 97, 98, 97, 98, 97, 98]⟩)] [] (.pl (.bool true)) [] := evFT_ok allF extF [] 300 100 _ _ _ _ _ (by kernel_rfl)
def sm4_6_m : Memo Try.prog := ⟨_, _, _, _, _, sm4_6_ok⟩


/- 333 steps -/
theorem sm4_7_ok : Ans Try.prog 50 [.sl 7 [.agg [.pl (.int .i64 1), .pl (.int .u64 18446744073709551615), .pl (.int .u64 18446744073709551615), .pl (.int .u64 18446744073709551615), .pl (.int .u64 18446744073709551615), .pl (.int .i64 0), .pl (.int .i64 0)], .agg [.pl (.int .i64 2), .pl (.int .u64 0), .pl (.int .u64 0), .pl (.int .u64 0), .pl (.int .u64 0), .pl (.int .i64 0), .pl (.int .i64 2)], .agg [.pl (.int .i64 4), .pl (.int .u64 0), .pl (.int .u64 0), .pl (.int .u64 0), .pl (.int .u64 0), .pl (.int .i64 0), .pl (.int .i64 0)]], .pl (.string ⟨#[]⟩)] [] (.pl (.bool false)) [] := evFT_ok allF extF [] 300 100 _ _ _ _ _ (by kernel_rfl)
def sm4_7_m : Memo Try.prog := ⟨_, _, _, _, _, sm4_7_ok⟩


/- 783 steps -/
theorem sm5_0_ok : Ans Try.prog 50 [.sl 7 [.agg [.pl (.int .i64 2), .pl (.int .u64 0), .pl (.int .u64 0), .pl (.int .u64 0), .pl (.int .u64 0), .pl (.int .i64 1), .pl (.int .i64 4)], .agg [.pl (.int .i64 1), .pl (.int .u64 0), .pl (.int .u64 8589934592), .pl (.int .u64 0), .pl (.int .u64 0), .pl (.int .i64 0), .pl (.int .i64 0)], .agg [.pl (.int .i64 1), .pl (.int .u64 0), .pl (.int .u64 17179869184), .pl (.int .u64 0), .pl (.int .u64 0), .pl (.int .i64 0), .pl (.int .i64 0)], .agg [.pl (.int .i64 3), .pl (.int .u64 0), .pl (.int .u64 0), .pl (.int .u64 0), .pl (.int .u64 0), .pl (.int .i64 0), .pl (.int .i64 0)], .agg [.pl (.int .i64 4), .pl (.int .u64 0), .pl (.int .u64 0), .pl (.int .u64 0), .pl (.int .u64 0), .pl (.int .i64 0), .pl (.int .i64 0)]], .pl (.string ⟨#[97]⟩)] [] (.pl (.bool false)) [] := evFT_ok allF extF [] 300 100 _ _ _ _ _ (by kernel_rfl)
def sm5_0_m : Memo Try.prog := ⟨_, _, _, _, _, sm5_0_ok⟩


/- 743 steps -/
theorem sm5_1_ok : Ans Try.prog 50 [.sl 7 [.agg [.pl (.int .i64 2), .pl (.int .u64 0), .pl (.int .u64 0), .pl (.int .u64 0), .pl (.int .u64 0), .pl (.int .i64 1), .pl (.int .i64 4)], .agg [.pl (.int .i64 1), .pl (.int .u64 0), .pl (.int .u64 8589934592), .pl (.int .u64 0), .pl (.int .u64 0), .pl (.int .i64 0), .pl (.int .i64 0)], .agg [.pl (.int .i64 1), .pl (.int .u64 0), .pl (.int .u64 17179869184), .pl (.int .u64 0), .pl (.int .u64 0), .pl (.int .i64 0), .pl (.int .i64 0)], .agg [.pl (.int .i64 3), .pl (.int .u64 0), .pl (.int .u64 0), .pl (.int .u64 0), .pl (.int .u64 0), .pl (.int .i64 0), .pl (.int .i64 0)], .agg [.pl (.int .i64 4), .pl (.int .u64 0), .pl (.int .u64 0), .pl (.int .u64 0), .pl (.int .u64 0), .pl (.int .i64 0), .pl (.int .i64 0)]], .pl (.string ⟨#[98]⟩)] [] (.pl (.bool false)) [] := evFT_ok allF extF [] 300 100 _ _ _ _ _ (by kernel_rfl)
def sm5_1_m : Memo Try.prog := ⟨_, _, _, _, _, sm5_1_ok⟩


/- 1280 steps -/
theorem sm5_2_ok : Ans Try.prog 50 [.sl 7 [.agg [.pl (.int .i64 2), .pl (.int .u64 0), .pl (.int .u64 0), .pl (.int .u64 0), .pl (.int .u64 0), .pl (.int .i64 1), .pl (.int .i64 4)], .agg [.pl (.int .i64 1), .pl (.int .u64 0), .pl (.int .u64 8589934592), .pl (.int .u64 0), .pl (.int .u64 0), .pl (.int .i64 0), .pl (.int .i64 0)], .agg [.pl (.int .i64 1), .pl (.int .u64 0), .pl (.int .u64 17179869184), .pl (.int .u64 0), .pl (.int .u64 0), .pl (.int .i64 0), .pl (.int .i64 0)], .agg [.pl (.int .i64 3), .pl (.int .u64 0), .pl (.int .u64 0), .pl (.int .u64 0), .pl (.int .u64 0), .pl (.int .i64 0), .pl (.int .i64 0)], .agg [.pl (.int .i64 4), .pl (.int .u64 0), .pl (.int .u64 0), .pl (.int .u64 0), .pl (.int .u64 0), .pl (.int .i64 0), .pl (.int .i64 0)]], .pl (.string ⟨#[99, 114, 105, 116]⟩)] [] (.pl (.bool false)) [] := evFT_ok allF extF [] 300 100 _ _ _ _ _ (by kernel_rfl)
def sm5_2_m : Memo Try.prog := ⟨_, _, _, _, _, sm5_2_ok⟩


/- 1280 steps -/
theorem sm5_3_ok : Ans Try.prog 50 [.sl 7 [.agg [.pl (.int .i64 2), .pl (.int .u64 0), .pl (.int .u64 0), .pl (.int .u64 0), .pl (.int .u64 0), .pl (.int .i64 1), .pl (.int .i64 4)], .agg [.pl (.int .i64 1), .pl (.int .u64 0), .pl (.int .u64 8589934592), .pl (.int .u64 0), .pl (.int .u64 0), .pl (.int .i64 0), .pl (.int .i64 0)], .agg [.pl (.int .i64 1), .pl (.int .u64 0), .pl (.int .u64 17179869184), .pl (.int .u64 0), .pl (.int .u64 0), .pl (.int .i64 0), .pl (.int .i64 0)], .agg [.pl (.int .i64 3), .pl (.int .u64 0), .pl (.int .u64 0), .pl (.int .u64 0), .pl (.int .u64 0), .pl (.int .i64 0), .pl (.int .i64 0)], .agg [.pl (.int .i64 4), .pl (.int .u64 0), .pl (.int .u64 0), .pl (.int .u64 0), .pl (.int .u64 0), .pl (.int .i64 0), .pl (.int .i64 0)]], .pl (.string ⟨#[119, 97, 114, 110]⟩)] [] (.pl (.bool false)) [] := evFT_ok allF extF [] 300 100 _ _ _ _ _ (by kernel_rfl)
def sm5_3_m : Memo Try.prog := ⟨_, _, _, _, _, sm5_3_ok⟩


/- 1108 steps -/
theorem sm5_4_ok : Ans Try.prog 50 [.sl 7 [.agg [.pl (.int .i64 2), .pl (.int .u64 0), .pl (.int .u64 0), .pl (.int .u64 0), .pl (.int .u64 0), .pl (.int .i64 1), .pl (.int .i64 4)], .agg [.pl (.int .i64 1), .pl (.int .u64 0), .pl (.int .u64 8589934592), .pl (.int .u64 0), .pl (.int .u64 0), .pl (.int .i64 0), .pl (.int .i64 0)], .agg [.pl (.int .i64 1), .pl (.int .u64 0), .pl (.int .u64 17179869184), .pl (.int .u64 0), .pl (.int .u64 0), .pl (.int .i64 0), .pl (.int .i64 0)], .agg [.pl (.int .i64 3), .pl (.int .u64 0), .pl (.int .u64 0), .pl (.int .u64 0), .pl (.int .u64 0), .pl (.int .i64 0), .pl (.int .i64 0)], .agg [.pl (.int .i64 4), .pl (.int .u64 0), .pl (.int .u64 0), .pl (.int .u64 0), .pl (.int .u64 0), .pl (.int .i64 0), .pl (.int .i64 0)]], .pl (.string ⟨#[97, 98]⟩)] [] (.pl (.bool true)) [] := evFT_ok allF extF [] 300 100 _ _ _ _ _ (by kernel_rfl)
def sm5_4_m : Memo Try.prog := ⟨_, _, _, _, _, sm5_4_ok⟩


/- 922 steps -/
theorem sm5_5_ok : Ans Try.prog 50 [.sl 7 [.agg [.pl (.int .i64 2), .pl (.int .u64 0), .pl (.int .u64 0), .pl (.int .u64 0), .pl (.int .u64 0), .pl (.int .i64 1), .pl (.int .i64 4)], .agg [.pl (.int .i64 1), .pl (.int .u64 0), .pl (.int .u64 8589934592), .pl (.int .u64 0), .pl (.int .u64 0), .pl (.int .i64 0), .pl (.int .i64 0)], .agg [.pl (.int .i64 1), .pl (.int .u64 0), .pl (.int .u64 17179869184), .pl (.int .u64 0), .pl (.int .u64 0), .pl (.int .i64 0), .pl (.int .i64 0)], .agg [.pl (.int .i64 3), .pl (.int .u64 0), .pl (.int .u64 0), .pl (.int .u64 0), .pl (.int .u64 0), .pl (.int .i64 0), .pl (.int .i64 0)], .agg [.pl (.int .i64 4), .pl (.int .u64 0), .pl (.int .u64 0), .pl (.int .u64 0), .pl (.int .u64 0), .pl (.int .i64 0), .pl (.int .i64 0)]], .pl (.string ⟨#[0, 255]⟩)] [] (.pl (.bool false)) [] := evFT_ok allF extF [] 300 100 _ _ _ _ _ (by kernel_rfl)
def sm5_5_m : Memo Try.prog := ⟨_, _, _, _, _, sm5_5_ok⟩


/- 7122 steps -/
theorem sm5_6_ok : Ans Try.prog 50 [.sl 7 [.agg [.pl (.int .i64 2), .pl (.int .u64 0), .pl (.int .u64 0), .pl (.int .u64 0), .pl (.int .u64 0), .pl (.int .i64 1), .pl (.int .i64 4)], .agg [.pl (.int .i64 1), .pl (.int .u64 0), .pl (.int .u64 8589934592), .pl (.int .u64 0), .pl (.int .u64 0), .pl (.int .i64 0), .pl (.int .i64 0)], .agg [.pl (.int .i64 1), .pl (.int .u64 0), .pl (.int .u64 17179869184), .pl (.int .u64 0), .pl (.int .u64 0), .pl (.int .i64 0), .pl (.int .i64 0)], .agg [.pl (.int .i64 3), .pl (.int .u64 0), .pl (.int .u64 0), .pl (.int .u64 0), .pl (.int .u64 0), .pl (.int .i64 0), .pl (.int .i64 0)], .agg [.pl (.int .i64 4), .pl (.int .u64 0), .pl (.int .u64 0), .pl (.int .u64 0), .pl (.int .u64 0), .pl (.int .i64 0), .pl (.int .i64 0)]], .pl (.string ⟨#[97, 98, 97, 98, 97, 98, 97, 98, 97, 98, 97, 98, 97, 98, 97, 98, 97, 98, 97, 98, 97, 98, 97, 98]⟩)] [] (.pl (.bool true)) [] := evFT_ok allF extF [] 300 100 _ _ _ _ _ (by kernel_rfl)
def sm5_6_m : Memo Try.prog := ⟨_, _, _, _, _, sm5_6_ok⟩


/- 561 steps -/
theorem sm5_7_ok : Ans Try.prog 50 [.sl 7 [.agg [.pl (.int .i64 2), .pl (.int .u64 0), .pl (.int .u64 0), .pl (.int .u64 0), .pl (.int .u64 0), .pl (.int .i64 1), .pl (.int .i64 4)], .agg [.pl (.int .i64 1), .pl (.int .u64 0), .pl (.int .u64 8589934592), .pl (.int .u64 0), .pl (.int .u64 0), .pl (.int .i64 0), .pl (.int .i64 0)], .agg [.pl (.int .i64 1), .pl (.int .u64 0), .pl (.int .u64 17179869184), .pl (.int .u64 0), .pl (.int .u64 0), .pl (.int .i64 0), .pl (.int .i64 0)], .agg [.pl (.int .i64 3), .pl (.int .u64 0), .pl (.int .u64 0), .pl (.int .u64 0), .pl (.int .u64 0), .pl (.int .i64 0), .pl (.int .i64 0)], .agg [.pl (.int .i64 4), .pl (.int .u64 0), .pl (.int .u64 0), .pl (.int .u64 0), .pl (.int .u64 0), .pl (.int .i64 0), .pl (.int .i64 0)]], .pl (.string ⟨#[]⟩)] [] (.pl (.bool true)) [] := evFT_ok allF extF [] 300 100 _ _ _ _ _ (by kernel_rfl)
def sm5_7_m : Memo Try.prog := ⟨_, _, _, _, _, sm5_7_ok⟩


/- 936 steps -/
theorem sm6_0_ok : Ans Try.prog 50 [.sl 7 [.agg [.pl (.int .i64 2), .pl (.int .u64 0), .pl (.int .u64 0), .pl (.int .u64 0), .pl (.int .u64 0), .pl (.int .i64 1), .pl (.int .i64 2)], .agg [.pl (.int .i64 1), .pl (.int .u64 0), .pl (.int .u64 8589934592), .pl (.int .u64 0), .pl (.int .u64 0), .pl (.int .i64 0), .pl (.int .i64 0)], .agg [.pl (.int .i64 2), .pl (.int .u64 0), .pl (.int .u64 0), .pl (.int .u64 0), .pl (.int .u64 0), .pl (.int .i64 3), .pl (.int .i64 4)], .agg [.pl (.int .i64 1), .pl (.int .u64 0), .pl (.int .u64 17179869184), .pl (.int .u64 0), .pl (.int .u64 0), .pl (.int .i64 0), .pl (.int .i64 0)], .agg [.pl (.int .i64 4), .pl (.int .u64 0), .pl (.int .u64 0), .pl (.int .u64 0), .pl (.int .u64 0), .pl (.int .i64 0), .pl (.int .i64 0)]], .pl (.string ⟨#[97]⟩)] [] (.pl (.bool true)) [] := evFT_ok allF extF [] 300 100 _ _ _ _ _ (by kernel_rfl)
def sm6_0_m : Memo Try.prog := ⟨_, _, _, _, _, sm6_0_ok⟩


/- 863 steps -/
theorem sm6_1_ok : Ans Try.prog 50 [.sl 7 [.agg [.pl (.int .i64 2), .pl (.int .u64 0), .pl (.int .u64 0), .pl (.int .u64 0), .pl (.int .u64 0), .pl (.int .i64 1), .pl (.int .i64 2)], .agg [.pl (.int .i64 1), .pl (.int .u64 0), .pl (.int .u64 8589934592), .pl (.int .u64 0), .pl (.int .u64 0), .pl (.int .i64 0), .pl (.int .i64 0)], .agg [.pl (.int .i64 2), .pl (.int .u64 0), .pl (.int .u64 0), .pl (.int .u64 0), .pl (.int .u64 0), .pl (.int .i64 3), .pl (.int .i64 4)], .agg [.pl (.int .i64 1), .pl (.int .u64 0), .pl (.int .u64 17179869184), .pl (.int .u64 0), .pl (.int .u64 0), .pl (.int .i64 0), .pl (.int .i64 0)], .agg [.pl (.int .i64 4), .pl (.int .u64 0), .pl (.int .u64 0), .pl (.int .u64 0), .pl (.int .u64 0), .pl (.int .i64 0), .pl (.int .i64 0)]], .pl (.string ⟨#[98]⟩)] [] (.pl (.bool true)) [] := evFT_ok allF extF [] 300 100 _ _ _ _ _ (by kernel_rfl)
def sm6_1_m : Memo Try.prog := ⟨_, _, _, _, _, sm6_1_ok⟩


/- 1363 steps -/
theorem sm6_2_ok : Ans Try.prog 50 [.sl 7 [.agg [.pl (.int .i64 2), .pl (.int .u64 0), .pl (.int .u64 0), .pl (.int .u64 0), .pl (.int .u64 0), .pl (.int .i64 1), .pl (.int .i64 2)], .agg [.pl (.int .i64 1), .pl (.int .u64 0), .pl (.int .u64 8589934592), .pl (.int .u64 0), .pl (.int .u64 0), .pl (.int .i64 0), .pl (.int .i64 0)], .agg [.pl (.int .i64 2), .pl (.int .u64 0), .pl (.int .u64 0), .pl (.int .u64 0), .pl (.int .u64 0), .pl (.int .i64 3), .pl (.int .i64 4)], .agg [.pl (.int .i64 1), .pl (.int .u64 0), .pl (.int .u64 17179869184), .pl (.int .u64 0), .pl (.int .u64 0), .pl (.int .i64 0), .pl (.int .i64 0)], .agg [.pl (.int .i64 4), .pl (.int .u64 0), .pl (.int .u64 0), .pl (.int .u64 0), .pl (.int .u64 0), .pl (.int .i64 0), .pl (.int .i64 0)]], .pl (.string ⟨#[99, 114, 105, 116]⟩)] [] (.pl (.bool false)) [] := evFT_ok allF extF [] 300 100 _ _ _ _ _ (by kernel_rfl)
def sm6_2_m : Memo Try.prog := ⟨_, _, _, _, _, sm6_2_ok⟩


/- 1363 steps -/
theorem sm6_3_ok : Ans Try.prog 50 [.sl 7 [.agg [.pl (.int .i64 2), .pl (.int .u64 0), .pl (.int .u64 0), .pl (.int .u64 0), .pl (.int .u64 0), .pl (.int .i64 1), .pl (.int .i64 2)], .agg [.pl (.int .i64 1), .pl (.int .u64 0), .pl (.int .u64 8589934592), .pl (.int .u64 0), .pl (.int .u64 0), .pl (.int .i64 0), .pl (.int .i64 0)], .agg [.pl (.int .i64 2), .pl (.int .u64 0), .pl (.int .u64 0), .pl (.int .u64 0), .pl (.int .u64 0), .pl (.int .i64 3), .pl (.int .i64 4)], .agg [.pl (.int .i64 1), .pl (.int .u64 0), .pl (.int .u64 17179869184), .pl (.int .u64 0), .pl (.int .u64 0), .pl (.int .i64 0), .pl (.int .i64 0)], .agg [.pl (.int .i64 4), .pl (.int .u64 0), .pl (.int .u64 0), .pl (.int .u64 0), .pl (.int .u64 0), .pl (.int .i64 0), .pl (.int .i64 0)]], .pl (.string ⟨#[119, 97, 114, 110]⟩)] [] (.pl (.bool false)) [] := evFT_ok allF extF [] 300 100 _ _ _ _ _ (by kernel_rfl)
def sm6_3_m : Memo Try.prog := ⟨_, _, _, _, _, sm6_3_ok⟩


/- 1155 steps -/
theorem sm6_4_ok : Ans Try.prog 50 [.sl 7 [.agg [.pl (.int .i64 2), .pl (.int .u64 0), .pl (.int .u64 0), .pl (.int .u64 0), .pl (.int .u64 0), .pl (.int .i64 1), .pl (.int .i64 2)], .agg [.pl (.int .i64 1), .pl (.int .u64 0), .pl (.int .u64 8589934592), .pl (.int .u64 0), .pl (.int .u64 0), .pl (.int .i64 0), .pl (.int .i64 0)], .agg [.pl (.int .i64 2), .pl (.int .u64 0), .pl (.int .u64 0), .pl (.int .u64 0), .pl (.int .u64 0), .pl (.int .i64 3), .pl (.int .i64 4)], .agg [.pl (.int .i64 1), .pl (.int .u64 0), .pl (.int .u64 17179869184), .pl (.int .u64 0), .pl (.int .u64 0), .pl (.int .i64 0), .pl (.int .i64 0)], .agg [.pl (.int .i64 4), .pl (.int .u64 0), .pl (.int .u64 0), .pl (.int .u64 0), .pl (.int .u64 0), .pl (.int .i64 0), .pl (.int .i64 0)]], .pl (.string ⟨#[97, 98]⟩)] [] (.pl (.bool true)) [] := evFT_ok allF extF [] 300 100 _ _ _ _ _ (by kernel_rfl)
def sm6_4_m : Memo Try.prog := ⟨_, _, _, _, _, sm6_4_ok⟩


/- 1005 steps -/
theorem sm6_5_ok : Ans Try.prog 50 [.sl 7 [.agg [.pl (.int .i64 2), .pl (.int .u64 0), .pl (.int .u64 0), .pl (.int .u64 0), .pl (.int .u64 0), .pl (.int .i64 1), .pl (.int .i64 2)], .agg [.pl (.int .i64 1), .pl (.int .u64 0), .pl (.int .u64 8589934592), .pl (.int .u64 0), .pl (.int .u64 0), .pl (.int .i64 0), .pl (.int .i64 0)], .agg [.pl (.int .i64 2), .pl (.int .u64 0), .pl (.int .u64 0), .pl (.int .u64 0), .pl (.int .u64 0), .pl (.int .i64 3), .pl (.int .i64 4)], .agg [.pl (.int .i64 1), .pl (.int .u64 0), .pl (.int .u64 17179869184), .pl (.int .u64 0), .pl (.int .u64 0), .pl (.int .i64 0), .pl (.int .i64 0)], .agg [.pl (.int .i64 4), .pl (.int .u64 0), .pl (.int .u64 0), .pl (.int .u64 0), .pl (.int .u64 0), .pl (.int .i64 0), .pl (.int .i64 0)]], .pl (.string ⟨#[0, 255]⟩)] [] (.pl (.bool false)) [] := evFT_ok allF extF [] 300 100 _ _ _ _ _ (by kernel_rfl)
def sm6_5_m : Memo Try.prog := ⟨_, _, _, _, _, sm6_5_ok⟩


/- 5096 steps -/
theorem sm6_6_ok : Ans Try.prog 50 [.sl 7 [.agg [.pl (.int .i64 2), .pl (.int .u64 0), .pl (.int .u64 0), .pl (.int .u64 0), .pl (.int .u64 0), .pl (.int .i64 1), .pl (.int .i64 2)], .agg [.pl (.int .i64 1), .pl (.int .u64 0), .pl (.int .u64 8589934592), .pl (.int .u64 0), .pl (.int .u64 0), .pl (.int .i64 0), .pl (.int .i64 0)], .agg [.pl (.int .i64 2), .pl (.int .u64 0), .pl (.int .u64 0), .pl (.int .u64 0), .pl (.int .u64 0), .pl (.int .i64 3), .pl (.int .i64 4)], .agg [.pl (.int .i64 1), .pl (.int .u64 0), .pl (.int .u64 17179869184), .pl (.int .u64 0), .pl (.int .u64 0), .pl (.int .i64 0), .pl (.int .i64 0)], .agg [.pl (.int .i64 4), .pl (.int .u64 0), .pl (.int .u64 0), .pl (.int .u64 0), .pl (.int .u64 0), .pl (.int .i64 0), .pl (.int .i64 0)]], .pl (.string ⟨#[97, 98, 97, 98, 97, 98, 97, 98, 97, 98, 97, 98, 97, 98, 97, 98, 97, 98, 97, 98, 97, 98, 97, 98]⟩)] [] (.pl (.bool false)) [] := evFT_ok allF extF [] 300 100 _ _ _ _ _ (by kernel_rfl)
def sm6_6_m : Memo Try.prog := ⟨_, _, _, _, _, sm6_6_ok⟩


/- 644 steps -/
theorem sm6_7_ok : Ans Try.prog 50 [.sl 7 [.agg [.pl (.int .i64 2), .pl (.int .u64 0), .pl (.int .u64 0), .pl (.int .u64 0), .pl (.int .u64 0), .pl (.int .i64 1), .pl (.int .i64 2)], .agg [.pl (.int .i64 1), .pl (.int .u64 0), .pl (.int .u64 8589934592), .pl (.int .u64 0), .pl (.int .u64 0), .pl (.int .i64 0), .pl (.int .i64 0)], .agg [.pl (.int .i64 2), .pl (.int .u64 0), .pl (.int .u64 0), .pl (.int .u64 0), .pl (.int .u64 0), .pl (.int .i64 3), .pl (.int .i64 4)], .agg [.pl (.int .i64 1), .pl (.int .u64 0), .pl (.int .u64 17179869184), .pl (.int .u64 0), .pl (.int .u64 0), .pl (.int .i64 0), .pl (.int .i64 0)], .agg [.pl (.int .i64 4), .pl (.int .u64 0), .pl (.int .u64 0), .pl (.int .u64 0), .pl (.int .u64 0), .pl (.int .i64 0), .pl (.int .i64 0)]], .pl (.string ⟨#[]⟩)] [] (.pl (.bool true)) [] := evFT_ok allF extF [] 300 100 _ _ _ _ _ (by kernel_rfl)
def sm6_7_m : Memo Try.prog := ⟨_, _, _, _, _, sm6_7_ok⟩


/- 639 steps -/
theorem sm7_0_ok : Ans Try.prog 50 [.sl 7 [.agg [.pl (.int .i64 2), .pl (.int .u64 0), .pl (.int .u64 0), .pl (.int .u64 0), .pl (.int .u64 0), .pl (.int .i64 1), .pl (.int .i64 3)], .agg [.pl (.int .i64 1), .pl (.int .u64 18446744073709551615), .pl (.int .u64 18446744065119617023), .pl (.int .u64 18446744073709551615), .pl (.int .u64 18446744073709551615), .pl (.int .i64 0), .pl (.int .i64 0)], .agg [.pl (.int .i64 3), .pl (.int .u64 0), .pl (.int .u64 0), .pl (.int .u64 0), .pl (.int .u64 0), .pl (.int .i64 0), .pl (.int .i64 0)], .agg [.pl (.int .i64 4), .pl (.int .u64 0), .pl (.int .u64 0), .pl (.int .u64 0), .pl (.int .u64 0), .pl (.int .i64 0), .pl (.int .i64 0)]], .pl (.string ⟨#[97]⟩)] [] (.pl (.bool false)) [] := evFT_ok allF extF [] 300 100 _ _ _ _ _ (by kernel_rfl)
def sm7_0_m : Memo Try.prog := ⟨_, _, _, _, _, sm7_0_ok⟩


/- 785 steps -/
theorem sm7_1_ok : Ans Try.prog 50 [.sl 7 [.agg [.pl (.int .i64 2), .pl (.int .u64 0), .pl (.int .u64 0), .pl (.int .u64 0), .pl (.int .u64 0), .pl (.int .i64 1), .pl (.int .i64 3)], .agg [.pl (.int .i64 1), .pl (.int .u64 18446744073709551615), .pl (.int .u64 18446744065119617023), .pl (.int .u64 18446744073709551615), .pl (.int .u64 18446744073709551615), .pl (.int .i64 0), .pl (.int .i64 0)], .agg [.pl (.int .i64 3), .pl (.int .u64 0), .pl (.int .u64 0), .pl (.int .u64 0), .pl (.int .u64 0), .pl (.int .i64 0), .pl (.int .i64 0)], .agg [.pl (.int .i64 4), .pl (.int .u64 0), .pl (.int .u64 0), .pl (.int .u64 0), .pl (.int .u64 0), .pl (.int .i64 0), .pl (.int .i64 0)]], .pl (.string ⟨#[98]⟩)] [] (.pl (.bool true)) [] := evFT_ok allF extF [] 300 100 _ _ _ _ _ (by kernel_rfl)
def sm7_1_m : Memo Try.prog := ⟨_, _, _, _, _, sm7_1_ok⟩


/- 1676 steps -/
theorem sm7_2_ok : Ans Try.prog 50 [.sl 7 [.agg [.pl (.int .i64 2), .pl (.int .u64 0), .pl (.int .u64 0), .pl (.int .u64 0), .pl (.int .u64 0), .pl (.int .i64 1), .pl (.int .i64 3)], .agg [.pl (.int .i64 1), .pl (.int .u64 18446744073709551615), .pl (.int .u64 18446744065119617023), .pl (.int .u64 18446744073709551615), .pl (.int .u64 18446744073709551615), .pl (.int .i64 0), .pl (.int .i64 0)], .agg [.pl (.int .i64 3), .pl (.int .u64 0), .pl (.int .u64 0), .pl (.int .u64 0), .pl (.int .u64 0), .pl (.int .i64 0), .pl (.int .i64 0)], .agg [.pl (.int .i64 4), .pl (.int .u64 0), .pl (.int .u64 0), .pl (.int .u64 0), .pl (.int .u64 0), .pl (.int .i64 0), .pl (.int .i64 0)]], .pl (.string ⟨#[99, 114, 105, 116]⟩)] [] (.pl (.bool true)) [] := evFT_ok allF extF [] 300 100 _ _ _ _ _ (by kernel_rfl)
def sm7_2_m : Memo Try.prog := ⟨_, _, _, _, _, sm7_2_ok⟩


/- 1232 steps -/
theorem sm7_3_ok : Ans Try.prog 50 [.sl 7 [.agg [.pl (.int .i64 2), .pl (.int .u64 0), .pl (.int .u64 0), .pl (.int .u64 0), .pl (.int .u64 0), .pl (.int .i64 1), .pl (.int .i64 3)], .agg [.pl (.int .i64 1), .pl (.int .u64 18446744073709551615), .pl (.int .u64 18446744065119617023), .pl (.int .u64 18446744073709551615), .pl (.int .u64 18446744073709551615), .pl (.int .i64 0), .pl (.int .i64 0)], .agg [.pl (.int .i64 3), .pl (.int .u64 0), .pl (.int .u64 0), .pl (.int .u64 0), .pl (.int .u64 0), .pl (.int .i64 0), .pl (.int .i64 0)], .agg [.pl (.int .i64 4), .pl (.int .u64 0), .pl (.int .u64 0), .pl (.int .u64 0), .pl (.int .u64 0), .pl (.int .i64 0), .pl (.int .i64 0)]], .pl (.string ⟨#[119, 97, 114, 110]⟩)] [] (.pl (.bool false)) [] := evFT_ok allF extF [] 300 100 _ _ _ _ _ (by kernel_rfl)
def sm7_3_m : Memo Try.prog := ⟨_, _, _, _, _, sm7_3_ok⟩


/- 787 steps -/
theorem sm7_4_ok : Ans Try.prog 50 [.sl 7 [.agg [.pl (.int .i64 2), .pl (.int .u64 0), .pl (.int .u64 0), .pl (.int .u64 0), .pl (.int .u64 0), .pl (.int .i64 1), .pl (.int .i64 3)], .agg [.pl (.int .i64 1), .pl (.int .u64 18446744073709551615), .pl (.int .u64 18446744065119617023), .pl (.int .u64 18446744073709551615), .pl (.int .u64 18446744073709551615), .pl (.int .i64 0), .pl (.int .i64 0)], .agg [.pl (.int .i64 3), .pl (.int .u64 0), .pl (.int .u64 0), .pl (.int .u64 0), .pl (.int .u64 0), .pl (.int .i64 0), .pl (.int .i64 0)], .agg [.pl (.int .i64 4), .pl (.int .u64 0), .pl (.int .u64 0), .pl (.int .u64 0), .pl (.int .u64 0), .pl (.int .i64 0), .pl (.int .i64 0)]], .pl (.string ⟨#[97, 98]⟩)] [] (.pl (.bool false)) [] := evFT_ok allF extF [] 300 100 _ _ _ _ _ (by kernel_rfl)
def sm7_4_m : Memo Try.prog := ⟨_, _, _, _, _, sm7_4_ok⟩


/- 1082 steps -/
theorem sm7_5_ok : Ans Try.prog 50 [.sl 7 [.agg [.pl (.int .i64 2), .pl (.int .u64 0), .pl (.int .u64 0), .pl (.int .u64 0), .pl (.int .u64 0), .pl (.int .i64 1), .pl (.int .i64 3)], .agg [.pl (.int .i64 1), .pl (.int .u64 18446744073709551615), .pl (.int .u64 18446744065119617023), .pl (.int .u64 18446744073709551615), .pl (.int .u64 18446744073709551615), .pl (.int .i64 0), .pl (.int .i64 0)], .agg [.pl (.int .i64 3), .pl (.int .u64 0), .pl (.int .u64 0), .pl (.int .u64 0), .pl (.int .u64 0), .pl (.int .i64 0), .pl (.int .i64 0)], .agg [.pl (.int .i64 4), .pl (.int .u64 0), .pl (.int .u64 0), .pl (.int .u64 0), .pl (.int .u64 0), .pl (.int .i64 0), .pl (.int .i64 0)]], .pl (.string ⟨#[0, 255]⟩)] [] (.pl (.bool true)) [] := evFT_ok allF extF [] 300 100 _ _ _ _ _ (by kernel_rfl)
def sm7_5_m : Memo Try.prog := ⟨_, _, _, _, _, sm7_5_ok⟩


/- 4043 steps -/
theorem sm7_6_ok : Ans Try.prog 50 [.sl 7 [.agg [.pl (.int .i64 2), .pl (.int .u64 0), .pl (.int .u64 0), .pl (.int .u64 0), .pl (.int .u64 0), .pl (.int .i64 1), .pl (.int .i64 3)], .agg [.pl (.int .i64 1), .pl (.int .u64 18446744073709551615), .pl (.int .u64 18446744065119617023), .pl (.int .u64 18446744073709551615), .pl (.int .u64 18446744073709551615), .pl (.int .i64 0), .pl (.int .i64 0)], .agg [.pl (.int .i64 3), .pl (.int .u64 0), .pl (.int .u64 0), .pl (.int .u64 0), .pl (.int .u64 0), .pl (.int .i64 0), .pl (.int .i64 0)], .agg [.pl (.int .i64 4), .pl (.int .u64 0), .pl (.int .u64 0), .pl (.int .u64 0), .pl (.int .u64 0), .pl (.int .i64 0), .pl (.int .i64 0)]], .pl (.string ⟨#[97, 98, 97, 98, 97, 98, 97, 98, 97, 98, 97, 98, 97, 98, 97, 98, 97, 98, 97, 98, 97, 98, 97, 98]⟩)] [] (.pl (.bool false)) [] := evFT_ok allF extF [] 300 100 _ _ _ _ _ (by kernel_rfl)
def sm7_6_m : Memo Try.prog := ⟨_, _, _, _, _, sm7_6_ok⟩


/- 488 steps -/
theorem sm7_7_ok : Ans Try.prog 50 [.sl 7 [.agg [.pl (.int .i64 2), .pl (.int .u64 0), .pl (.int .u64 0), .pl (.int .u64 0), .pl (.int .u64 0), .pl (.int .i64 1), .pl (.int .i64 3)], .agg [.pl (.int .i64 1), .pl (.int .u64 18446744073709551615), .pl (.int .u64 18446744065119617023), .pl (.int .u64 18446744073709551615), .pl (.int .u64 18446744073709551615), .pl (.int .i64 0), .pl (.int .i64 0)], .agg [.pl (.int .i64 3), .pl (.int .u64 0), .pl (.int .u64 0), .pl (.int .u64 0), .pl (.int .u64 0), .pl (.int .i64 0), .pl (.int .i64 0)], .agg [.pl (.int .i64 4), .pl (.int .u64 0), .pl (.int .u64 0), .pl (.int .u64 0), .pl (.int .u64 0), .pl (.int .i64 0), .pl (.int .i64 0)]], .pl (.string ⟨#[]⟩)] [] (.pl (.bool true)) [] := evFT_ok allF extF [] 300 100 _ _ _ _ _ (by kernel_rfl)
def sm7_7_m : Memo Try.prog := ⟨_, _, _, _, _, sm7_7_ok⟩



end Go.Proofs.Ytoadgajhkhejiaa
