/- Closed runs, call by call: the kernel reckons them. No condition. -/
import Derived.Test.YtoadgajhkhejiaaMRun
import Derived.Test.YtoadgajhkhejiaaAbTree
namespace Go.Proofs.Ytoadgajhkhejiaa
open Go Go.Ab
/- 244 steps -/
theorem lsrc_ok : Ans Try.prog 24 [.sl 3 [.agg [.pl (.int .i64 1), .pl (.string ⟨#[115, 101, 118]⟩), .pl (.string ⟨#[99, 114, 105, 116]⟩)]]] [] (.pl (.bool true)) [] := evFT_ok allF extF [] 300 100 _ _ _ _ _ (by kernel_rfl)
def lsrc_m : Memo Try.prog := ⟨_, _, _, _, _, lsrc_ok⟩


/- 3361 steps -/
theorem ltgt0_ok : Ans Try.prog 95 [.ptr 2 0, .pl (.int .i64 0)] [.box [.pl (.int .i64 3), .pl (.string ⟨#[115, 101, 118]⟩), .pl (.string ⟨#[99, 114, 105, 116, 124, 119, 97, 114, 110]⟩)], .box [.pl (.int .i64 0), .pl (.int .u64 0), .pl (.int .u64 0), .pl (.int .u64 0), .pl (.int .u64 0), .nils], .box [.pl (.string ⟨#[99, 114, 105, 116, 124, 119, 97, 114, 110]⟩), .pl (.int .i64 0), .pl (.bool false)]] (.agg [.pl (.int .i64 3), .pl (.int .u64 0), .pl (.int .u64 0), .pl (.int .u64 0), .pl (.int .u64 0), .sl 6 [.agg [.pl (.int .i64 2), .pl (.int .u64 0), .pl (.int .u64 0), .pl (.int .u64 0), .pl (.int .u64 0), .sl 6 [.agg [.pl (.int .i64 1), .pl (.int .u64 0), .pl (.int .u64 34359738368), .pl (.int .u64 0), .pl (.int .u64 0), .nils], .agg [.pl (.int .i64 1), .pl (.int .u64 0), .pl (.int .u64 1125899906842624), .pl (.int .u64 0), .pl (.int .u64 0), .nils], .agg [.pl (.int .i64 1), .pl (.int .u64 0), .pl (.int .u64 2199023255552), .pl (.int .u64 0), .pl (.int .u64 0), .nils], .agg [.pl (.int .i64 1), .pl (.int .u64 0), .pl (.int .u64 4503599627370496), .pl (.int .u64 0), .pl (.int .u64 0), .nils]]], .agg [.pl (.int .i64 2), .pl (.int .u64 0), .pl (.int .u64 0), .pl (.int .u64 0), .pl (.int .u64 0), .sl 6 [.agg [.pl (.int .i64 1), .pl (.int .u64 0), .pl (.int .u64 36028797018963968), .pl (.int .u64 0), .pl (.int .u64 0), .nils], .agg [.pl (.int .i64 1), .pl (.int .u64 0), .pl (.int .u64 8589934592), .pl (.int .u64 0), .pl (.int .u64 0), .nils], .agg [.pl (.int .i64 1), .pl (.int .u64 0), .pl (.int .u64 1125899906842624), .pl (.int .u64 0), .pl (.int .u64 0), .nils], .agg [.pl (.int .i64 1), .pl (.int .u64 0), .pl (.int .u64 70368744177664), .pl (.int .u64 0), .pl (.int .u64 0), .nils]]]]]) [.box [.pl (.int .i64 3), .pl (.string ⟨#[115, 101, 118]⟩), .pl (.string ⟨#[99, 114, 105, 116, 124, 119, 97, 114, 110]⟩)], .box [.pl (.int .i64 0), .pl (.int .u64 0), .pl (.int .u64 0), .pl (.int .u64 0), .pl (.int .u64 0), .nils], .box [.pl (.string ⟨#[99, 114, 105, 116, 124, 119, 97, 114, 110]⟩), .pl (.int .i64 9), .pl (.bool false)]] := evFT_ok allF extF [] 300 100 _ _ _ _ _ (by kernel_rfl)
def ltgt0 : Memo Try.prog := ⟨_, _, _, _, _, ltgt0_ok⟩

/- 269 steps -/
theorem ltgt_ok : Ans Try.prog 24 [.sl 3 [.agg [.pl (.int .i64 3), .pl (.string ⟨#[115, 101, 118]⟩), .pl (.string ⟨#[99, 114, 105, 116, 124, 119, 97, 114, 110]⟩)]]] [] (.pl (.bool true)) [] := evFT_ok allF extF [ltgt0] 300 100 _ _ _ _ _ (by kernel_rfl)
def ltgt_m : Memo Try.prog := ⟨_, _, _, _, _, ltgt_ok⟩


/- 60 steps -/
theorem gsrc_ok : Ans Try.prog 27 [.sl 3 [.agg [.pl (.int .i64 1), .pl (.string ⟨#[115, 101, 118]⟩), .pl (.string ⟨#[99, 114, 105, 116]⟩)]]] [] (.pl (.bool false)) [] := evFT_ok allF extF [] 300 100 _ _ _ _ _ (by kernel_rfl)
def gsrc_m : Memo Try.prog := ⟨_, _, _, _, _, gsrc_ok⟩


/- 3361 steps -/
theorem gtgt0_ok : Ans Try.prog 95 [.ptr 1 0, .pl (.int .i64 0)] [.box [.pl (.int .i64 0), .pl (.int .u64 0), .pl (.int .u64 0), .pl (.int .u64 0), .pl (.int .u64 0), .nils], .box [.pl (.string ⟨#[99, 114, 105, 116, 124, 119, 97, 114, 110]⟩), .pl (.int .i64 0), .pl (.bool false)]] (.agg [.pl (.int .i64 3), .pl (.int .u64 0), .pl (.int .u64 0), .pl (.int .u64 0), .pl (.int .u64 0), .sl 6 [.agg [.pl (.int .i64 2), .pl (.int .u64 0), .pl (.int .u64 0), .pl (.int .u64 0), .pl (.int .u64 0), .sl 6 [.agg [.pl (.int .i64 1), .pl (.int .u64 0), .pl (.int .u64 34359738368), .pl (.int .u64 0), .pl (.int .u64 0), .nils], .agg [.pl (.int .i64 1), .pl (.int .u64 0), .pl (.int .u64 1125899906842624), .pl (.int .u64 0), .pl (.int .u64 0), .nils], .agg [.pl (.int .i64 1), .pl (.int .u64 0), .pl (.int .u64 2199023255552), .pl (.int .u64 0), .pl (.int .u64 0), .nils], .agg [.pl (.int .i64 1), .pl (.int .u64 0), .pl (.int .u64 4503599627370496), .pl (.int .u64 0), .pl (.int .u64 0), .nils]]], .agg [.pl (.int .i64 2), .pl (.int .u64 0), .pl (.int .u64 0), .pl (.int .u64 0), .pl (.int .u64 0), .sl 6 [.agg [.pl (.int .i64 1), .pl (.int .u64 0), .pl (.int .u64 36028797018963968), .pl (.int .u64 0), .pl (.int .u64 0), .nils], .agg [.pl (.int .i64 1), .pl (.int .u64 0), .pl (.int .u64 8589934592), .pl (.int .u64 0), .pl (.int .u64 0), .nils], .agg [.pl (.int .i64 1), .pl (.int .u64 0), .pl (.int .u64 1125899906842624), .pl (.int .u64 0), .pl (.int .u64 0), .nils], .agg [.pl (.int .i64 1), .pl (.int .u64 0), .pl (.int .u64 70368744177664), .pl (.int .u64 0), .pl (.int .u64 0), .nils]]]]]) [.box [.pl (.int .i64 0), .pl (.int .u64 0), .pl (.int .u64 0), .pl (.int .u64 0), .pl (.int .u64 0), .nils], .box [.pl (.string ⟨#[99, 114, 105, 116, 124, 119, 97, 114, 110]⟩), .pl (.int .i64 9), .pl (.bool false)]] := evFT_ok allF extF [] 300 100 _ _ _ _ _ (by kernel_rfl)
def gtgt0 : Memo Try.prog := ⟨_, _, _, _, _, gtgt0_ok⟩

/- 1490 steps -/
theorem gtgt_ok : Ans Try.prog 27 [.sl 3 [.agg [.pl (.int .i64 3), .pl (.string ⟨#[115, 101, 118]⟩), .pl (.string ⟨#[99, 114, 105, 116, 124, 119, 97, 114, 110]⟩)]]] [] (.pl (.bool false)) [] := evFT_ok allF extF [gtgt0] 300 100 _ _ _ _ _ (by kernel_rfl)
def gtgt_m : Memo Try.prog := ⟨_, _, _, _, _, gtgt_ok⟩


/- 343 steps -/
theorem asc_ok : Ans Try.prog 25 [.sl 3 [.agg [.pl (.int .i64 1), .pl (.string ⟨#[115, 101, 118]⟩), .pl (.string ⟨#[99, 114, 105, 116]⟩)]], .sl 2 [.agg [.pl (.string ⟨#[99]⟩), .pl (.string ⟨#[120]⟩)], .agg [.pl (.string ⟨#[115, 101, 118]⟩), .pl (.string ⟨#[99, 114, 105, 116]⟩)]]] [] (.pl (.bool true)) [] := evFT_ok allF extF [] 300 100 _ _ _ _ _ (by kernel_rfl)
def asc_m : Memo Try.prog := ⟨_, _, _, _, _, asc_ok⟩


/- 341 steps -/
theorem asw_ok : Ans Try.prog 25 [.sl 3 [.agg [.pl (.int .i64 1), .pl (.string ⟨#[115, 101, 118]⟩), .pl (.string ⟨#[99, 114, 105, 116]⟩)]], .sl 2 [.agg [.pl (.string ⟨#[99]⟩), .pl (.string ⟨#[120]⟩)], .agg [.pl (.string ⟨#[115, 101, 118]⟩), .pl (.string ⟨#[119, 97, 114, 110]⟩)]]] [] (.pl (.bool false)) [] := evFT_ok allF extF [] 300 100 _ _ _ _ _ (by kernel_rfl)
def asw_m : Memo Try.prog := ⟨_, _, _, _, _, asw_ok⟩


/- 3361 steps -/
theorem atw0_ok : Ans Try.prog 95 [.ptr 1 0, .pl (.int .i64 0)] [.box [.pl (.int .i64 0), .pl (.int .u64 0), .pl (.int .u64 0), .pl (.int .u64 0), .pl (.int .u64 0), .nils], .box [.pl (.string ⟨#[99, 114, 105, 116, 124, 119, 97, 114, 110]⟩), .pl (.int .i64 0), .pl (.bool false)]] (.agg [.pl (.int .i64 3), .pl (.int .u64 0), .pl (.int .u64 0), .pl (.int .u64 0), .pl (.int .u64 0), .sl 6 [.agg [.pl (.int .i64 2), .pl (.int .u64 0), .pl (.int .u64 0), .pl (.int .u64 0), .pl (.int .u64 0), .sl 6 [.agg [.pl (.int .i64 1), .pl (.int .u64 0), .pl (.int .u64 34359738368), .pl (.int .u64 0), .pl (.int .u64 0), .nils], .agg [.pl (.int .i64 1), .pl (.int .u64 0), .pl (.int .u64 1125899906842624), .pl (.int .u64 0), .pl (.int .u64 0), .nils], .agg [.pl (.int .i64 1), .pl (.int .u64 0), .pl (.int .u64 2199023255552), .pl (.int .u64 0), .pl (.int .u64 0), .nils], .agg [.pl (.int .i64 1), .pl (.int .u64 0), .pl (.int .u64 4503599627370496), .pl (.int .u64 0), .pl (.int .u64 0), .nils]]], .agg [.pl (.int .i64 2), .pl (.int .u64 0), .pl (.int .u64 0), .pl (.int .u64 0), .pl (.int .u64 0), .sl 6 [.agg [.pl (.int .i64 1), .pl (.int .u64 0), .pl (.int .u64 36028797018963968), .pl (.int .u64 0), .pl (.int .u64 0), .nils], .agg [.pl (.int .i64 1), .pl (.int .u64 0), .pl (.int .u64 8589934592), .pl (.int .u64 0), .pl (.int .u64 0), .nils], .agg [.pl (.int .i64 1), .pl (.int .u64 0), .pl (.int .u64 1125899906842624), .pl (.int .u64 0), .pl (.int .u64 0), .nils], .agg [.pl (.int .i64 1), .pl (.int .u64 0), .pl (.int .u64 70368744177664), .pl (.int .u64 0), .pl (.int .u64 0), .nils]]]]]) [.box [.pl (.int .i64 0), .pl (.int .u64 0), .pl (.int .u64 0), .pl (.int .u64 0), .pl (.int .u64 0), .nils], .box [.pl (.string ⟨#[99, 114, 105, 116, 124, 119, 97, 114, 110]⟩), .pl (.int .i64 9), .pl (.bool false)]] := evFT_ok allF extF [] 300 100 _ _ _ _ _ (by kernel_rfl)
def atw0 : Memo Try.prog := ⟨_, _, _, _, _, atw0_ok⟩

/- 4135 steps -/
theorem atw1_ok : Ans Try.prog 15 [.agg [.pl (.int .i64 3), .pl (.string ⟨#[115, 101, 118]⟩), .pl (.string ⟨#[99, 114, 105, 116, 124, 119, 97, 114, 110]⟩)], .sl 2 [.agg [.pl (.string ⟨#[99]⟩), .pl (.string ⟨#[120]⟩)], .agg [.pl (.string ⟨#[115, 101, 118]⟩), .pl (.string ⟨#[119, 97, 114, 110]⟩)]]] [] (.pl (.bool true)) [] := evFT_ok allF extF [atw0] 300 100 _ _ _ _ _ (by kernel_rfl)
def atw1 : Memo Try.prog := ⟨_, _, _, _, _, atw1_ok⟩

/- 46 steps -/
theorem atw_ok : Ans Try.prog 25 [.sl 3 [.agg [.pl (.int .i64 3), .pl (.string ⟨#[115, 101, 118]⟩), .pl (.string ⟨#[99, 114, 105, 116, 124, 119, 97, 114, 110]⟩)]], .sl 2 [.agg [.pl (.string ⟨#[99]⟩), .pl (.string ⟨#[120]⟩)], .agg [.pl (.string ⟨#[115, 101, 118]⟩), .pl (.string ⟨#[119, 97, 114, 110]⟩)]]] [] (.pl (.bool true)) [] := evFT_ok allF extF [atw0, atw1] 300 100 _ _ _ _ _ (by kernel_rfl)
def atw_m : Memo Try.prog := ⟨_, _, _, _, _, atw_ok⟩


/- 89 steps -/
theorem nmc_ok : Ans Try.prog 51 [.pl (.string ⟨#[99]⟩)] [] (.pl (.bool true)) [] := evFT_ok allF extF [] 300 100 _ _ _ _ _ (by kernel_rfl)
def nmc_m : Memo Try.prog := ⟨_, _, _, _, _, nmc_ok⟩


/- 89 steps -/
theorem prc_ok : Ans Try.prog 72 [.sl 2 [.agg [.pl (.string ⟨#[99]⟩), .pl (.string ⟨#[120]⟩)], .agg [.pl (.string ⟨#[115, 101, 118]⟩), .pl (.string ⟨#[99, 114, 105, 116]⟩)]], .sl 1 [.pl (.string ⟨#[99]⟩)]] [] (.pl (.string ⟨#[1, 120]⟩)) [] := evFT_ok allF extF [] 300 100 _ _ _ _ _ (by kernel_rfl)
def prc_m : Memo Try.prog := ⟨_, _, _, _, _, prc_ok⟩


/- 89 steps -/
theorem prw_ok : Ans Try.prog 72 [.sl 2 [.agg [.pl (.string ⟨#[99]⟩), .pl (.string ⟨#[120]⟩)], .agg [.pl (.string ⟨#[115, 101, 118]⟩), .pl (.string ⟨#[119, 97, 114, 110]⟩)]], .sl 1 [.pl (.string ⟨#[99]⟩)]] [] (.pl (.string ⟨#[1, 120]⟩)) [] := evFT_ok allF extF [] 300 100 _ _ _ _ _ (by kernel_rfl)
def prw_m : Memo Try.prog := ⟨_, _, _, _, _, prw_ok⟩


/- 3361 steps -/
theorem rr0_ok : Ans Try.prog 95 [.ptr 2 0, .pl (.int .i64 0)] [.box [.pl (.int .i64 3), .pl (.string ⟨#[115, 101, 118]⟩), .pl (.string ⟨#[99, 114, 105, 116, 124, 119, 97, 114, 110]⟩)], .box [.pl (.int .i64 0), .pl (.int .u64 0), .pl (.int .u64 0), .pl (.int .u64 0), .pl (.int .u64 0), .nils], .box [.pl (.string ⟨#[99, 114, 105, 116, 124, 119, 97, 114, 110]⟩), .pl (.int .i64 0), .pl (.bool false)]] (.agg [.pl (.int .i64 3), .pl (.int .u64 0), .pl (.int .u64 0), .pl (.int .u64 0), .pl (.int .u64 0), .sl 6 [.agg [.pl (.int .i64 2), .pl (.int .u64 0), .pl (.int .u64 0), .pl (.int .u64 0), .pl (.int .u64 0), .sl 6 [.agg [.pl (.int .i64 1), .pl (.int .u64 0), .pl (.int .u64 34359738368), .pl (.int .u64 0), .pl (.int .u64 0), .nils], .agg [.pl (.int .i64 1), .pl (.int .u64 0), .pl (.int .u64 1125899906842624), .pl (.int .u64 0), .pl (.int .u64 0), .nils], .agg [.pl (.int .i64 1), .pl (.int .u64 0), .pl (.int .u64 2199023255552), .pl (.int .u64 0), .pl (.int .u64 0), .nils], .agg [.pl (.int .i64 1), .pl (.int .u64 0), .pl (.int .u64 4503599627370496), .pl (.int .u64 0), .pl (.int .u64 0), .nils]]], .agg [.pl (.int .i64 2), .pl (.int .u64 0), .pl (.int .u64 0), .pl (.int .u64 0), .pl (.int .u64 0), .sl 6 [.agg [.pl (.int .i64 1), .pl (.int .u64 0), .pl (.int .u64 36028797018963968), .pl (.int .u64 0), .pl (.int .u64 0), .nils], .agg [.pl (.int .i64 1), .pl (.int .u64 0), .pl (.int .u64 8589934592), .pl (.int .u64 0), .pl (.int .u64 0), .nils], .agg [.pl (.int .i64 1), .pl (.int .u64 0), .pl (.int .u64 1125899906842624), .pl (.int .u64 0), .pl (.int .u64 0), .nils], .agg [.pl (.int .i64 1), .pl (.int .u64 0), .pl (.int .u64 70368744177664), .pl (.int .u64 0), .pl (.int .u64 0), .nils]]]]]) [.box [.pl (.int .i64 3), .pl (.string ⟨#[115, 101, 118]⟩), .pl (.string ⟨#[99, 114, 105, 116, 124, 119, 97, 114, 110]⟩)], .box [.pl (.int .i64 0), .pl (.int .u64 0), .pl (.int .u64 0), .pl (.int .u64 0), .pl (.int .u64 0), .nils], .box [.pl (.string ⟨#[99, 114, 105, 116, 124, 119, 97, 114, 110]⟩), .pl (.int .i64 9), .pl (.bool false)]] := evFT_ok allF extF [] 300 100 _ _ _ _ _ (by kernel_rfl)
def rr0 : Memo Try.prog := ⟨_, _, _, _, _, rr0_ok⟩

/- 3361 steps -/
theorem rr1_ok : Ans Try.prog 95 [.ptr 1 0, .pl (.int .i64 0)] [.box [.pl (.int .i64 0), .pl (.int .u64 0), .pl (.int .u64 0), .pl (.int .u64 0), .pl (.int .u64 0), .nils], .box [.pl (.string ⟨#[99, 114, 105, 116, 124, 119, 97, 114, 110]⟩), .pl (.int .i64 0), .pl (.bool false)]] (.agg [.pl (.int .i64 3), .pl (.int .u64 0), .pl (.int .u64 0), .pl (.int .u64 0), .pl (.int .u64 0), .sl 6 [.agg [.pl (.int .i64 2), .pl (.int .u64 0), .pl (.int .u64 0), .pl (.int .u64 0), .pl (.int .u64 0), .sl 6 [.agg [.pl (.int .i64 1), .pl (.int .u64 0), .pl (.int .u64 34359738368), .pl (.int .u64 0), .pl (.int .u64 0), .nils], .agg [.pl (.int .i64 1), .pl (.int .u64 0), .pl (.int .u64 1125899906842624), .pl (.int .u64 0), .pl (.int .u64 0), .nils], .agg [.pl (.int .i64 1), .pl (.int .u64 0), .pl (.int .u64 2199023255552), .pl (.int .u64 0), .pl (.int .u64 0), .nils], .agg [.pl (.int .i64 1), .pl (.int .u64 0), .pl (.int .u64 4503599627370496), .pl (.int .u64 0), .pl (.int .u64 0), .nils]]], .agg [.pl (.int .i64 2), .pl (.int .u64 0), .pl (.int .u64 0), .pl (.int .u64 0), .pl (.int .u64 0), .sl 6 [.agg [.pl (.int .i64 1), .pl (.int .u64 0), .pl (.int .u64 36028797018963968), .pl (.int .u64 0), .pl (.int .u64 0), .nils], .agg [.pl (.int .i64 1), .pl (.int .u64 0), .pl (.int .u64 8589934592), .pl (.int .u64 0), .pl (.int .u64 0), .nils], .agg [.pl (.int .i64 1), .pl (.int .u64 0), .pl (.int .u64 1125899906842624), .pl (.int .u64 0), .pl (.int .u64 0), .nils], .agg [.pl (.int .i64 1), .pl (.int .u64 0), .pl (.int .u64 70368744177664), .pl (.int .u64 0), .pl (.int .u64 0), .nils]]]]]) [.box [.pl (.int .i64 0), .pl (.int .u64 0), .pl (.int .u64 0), .pl (.int .u64 0), .pl (.int .u64 0), .nils], .box [.pl (.string ⟨#[99, 114, 105, 116, 124, 119, 97, 114, 110]⟩), .pl (.int .i64 9), .pl (.bool false)]] := evFT_ok allF extF [rr0] 300 100 _ _ _ _ _ (by kernel_rfl)
def rr1 : Memo Try.prog := ⟨_, _, _, _, _, rr1_ok⟩

/- 3017 steps -/
theorem rr2_ok : Ans Try.prog 74 [.agg [.sl 3 [.agg [.pl (.int .i64 1), .pl (.string ⟨#[115, 101, 118]⟩), .pl (.string ⟨#[99, 114, 105, 116]⟩)]], .sl 3 [.agg [.pl (.int .i64 3), .pl (.string ⟨#[115, 101, 118]⟩), .pl (.string ⟨#[99, 114, 105, 116, 124, 119, 97, 114, 110]⟩)]], .pl (.bool true), .pl (.float .f64 0), .pl (.float .f64 0), .sl 1 [.pl (.string ⟨#[99]⟩)]]] [] (.pl (.bool true)) [] := evFT_ok allF extF [rr0, rr1] 300 100 _ _ _ _ _ (by kernel_rfl)
def rr2 : Memo Try.prog := ⟨_, _, _, _, _, rr2_ok⟩

/- 4135 steps -/
theorem rr3_ok : Ans Try.prog 15 [.agg [.pl (.int .i64 3), .pl (.string ⟨#[115, 101, 118]⟩), .pl (.string ⟨#[99, 114, 105, 116, 124, 119, 97, 114, 110]⟩)], .sl 2 [.agg [.pl (.string ⟨#[99]⟩), .pl (.string ⟨#[120]⟩)], .agg [.pl (.string ⟨#[115, 101, 118]⟩), .pl (.string ⟨#[119, 97, 114, 110]⟩)]]] [] (.pl (.bool true)) [] := evFT_ok allF extF [rr0, rr1, rr2] 300 100 _ _ _ _ _ (by kernel_rfl)
def rr3 : Memo Try.prog := ⟨_, _, _, _, _, rr3_ok⟩

/- 4135 steps -/
theorem rr4_ok : Ans Try.prog 15 [.agg [.pl (.int .i64 3), .pl (.string ⟨#[115, 101, 118]⟩), .pl (.string ⟨#[99, 114, 105, 116, 124, 119, 97, 114, 110]⟩)], .sl 2 [.agg [.pl (.string ⟨#[99]⟩), .pl (.string ⟨#[121]⟩)], .agg [.pl (.string ⟨#[115, 101, 118]⟩), .pl (.string ⟨#[119, 97, 114, 110]⟩)]]] [] (.pl (.bool true)) [] := evFT_ok allF extF [rr0, rr1, rr2, rr3] 300 100 _ _ _ _ _ (by kernel_rfl)
def rr4 : Memo Try.prog := ⟨_, _, _, _, _, rr4_ok⟩

/- 4171 steps -/
theorem rr5_ok : Ans Try.prog 15 [.agg [.pl (.int .i64 3), .pl (.string ⟨#[115, 101, 118]⟩), .pl (.string ⟨#[99, 114, 105, 116, 124, 119, 97, 114, 110]⟩)], .sl 2 [.agg [.pl (.string ⟨#[99]⟩), .pl (.string ⟨#[120]⟩)], .agg [.pl (.string ⟨#[115, 101, 118]⟩), .pl (.string ⟨#[99, 114, 105, 116]⟩)]]] [] (.pl (.bool true)) [] := evFT_ok allF extF [rr0, rr1, rr2, rr3, rr4] 300 100 _ _ _ _ _ (by kernel_rfl)
def rr5 : Memo Try.prog := ⟨_, _, _, _, _, rr5_ok⟩

/- 4429 steps -/
theorem rr_ok : Ans Try.prog 31 [] [] (.pl (.bool true)) [] := evFT_ok allF extF [rr0, rr1, rr2, rr3, rr4, rr5] 300 100 _ _ _ _ _ (by kernel_rfl)
def rr_m : Memo Try.prog := ⟨_, _, _, _, _, rr_ok⟩



end Go.Proofs.Ytoadgajhkhejiaa
