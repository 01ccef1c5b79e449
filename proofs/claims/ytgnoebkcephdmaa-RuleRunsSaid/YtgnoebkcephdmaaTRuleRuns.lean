/- RuleRuns answers true: the code is run by the kernel. No condition. -/
import Derived.Test.YtgnoebkcephdmaaRows
import Derived.Test.YtgnoebkcephdmaaTRun
import Derived.Test.YtgnoebkcephdmaaAbFast
import Derived.Test.YtgnoebkcephdmaaAbLaw
namespace Go.Proofs.Ytgnoebkcephdmaa
open Go Go.Ab Go.ChangeShapes Go.WideShapes Go.ChangeAt Go.RowKit

theorem own_knob : ownKnob Try.prog.godebug = none := by kernel_rfl
theorem laid_out : laidOutB Try.prog = true := by kernel_rfl

/- 3361 steps -/
theorem m0_ok : Ans Try.prog 60 [.ptr 2 0, .pl (.int .i64 0)] [.box [.pl (.int .i64 3), .pl (.string ⟨#[115, 101, 118]⟩), .pl (.string ⟨#[99, 114, 105, 116, 124, 119, 97, 114, 110]⟩)], .box [.pl (.int .i64 0), .pl (.int .u64 0), .pl (.int .u64 0), .pl (.int .u64 0), .pl (.int .u64 0), .nils], .box [.pl (.string ⟨#[99, 114, 105, 116, 124, 119, 97, 114, 110]⟩), .pl (.int .i64 0), .pl (.bool false)]] (.agg [.pl (.int .i64 3), .pl (.int .u64 0), .pl (.int .u64 0), .pl (.int .u64 0), .pl (.int .u64 0), .sl 6 [.agg [.pl (.int .i64 2), .pl (.int .u64 0), .pl (.int .u64 0), .pl (.int .u64 0), .pl (.int .u64 0), .sl 6 [.agg [.pl (.int .i64 1), .pl (.int .u64 0), .pl (.int .u64 34359738368), .pl (.int .u64 0), .pl (.int .u64 0), .nils], .agg [.pl (.int .i64 1), .pl (.int .u64 0), .pl (.int .u64 1125899906842624), .pl (.int .u64 0), .pl (.int .u64 0), .nils], .agg [.pl (.int .i64 1), .pl (.int .u64 0), .pl (.int .u64 2199023255552), .pl (.int .u64 0), .pl (.int .u64 0), .nils], .agg [.pl (.int .i64 1), .pl (.int .u64 0), .pl (.int .u64 4503599627370496), .pl (.int .u64 0), .pl (.int .u64 0), .nils]]], .agg [.pl (.int .i64 2), .pl (.int .u64 0), .pl (.int .u64 0), .pl (.int .u64 0), .pl (.int .u64 0), .sl 6 [.agg [.pl (.int .i64 1), .pl (.int .u64 0), .pl (.int .u64 36028797018963968), .pl (.int .u64 0), .pl (.int .u64 0), .nils], .agg [.pl (.int .i64 1), .pl (.int .u64 0), .pl (.int .u64 8589934592), .pl (.int .u64 0), .pl (.int .u64 0), .nils], .agg [.pl (.int .i64 1), .pl (.int .u64 0), .pl (.int .u64 1125899906842624), .pl (.int .u64 0), .pl (.int .u64 0), .nils], .agg [.pl (.int .i64 1), .pl (.int .u64 0), .pl (.int .u64 70368744177664), .pl (.int .u64 0), .pl (.int .u64 0), .nils]]]]]) [.box [.pl (.int .i64 3), .pl (.string ⟨#[115, 101, 118]⟩), .pl (.string ⟨#[99, 114, 105, 116, 124, 119, 97, 114, 110]⟩)], .box [.pl (.int .i64 0), .pl (.int .u64 0), .pl (.int .u64 0), .pl (.int .u64 0), .pl (.int .u64 0), .nils], .box [.pl (.string ⟨#[99, 114, 105, 116, 124, 119, 97, 114, 110]⟩), .pl (.int .i64 9), .pl (.bool false)]] := evFM_ok allF extF [] 300 100 _ _ _ _ _ (by kernel_rfl)
def m0 : Memo Try.prog := ⟨_, _, _, _, _, m0_ok⟩

/- 3361 steps -/
theorem m1_ok : Ans Try.prog 60 [.ptr 1 0, .pl (.int .i64 0)] [.box [.pl (.int .i64 0), .pl (.int .u64 0), .pl (.int .u64 0), .pl (.int .u64 0), .pl (.int .u64 0), .nils], .box [.pl (.string ⟨#[99, 114, 105, 116, 124, 119, 97, 114, 110]⟩), .pl (.int .i64 0), .pl (.bool false)]] (.agg [.pl (.int .i64 3), .pl (.int .u64 0), .pl (.int .u64 0), .pl (.int .u64 0), .pl (.int .u64 0), .sl 6 [.agg [.pl (.int .i64 2), .pl (.int .u64 0), .pl (.int .u64 0), .pl (.int .u64 0), .pl (.int .u64 0), .sl 6 [.agg [.pl (.int .i64 1), .pl (.int .u64 0), .pl (.int .u64 34359738368), .pl (.int .u64 0), .pl (.int .u64 0), .nils], .agg [.pl (.int .i64 1), .pl (.int .u64 0), .pl (.int .u64 1125899906842624), .pl (.int .u64 0), .pl (.int .u64 0), .nils], .agg [.pl (.int .i64 1), .pl (.int .u64 0), .pl (.int .u64 2199023255552), .pl (.int .u64 0), .pl (.int .u64 0), .nils], .agg [.pl (.int .i64 1), .pl (.int .u64 0), .pl (.int .u64 4503599627370496), .pl (.int .u64 0), .pl (.int .u64 0), .nils]]], .agg [.pl (.int .i64 2), .pl (.int .u64 0), .pl (.int .u64 0), .pl (.int .u64 0), .pl (.int .u64 0), .sl 6 [.agg [.pl (.int .i64 1), .pl (.int .u64 0), .pl (.int .u64 36028797018963968), .pl (.int .u64 0), .pl (.int .u64 0), .nils], .agg [.pl (.int .i64 1), .pl (.int .u64 0), .pl (.int .u64 8589934592), .pl (.int .u64 0), .pl (.int .u64 0), .nils], .agg [.pl (.int .i64 1), .pl (.int .u64 0), .pl (.int .u64 1125899906842624), .pl (.int .u64 0), .pl (.int .u64 0), .nils], .agg [.pl (.int .i64 1), .pl (.int .u64 0), .pl (.int .u64 70368744177664), .pl (.int .u64 0), .pl (.int .u64 0), .nils]]]]]) [.box [.pl (.int .i64 0), .pl (.int .u64 0), .pl (.int .u64 0), .pl (.int .u64 0), .pl (.int .u64 0), .nils], .box [.pl (.string ⟨#[99, 114, 105, 116, 124, 119, 97, 114, 110]⟩), .pl (.int .i64 9), .pl (.bool false)]] := evFM_ok allF extF [m0] 300 100 _ _ _ _ _ (by kernel_rfl)
def m1 : Memo Try.prog := ⟨_, _, _, _, _, m1_ok⟩

/- 3017 steps -/
theorem m2_ok : Ans Try.prog 62 [.agg [.sl 3 [.agg [.pl (.int .i64 1), .pl (.string ⟨#[115, 101, 118]⟩), .pl (.string ⟨#[99, 114, 105, 116]⟩)]], .sl 3 [.agg [.pl (.int .i64 3), .pl (.string ⟨#[115, 101, 118]⟩), .pl (.string ⟨#[99, 114, 105, 116, 124, 119, 97, 114, 110]⟩)]], .pl (.bool true), .pl (.float .f64 0), .pl (.float .f64 0), .sl 1 [.pl (.string ⟨#[99]⟩)]]] [] (.pl (.bool true)) [] := evFM_ok allF extF [m0, m1] 300 100 _ _ _ _ _ (by kernel_rfl)
def m2 : Memo Try.prog := ⟨_, _, _, _, _, m2_ok⟩

/- 2609 steps -/
theorem m3_ok : Ans Try.prog 22 [.sl 7 [.agg [.pl (.int .i64 2), .pl (.int .u64 0), .pl (.int .u64 0), .pl (.int .u64 0), .pl (.int .u64 0), .pl (.int .i64 1), .pl (.int .i64 6)], .agg [.pl (.int .i64 1), .pl (.int .u64 0), .pl (.int .u64 34359738368), .pl (.int .u64 0), .pl (.int .u64 0), .pl (.int .i64 0), .pl (.int .i64 0)], .agg [.pl (.int .i64 1), .pl (.int .u64 0), .pl (.int .u64 1125899906842624), .pl (.int .u64 0), .pl (.int .u64 0), .pl (.int .i64 0), .pl (.int .i64 0)], .agg [.pl (.int .i64 1), .pl (.int .u64 0), .pl (.int .u64 2199023255552), .pl (.int .u64 0), .pl (.int .u64 0), .pl (.int .i64 0), .pl (.int .i64 0)], .agg [.pl (.int .i64 1), .pl (.int .u64 0), .pl (.int .u64 4503599627370496), .pl (.int .u64 0), .pl (.int .u64 0), .pl (.int .i64 0), .pl (.int .i64 0)], .agg [.pl (.int .i64 3), .pl (.int .u64 0), .pl (.int .u64 0), .pl (.int .u64 0), .pl (.int .u64 0), .pl (.int .i64 10), .pl (.int .i64 0)], .agg [.pl (.int .i64 1), .pl (.int .u64 0), .pl (.int .u64 36028797018963968), .pl (.int .u64 0), .pl (.int .u64 0), .pl (.int .i64 0), .pl (.int .i64 0)], .agg [.pl (.int .i64 1), .pl (.int .u64 0), .pl (.int .u64 8589934592), .pl (.int .u64 0), .pl (.int .u64 0), .pl (.int .i64 0), .pl (.int .i64 0)], .agg [.pl (.int .i64 1), .pl (.int .u64 0), .pl (.int .u64 1125899906842624), .pl (.int .u64 0), .pl (.int .u64 0), .pl (.int .i64 0), .pl (.int .i64 0)], .agg [.pl (.int .i64 1), .pl (.int .u64 0), .pl (.int .u64 70368744177664), .pl (.int .u64 0), .pl (.int .u64 0), .pl (.int .i64 0), .pl (.int .i64 0)], .agg [.pl (.int .i64 4), .pl (.int .u64 0), .pl (.int .u64 0), .pl (.int .u64 0), .pl (.int .u64 0), .pl (.int .i64 0), .pl (.int .i64 0)]], .pl (.string ⟨#[119, 97, 114, 110]⟩)] [] (.pl (.bool true)) [] := evFM_ok allF extF [m0, m1, m2] 300 100 _ _ _ _ _ (by kernel_rfl)
def m3 : Memo Try.prog := ⟨_, _, _, _, _, m3_ok⟩

/- 2607 steps -/
theorem m4_ok : Ans Try.prog 11 [.agg [.sl 3 [.agg [.pl (.int .i64 1), .pl (.string ⟨#[115, 101, 118]⟩), .pl (.string ⟨#[99, 114, 105, 116]⟩)]], .sl 3 [.agg [.pl (.int .i64 3), .pl (.string ⟨#[115, 101, 118]⟩), .pl (.string ⟨#[99, 114, 105, 116, 124, 119, 97, 114, 110]⟩)]], .pl (.bool true), .pl (.float .f64 0), .pl (.float .f64 0), .sl 1 [.pl (.string ⟨#[99]⟩)]], .agg [.pl (.int .i64 1), .sl 2 [.agg [.pl (.string ⟨#[99]⟩), .pl (.string ⟨#[120]⟩)], .agg [.pl (.string ⟨#[115, 101, 118]⟩), .pl (.string ⟨#[99, 114, 105, 116]⟩)]], .pl (.float .f64 0)], .agg [.pl (.int .i64 1), .sl 2 [.agg [.pl (.string ⟨#[99]⟩), .pl (.string ⟨#[120]⟩)], .agg [.pl (.string ⟨#[115, 101, 118]⟩), .pl (.string ⟨#[119, 97, 114, 110]⟩)]], .pl (.float .f64 0)]] [] (.pl (.bool true)) [] := evFM_ok allF extF [m0, m1, m2, m3] 300 100 _ _ _ _ _ (by kernel_rfl)
def m4 : Memo Try.prog := ⟨_, _, _, _, _, m4_ok⟩

/- 2607 steps -/
theorem m5_ok : Ans Try.prog 11 [.agg [.sl 3 [.agg [.pl (.int .i64 1), .pl (.string ⟨#[115, 101, 118]⟩), .pl (.string ⟨#[99, 114, 105, 116]⟩)]], .sl 3 [.agg [.pl (.int .i64 3), .pl (.string ⟨#[115, 101, 118]⟩), .pl (.string ⟨#[99, 114, 105, 116, 124, 119, 97, 114, 110]⟩)]], .pl (.bool true), .pl (.float .f64 0), .pl (.float .f64 0), .sl 1 [.pl (.string ⟨#[99]⟩)]], .agg [.pl (.int .i64 1), .sl 2 [.agg [.pl (.string ⟨#[99]⟩), .pl (.string ⟨#[120]⟩)], .agg [.pl (.string ⟨#[115, 101, 118]⟩), .pl (.string ⟨#[99, 114, 105, 116]⟩)]], .pl (.float .f64 0)], .agg [.pl (.int .i64 1), .sl 2 [.agg [.pl (.string ⟨#[99]⟩), .pl (.string ⟨#[121]⟩)], .agg [.pl (.string ⟨#[115, 101, 118]⟩), .pl (.string ⟨#[119, 97, 114, 110]⟩)]], .pl (.float .f64 0)]] [] (.pl (.bool false)) [] := evFM_ok allF extF [m0, m1, m2, m3, m4] 300 100 _ _ _ _ _ (by kernel_rfl)
def m5 : Memo Try.prog := ⟨_, _, _, _, _, m5_ok⟩

/- 2644 steps -/
theorem m6_ok : Ans Try.prog 22 [.sl 7 [.agg [.pl (.int .i64 2), .pl (.int .u64 0), .pl (.int .u64 0), .pl (.int .u64 0), .pl (.int .u64 0), .pl (.int .i64 1), .pl (.int .i64 6)], .agg [.pl (.int .i64 1), .pl (.int .u64 0), .pl (.int .u64 34359738368), .pl (.int .u64 0), .pl (.int .u64 0), .pl (.int .i64 0), .pl (.int .i64 0)], .agg [.pl (.int .i64 1), .pl (.int .u64 0), .pl (.int .u64 1125899906842624), .pl (.int .u64 0), .pl (.int .u64 0), .pl (.int .i64 0), .pl (.int .i64 0)], .agg [.pl (.int .i64 1), .pl (.int .u64 0), .pl (.int .u64 2199023255552), .pl (.int .u64 0), .pl (.int .u64 0), .pl (.int .i64 0), .pl (.int .i64 0)], .agg [.pl (.int .i64 1), .pl (.int .u64 0), .pl (.int .u64 4503599627370496), .pl (.int .u64 0), .pl (.int .u64 0), .pl (.int .i64 0), .pl (.int .i64 0)], .agg [.pl (.int .i64 3), .pl (.int .u64 0), .pl (.int .u64 0), .pl (.int .u64 0), .pl (.int .u64 0), .pl (.int .i64 10), .pl (.int .i64 0)], .agg [.pl (.int .i64 1), .pl (.int .u64 0), .pl (.int .u64 36028797018963968), .pl (.int .u64 0), .pl (.int .u64 0), .pl (.int .i64 0), .pl (.int .i64 0)], .agg [.pl (.int .i64 1), .pl (.int .u64 0), .pl (.int .u64 8589934592), .pl (.int .u64 0), .pl (.int .u64 0), .pl (.int .i64 0), .pl (.int .i64 0)], .agg [.pl (.int .i64 1), .pl (.int .u64 0), .pl (.int .u64 1125899906842624), .pl (.int .u64 0), .pl (.int .u64 0), .pl (.int .i64 0), .pl (.int .i64 0)], .agg [.pl (.int .i64 1), .pl (.int .u64 0), .pl (.int .u64 70368744177664), .pl (.int .u64 0), .pl (.int .u64 0), .pl (.int .i64 0), .pl (.int .i64 0)], .agg [.pl (.int .i64 4), .pl (.int .u64 0), .pl (.int .u64 0), .pl (.int .u64 0), .pl (.int .u64 0), .pl (.int .i64 0), .pl (.int .i64 0)]], .pl (.string ⟨#[99, 114, 105, 116]⟩)] [] (.pl (.bool true)) [] := evFM_ok allF extF [m0, m1, m2, m3, m4, m5] 300 100 _ _ _ _ _ (by kernel_rfl)
def m6 : Memo Try.prog := ⟨_, _, _, _, _, m6_ok⟩

/- 5287 steps -/
theorem m7_ok : Ans Try.prog 4 [] [] (.pl (.bool true)) [] := evFM_ok allF extF [m0, m1, m2, m3, m4, m5, m6] 300 100 _ _ _ _ _ (by kernel_rfl)
def m7 : Memo Try.prog := ⟨_, _, _, _, _, m7_ok⟩


theorem ruleRuns_ans : Ans Try.prog 4 [] [] (.pl (.bool true)) [] := m7_ok

theorem ruleRuns_lifted (os : Os) (started : os.Started) (H : Type) (enc : TypeId × Value → H) :
    ReturnsInHanded {} Try.checked os 4 .any (Rows.ruleRunsSpec.pre6 enc Try.prog Try.f4 Rows.ruleRunsRow.domain false) (Rows.ruleRunsSpec.post enc Try.prog Try.f4 false true false false) := by
  refine returnsInHanded_of_change (C := Try.checked) own_knob started (by kernel_rfl) Try.func4
    (ChangeSpec.witness6 (enc := enc) (C := Try.checked) false ⟨#[], #[], []⟩ 8 (by kernel_rfl) (by kernel_rfl) (by kernel_rfl) (by kernel_rfl)) ?_
  intro W base args ds gs before hval0 hW hcnd _
  have hW' := hW
  obtain ⟨p, q, hA0, hV, rfl, hfz, hnd⟩ := hW
  have hA : DataW.TrodAll enc Try.prog W 0 (fun _ => true) true Try.f4.params.toList args.toList ds p := hA0
  rw [Try.params4] at hA
  obtain ⟨ha, rfl, rfl⟩ := trodAll_nil hA
  have : args = #[] := by cases args; simpa using ha
  subst this
  refine (Ans.law (P := Try.prog) (W := W) (vs := []) Try.func4 (by kernel_rfl) (by kernel_rfl) ruleRuns_ans ⟨rfl, fun j h => by simp at h⟩).mono fun e W' ⟨v, he, hk, M', R', hr⟩ => ?_
  cases hr
  exact ⟨_, he, law_post (P := Try.prog) laid_out (by rw [Try.params4]; simp) rfl rfl (tb := 4) (by kernel_rfl) hW' (fun ds h => by
    match ds, h with
    | [], _ => exact ⟨rfl, rfl, rfl⟩) hk⟩

theorem ruleRuns_holds : Rows.RuleRunsSaid :=
  OpenClaim.holds_of_wide 4 Try.f4 rfl rfl rfl rfl rfl rfl rfl ⟨rfl, rfl, rfl, rfl, rfl⟩ rfl rfl rfl rfl rfl (by kernel_rfl) Try.func4 (by kernel_rfl)
    (of_decide_eq_true (by kernel_rfl)) (by unfold Func.isWrapper; first | (rw [if_pos (by decide +kernel)]; kernel_rfl) | (rw [if_neg (by decide +kernel)]; exact ⟨rfl, rfl⟩))
    (fun os started H enc _ => ruleRuns_lifted os started H enc)

end Go.Proofs.Ytgnoebkcephdmaa
