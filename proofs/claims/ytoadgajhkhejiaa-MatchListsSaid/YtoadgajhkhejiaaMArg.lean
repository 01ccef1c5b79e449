/- Arguments: a matcher, labels, matchers. No condition. -/
import Derived.Test.YtoadgajhkhejiaaRows
import Derived.Test.YtoadgajhkhejiaaLs4
import Derived.Test.YtoadgajhkhejiaaAbArg
import Derived.Test.YtoadgajhkhejiaaAbLaw
set_option linter.unusedSimpArgs false
set_option linter.unusedVariables false
namespace Go.Proofs.Ytoadgajhkhejiaa
open Go Go.Ab Go.ChangeShapes Go.WideShapes Go.ChangeAt Go.RowKit
set_option maxRecDepth 100000
def QLab : List AV → Prop := fun xs => ∃ a b : ByteArray, xs = [Sx a, Sx b]
def QMtr : List AV → Prop := fun xs => ∃ (k : Int) (a b : ByteArray), xs = [I k, Sx a, Sx b]
theorem reads_lab (f : Nat) : Reads Try.prog 29 f QLab := by
  cases f with
  | zero => exact Reads.zero
  | succ f =>
    have h := Reads.struct (P := Try.prog) (t := 29) (f := f) (Qs := [QText, QText]) Try.underlying29 (by kernel_rfl) rfl (by
      intro p hp
      simp only [List.zip_cons_cons, List.zip_nil_right, List.mem_cons, List.not_mem_nil, or_false] at hp
      rcases hp with rfl | rfl
      · exact Reads.text Try.underlying9 f
      · exact Reads.text Try.underlying9 f)
    refine h.mono fun xs hq => ?_
    obtain ⟨_, b, rfl, ⟨k, _, rfl⟩, _, d, rfl, ⟨n, _, rfl⟩, rfl⟩ := hq
    exact ⟨k, n, rfl⟩
theorem reads_mtr (f : Nat) : Reads Try.prog 23 f QMtr := by
  cases f with
  | zero => exact Reads.zero
  | succ f =>
    have h := Reads.struct (P := Try.prog) (t := 23) (f := f) (Qs := [QInt .i64, QText, QText]) Try.underlying23 (by kernel_rfl) rfl (by
      intro p hp
      simp only [List.zip_cons_cons, List.zip_nil_right, List.mem_cons, List.not_mem_nil, or_false] at hp
      rcases hp with rfl | rfl | rfl
      · exact Reads.int Try.underlying3 f
      · exact Reads.text Try.underlying9 f
      · exact Reads.text Try.underlying9 f)
    refine h.mono fun xs hq => ?_
    obtain ⟨_, b, rfl, ⟨k, _, rfl⟩, _, d, rfl, ⟨n, _, rfl⟩, _, _, rfl, ⟨v, _, rfl⟩, rfl⟩ := hq
    exact ⟨k, n, v, rfl⟩
theorem labs_of : ∀ {ys : List (List AV)}, (∀ y ∈ ys, QLab y) → ∃ L : List Lab, ys.map (wrapC true) = lvs L
  | [], _ => ⟨[], rfl⟩
  | y :: ys, h => by
    obtain ⟨a, b, rfl⟩ := h y List.mem_cons_self
    obtain ⟨L, hL⟩ := labs_of fun y hy => h y (List.mem_cons_of_mem _ hy)
    exact ⟨(a, b) :: L, by rw [List.map_cons, hL]; rfl⟩
theorem mtrs_of : ∀ {ys : List (List AV)}, (∀ y ∈ ys, QMtr y) → ∃ L : List Mtr, ys.map (wrapC true) = mvs3 L
  | [], _ => ⟨[], rfl⟩
  | y :: ys, h => by
    obtain ⟨k, a, b, rfl⟩ := h y List.mem_cons_self
    obtain ⟨L, hL⟩ := mtrs_of fun y hy => h y (List.mem_cons_of_mem _ hy)
    exact ⟨(k, a, b) :: L, by rw [List.map_cons, hL]; rfl⟩
theorem labs_arg {H : Type} {enc : TypeId × Value → H} {W : World} {base : Nat} {v : Value} {d : DataW H} {ps : List MemPlace} (hv : Value.okWide Try.prog W .any base 24 v)
    (h : DataW.Trod enc Try.prog W 0 (fun _ => true) true 24 v d ps) : ∃ L : List Lab, Rep noM noR W (.sl 2 (lvs L)) v := by
  obtain ⟨sa, len, cap, rfl⟩ := okWide_slice Try.underlying24 hv
  obtain ⟨x, hx, hq⟩ := Reads.arg (P := Try.prog) (t := 24) (Q := QSlice 2 true QLab) (fun f => by
    cases f with
    | zero => exact Reads.zero
    | succ f => exact Reads.slice true Try.underlying24 (by kernel_rfl) (by decide) (reads_lab f) (fun y _ _ => rfl)) rfl h
  rcases hq with hq | ⟨ys, hys, _, hq⟩
  · simp only [List.cons.injEq, and_true] at hq
    subst hq
    refine ⟨[], ?_⟩
    cases hx
    exact .sl0 _ _ _
  · obtain ⟨L, hn⟩ := labs_of hys
    simp only [List.cons.injEq, and_true] at hq
    subst hq
    rw [hn] at hx
    exact ⟨L, hx⟩
theorem mtrs_arg {H : Type} {enc : TypeId × Value → H} {W : World} {base : Nat} {v : Value} {d : DataW H} {ps : List MemPlace} (hv : Value.okWide Try.prog W .any base 26 v)
    (h : DataW.Trod enc Try.prog W 0 (fun _ => true) true 26 v d ps) : ∃ L : List Mtr, Rep noM noR W (.sl 3 (mvs3 L)) v := by
  obtain ⟨sa, len, cap, rfl⟩ := okWide_slice Try.underlying26 hv
  obtain ⟨x, hx, hq⟩ := Reads.arg (P := Try.prog) (t := 26) (Q := QSlice 3 true QMtr) (fun f => by
    cases f with
    | zero => exact Reads.zero
    | succ f => exact Reads.slice true Try.underlying26 (by kernel_rfl) (by decide) (reads_mtr f) (fun y _ _ => rfl)) rfl h
  rcases hq with hq | ⟨ys, hys, _, hq⟩
  · simp only [List.cons.injEq, and_true] at hq
    subst hq
    refine ⟨[], ?_⟩
    cases hx
    exact .sl0 _ _ _
  · obtain ⟨L, hn⟩ := mtrs_of hys
    simp only [List.cons.injEq, and_true] at hq
    subst hq
    rw [hn] at hx
    exact ⟨L, hx⟩
end Go.Proofs.Ytoadgajhkhejiaa
