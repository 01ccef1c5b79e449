/- ProgAdds answers true at any two trees: the statement. No condition. -/
import Derived.Test.YtoiageeecdgleaaTree3
set_option linter.unusedSimpArgs false
set_option linter.unusedVariables false
namespace Go.Proofs.Ytoiageeecdgleaa
open Go Go.Ab Go.ChangeShapes Go.WideShapes Go.ChangeAt Go.RowKit
open Rex
set_option maxRecDepth 100000

theorem reads_set (f : Nat) : Reads Try.prog 23 f (QStr (List.replicate 4 (QInt .u64))) := by
  cases f with
  | zero => exact Reads.zero
  | succ f => exact Reads.array (e := 22) (by kernel_rfl) (by kernel_rfl) (Reads.int (by kernel_rfl) f)

def QKids : List AV → Prop := fun xs => ∃ ys : List Rex, xs = [.sl 6 (ys.map av)]
def QRex : List AV → Prop := fun xs => ∃ x : Rex, xs = x.av.cells

theorem wrap_rex {y : List AV} (h : QRex y) : ∃ x : Rex, wrapC true y = x.av := by
  obtain ⟨x, rfl⟩ := h
  refine ⟨x, ?_⟩
  cases x; rfl

theorem wraps_rex : ∀ {ys : List (List AV)}, (∀ y ∈ ys, QRex y) → ∃ ss : List Rex, ys.map (wrapC true) = ss.map av
  | [], _ => ⟨[], rfl⟩
  | y :: ys, h => by
    obtain ⟨s, hs⟩ := wrap_rex (h y (by simp))
    obtain ⟨ss, hss⟩ := wraps_rex (ys := ys) (fun z hz => h z (by simp [hz]))
    exact ⟨s :: ss, by simp [hs, hss]⟩

theorem reads_kids {f : Nat} (hr : Reads Try.prog 26 f QRex) : Reads Try.prog 24 (f + 1) QKids := by
  have h := Reads.slice (P := Try.prog) (t := 24) true Try.underlying24 (sz := 6) (by kernel_rfl) (by decide) hr (fun _ _ _ => rfl)
  intro H enc W cs x hx
  obtain ⟨xs, h1, h2⟩ := h H enc W cs x hx
  rcases h2 with rfl | ⟨ys, hys, _, rfl⟩
  · refine ⟨[.sl 6 []], ?_, [], rfl⟩
    match cs, h1 with
    | [v], h1 =>
      have := h1.2 0 (by simp) (by simp)
      simp only [List.getElem_cons_zero] at this
      cases this
      exact reps_one (.sl0 _ _ _)
    | [], h1 => exact absurd h1.1 (by simp)
    | _ :: _ :: _, h1 => exact absurd h1.1 (by simp)
  · obtain ⟨ss, hss⟩ := wraps_rex hys
    exact ⟨_, h1, ss, by rw [hss]⟩

theorem reads_rex : ∀ f : Nat, Reads Try.prog 26 f QRex
  | 0 => Reads.zero
  | f + 1 => by
    have hk : Reads Try.prog 24 f QKids := by
      match f with
      | 0 => exact Reads.zero
      | f + 1 => exact reads_kids (reads_rex f)
    have h := Reads.struct (P := Try.prog) (t := 26) (f := f) (Qs := [QInt .i64, QStr (List.replicate 4 (QInt .u64)), QKids]) Try.underlying26 (by kernel_rfl) rfl (by
      intro p hp
      simp only [List.zip_cons_cons, List.zip_nil_right, List.mem_cons, List.not_mem_nil, or_false] at hp
      rcases hp with rfl | rfl | rfl
      · exact Reads.int (by kernel_rfl) f
      · exact reads_set f
      · exact hk)
    refine h.mono fun xs hq => ?_
    obtain ⟨_, b, rfl, ⟨op, _, rfl⟩, _, d, rfl, ⟨_, _, rfl, ⟨a1, _, rfl⟩, _, _, rfl, ⟨a2, _, rfl⟩, _, _, rfl, ⟨a3, _, rfl⟩, _, _, rfl, ⟨a4, _, rfl⟩, rfl⟩, _, _, rfl, ⟨ks, rfl⟩, rfl⟩ := hq
    refine ⟨.mk op a1 a2 a3 a4 ks, ?_⟩
    rw [av_eq]
    rfl

theorem reps_two {W : World} {x y : AV} {v w : Value} (h : Rep noM noR W x v) (h' : Rep noM noR W y w) : Reps noM noR W [x, y] [v, w] :=
  reps_append (reps_one h) (reps_one h')

theorem rex_arg {H : Type} {enc : TypeId × Value → H} {W : World} {base : Nat} {v : Value} {d : DataW H} {ps : List MemPlace} (hv : Value.okWide Try.prog W .any base 26 v) (h : DataW.Trod enc Try.prog W 0 (fun _ => true) true 26 v d ps) :
    ∃ x : Rex, Rep noM noR W x.av v := by
  obtain ⟨cs, rfl, _⟩ := okWide_struct Try.underlying26 hv
  obtain ⟨xs, h1, x, rfl⟩ := Reads.argS reads_rex h
  refine ⟨x, ?_⟩
  rw [av_eq] at h1 ⊢
  exact h1

def zeroRex : Value := .agg #[.int .i64 0, .int .u64 0, .int .u64 0, .int .u64 0, .int .u64 0, .slice none 0 0]

theorem progAdds_lifted (os : Os) (started : os.Started) (H : Type) (enc : TypeId × Value → H) :
    ReturnsInHanded {} Try.checked os 8 .any (Rows.progAddsSpec.pre6 enc Try.prog Try.f8 Rows.progAddsRow.domain false) (Rows.progAddsSpec.post enc Try.prog Try.f8 false true false false) := by
  refine returnsInHanded_of_change (C := Try.checked) Try.own started (by kernel_rfl) Try.func8
    (ChangeSpec.witness6 (enc := enc) (C := Try.checked) false ⟨#[], #[zeroRex, zeroRex], []⟩ 8 (by kernel_rfl) (by kernel_rfl) (by kernel_rfl) (by kernel_rfl)) ?_
  intro W base args ds gs before hval0 hW hcnd _
  have hval : ∀ (j : Nat) t v, Try.f8.params[j]? = some t → args[j]? = some v → Value.okWide Try.prog W .any base t v := hval0
  have hW' := hW
  obtain ⟨p, q, hA0, hV, rfl, hfz, hnd⟩ := hW
  have hA : DataW.TrodAll enc Try.prog W 0 (fun _ => true) true Try.f8.params.toList args.toList ds p := hA0
  rw [Try.params8] at hA hval
  obtain ⟨v, w, d, d', p1, p2, rfl, rfl, rfl, h1, h2⟩ := trodAll_two hA
  obtain ⟨x, hx⟩ := rex_arg (hval 0 26 v rfl rfl) h1
  obtain ⟨y, hy⟩ := rex_arg (hval 1 26 w rfl rfl) h2
  refine (Ans.law (P := Try.prog) (W := W) (vs := [v, w]) Try.func8 (by kernel_rfl) (by kernel_rfl) (progAdds_ans x y) (reps_two hx hy)).mono fun e W' ⟨v, he, hk, M', R', hr⟩ => ?_
  cases hr
  exact ⟨_, he, law_post (P := Try.prog) Try.laidOut (by
      intro t ht
      rw [Try.params8] at ht
      simp only [List.mem_cons, List.not_mem_nil, or_false, or_self] at ht
      subst ht
      exact ⟨by kernel_rfl, of_decide_eq_true (by kernel_rfl)⟩) rfl rfl (tb := 4) (by kernel_rfl) hW' (fun ds h => by
    match ds, h with
    | [_, _], _ => exact ⟨rfl, rfl, rfl⟩) hk⟩

theorem progAdds_holds : Rows.ProgAddsSaid :=
  OpenClaim.holds_of_wide 8 Try.f8 rfl rfl rfl rfl rfl rfl rfl ⟨rfl, rfl, rfl, rfl, rfl⟩ rfl rfl rfl rfl rfl (by kernel_rfl) Try.func8 (by kernel_rfl)
    (of_decide_eq_true (by kernel_rfl)) (by unfold Func.isWrapper; first | (rw [if_pos (by decide +kernel)]; kernel_rfl) | (rw [if_neg (by decide +kernel)]; exact ⟨rfl, rfl⟩))
    (fun os started H enc _ => progAdds_lifted os started H enc)
end Go.Proofs.Ytoiageeecdgleaa
