/- ChainRuns answers true where the package variables start as the text lays them: the code is run by the kernel. No condition. -/
import Derived.Test.YtgnoebkcephdmaaDoorRows
import Derived.Test.YtgnoebkcephdmaaDoorCards
import Derived.Test.YtgnoebkcephdmaaDoorTie
import Derived.Test.YtgnoebkcephdmaaDoorDCAns
import Derived.Test.YtgnoebkcephdmaaDoorAbGlo
import Derived.Test.YtgnoebkcephdmaaDoorDGv
import Derived.ProofKit
import Derived.LaidMore
import Derived.Stop.Joined
import Derived.SevenTiedAt
namespace Go.Proofs.YtgnoebkcephdmaaDoor
open Go Go.Ab Go.ChangeShapes Go.WideShapes Go.ChangeAt Go.RowKit

theorem own_knob : ownKnob Tryd.prog.godebug = none := by kernel_rfl
theorem laid_out : laidOutB Tryd.prog = true := by kernel_rfl
def laidL : List (String × DataW Unit) := [("sordine/sha.keys", Rows.laid_sordine_sha_keys), ("sordine/sordineref1.k", Rows.laid_sordine_sordineref1_k)]
theorem gn0 : Tryd.prog.globalNamed "sordine/sordineref1.k" = some 0 := by kernel_rfl
theorem gt0 : (Tryd.prog.globals[0]?).map (·.type) = some 80 := by kernel_rfl
theorem gn1 : Tryd.prog.globalNamed "sordine/sha.keys" = some 1 := by kernel_rfl
theorem gt1 : (Tryd.prog.globals[1]?).map (·.type) = some 80 := by kernel_rfl

theorem door_met (os : Os) (args : Array Value) : laidMetH Tryd.prog laidL ((World.doorLaid Tryd.prog 19 os).forCall (fun _ _ => 0) ⟨#[], args, []⟩).memory :=
  laidMetH_of_parts3 (fuel := 8) (laidMet_of_run' 8 (by kernel_rfl) (by kernel_rfl)) (by kernel_rfl) (by kernel_rfl)

theorem of_laid {W : World} (h : laidMetH Tryd.prog laidL W) : ∀ o ∈ [glo0, glo1], Glo W o := by
  intro o ho
  rw [MakeChecks.laidMetH_plain _ _ _ (by kernel_rfl)] at h
  obtain ⟨ps, ⟨g0, t0, cs0, f0, p0, q0, hg0, ht0, hv0, hd0, ⟨g1, t1, cs1, f1, p1, q1, hg1, ht1, hv1, hd1, _, _⟩, _⟩, _, _⟩ := h
  obtain rfl := Option.some.inj (gn1.symm.trans hg0)
  obtain rfl := Option.some.inj (gt1.symm.trans ht0)
  obtain rfl := Option.some.inj (gn0.symm.trans hg1)
  obtain rfl := Option.some.inj (gt0.symm.trans ht1)
  have k0 : Glo W glo1 := glo_of_var gn1 hv0 (table_of_trod (vs := gv1) (P := Tryd.prog) (t := 80) (e := 50) (n := 64) (k := .u32) (by kernel_rfl) (by kernel_rfl) (by kernel_rfl) (by kernel_rfl) hd0)
  have k1 : Glo W glo0 := glo_of_var gn0 hv1 (table_of_trod (vs := gv0) (P := Tryd.prog) (t := 80) (e := 50) (n := 64) (k := .u32) (by kernel_rfl) (by kernel_rfl) (by kernel_rfl) (by kernel_rfl) hd1)
  simp only [List.mem_cons, List.not_mem_nil, or_false] at ho
  rcases ho with rfl | rfl
  · exact k1
  · exact k0

theorem chainRuns_lifted (os : Os) (started : os.Started) (H : Type) (enc : TypeId × Value → H) :
    ReturnsInHanded {} Tryd.checked os 3 .any (fun w args => (Rows.chainRunsSpec.pre enc Tryd.prog Tryd.f3 [] false w args ∧ laidMetH Tryd.prog laidL w) ∧ sizedMet enc Tryd.prog Tryd.f3 (OpenSpec.ofChange Rows.chainRunsSpec) false w args)
      (Rows.chainRunsSpec.post enc Tryd.prog Tryd.f3 false true false false) := by
  refine returnsInHanded_of_change_and (C := Tryd.checked) (X := fun w _ => laidMetH Tryd.prog laidL w) (fun _ _ _ hh h => h.of_heap hh) own_knob started (by kernel_rfl) Tryd.func3
    (ChangeSpec.witness_shaped (enc := enc) (C := Tryd.checked) (os := os) (X := fun w _ => laidMetH Tryd.prog laidL w) false (World.doorLaid Tryd.prog 19 os) #[] 8 rfl (World.shaped_of_RefB (by kernel_rfl) (by kernel_rfl)) (by kernel_rfl) (by kernel_rfl) (by kernel_rfl) (door_met os _)) ?_
  intro W base args ds gs before hval0 hW _ _ hL _
  have hW' := hW
  obtain ⟨p, q, hA0, hV, rfl, hfz, hnd⟩ := hW
  have hA : DataW.TrodAll enc Tryd.prog W 0 (fun _ => true) true Tryd.f3.params.toList args.toList ds p := hA0
  rw [Tryd.params3] at hA
  obtain ⟨ha, rfl, rfl⟩ := trodAll_nil hA
  have : args = #[] := by cases args; simpa using ha
  subst this
  refine (Ans.lawG (P := Tryd.prog) (W := W) (vs := []) Tryd.func3 (by kernel_rfl) (by kernel_rfl) m7_ok (of_laid hL) ⟨rfl, fun j h => by simp at h⟩).mono fun e W' ⟨v, he, hk, M', R', hr⟩ => ?_
  cases hr
  exact ⟨_, he, law_post (P := Tryd.prog) laid_out (by rw [Tryd.params3]; simp) rfl rfl (tb := 4) (by kernel_rfl) hW' (fun ds h => by
    match ds, h with
    | [], _ => exact ⟨rfl, rfl, rfl⟩) hk⟩

theorem chainRuns_holds : Rows.ChainRunsSaid :=
  OpenClaim.holds_of_wide 3 Tryd.f3 rfl rfl rfl rfl rfl rfl rfl ⟨rfl, rfl, rfl, rfl, rfl⟩ rfl rfl rfl rfl rfl (by kernel_rfl) Tryd.func3 (by kernel_rfl)
    (of_decide_eq_true (by kernel_rfl)) (by unfold Func.isWrapper; first | (rw [if_pos (by decide +kernel)]; kernel_rfl) | (rw [if_neg (by decide +kernel)]; exact ⟨rfl, rfl⟩))
    (fun os started H enc _ => chainRuns_lifted os started H enc)

theorem chainRuns_card_holds : Rows.ChainRunsCardSaid :=
  Claim7.holds_tied_plain_at .later [] [.data, .data] true (true, "a7c3abb47d712c352c218252d18778e806caff5c63fa22eac723bac4f75189ea") false
    chainRuns_holds (fun _ h => by cases h) (by kernel_rfl) (fun _ h => by cases h) chainRuns_row_tie rfl ⟨rfl, rfl⟩ (by kernel_rfl) rfl
    (fun f fn hf hfn => by
      obtain rfl : f = 3 := Option.some.inj ((show Tryd.prog.funcNamed "sordine/sordinelaw23.ChainRuns" = some 3 by kernel_rfl).symm.trans hf) |>.symm
      obtain rfl : fn = Tryd.f3 := (Option.some.inj (Tryd.func3.symm.trans hfn)).symm
      exact ⟨by kernel_rfl, fun j t ht => by
        rw [Tryd.params3] at ht
        simp at ht⟩)
    (by kernel_rfl)

end Go.Proofs.YtgnoebkcephdmaaDoor
