/- DeskRuns answers true where the package variables start as the text lays them: the code is run by the kernel. No condition. -/
import Derived.Test.YtgnoebkcephdmabGreatDoorRows
import Derived.Test.YtgnoebkcephdmabGreatDoorCards
import Derived.Test.YtgnoebkcephdmabGreatDoorTie
import Derived.Test.YtgnoebkcephdmabGreatDoorEAns
import Derived.Test.YtgnoebkcephdmabGreatDoorAbGlo
import Derived.Test.YtgnoebkcephdmabGreatDoorEGlo
import Derived.ProofKit
import Derived.LaidMore
import Derived.Stop.Joined
import Derived.SevenTiedAt
namespace Go.Proofs.YtgnoebkcephdmabGreatDoor
open Go Go.Ab Go.ChangeShapes Go.WideShapes Go.ChangeAt Go.RowKit

theorem own_knob : ownKnob Tryz.prog.godebug = none := by kernel_rfl
theorem laid_out : laidOutB Tryz.prog = true := by kernel_rfl
def laidL : List (String × DataW Unit) := [("sordine/sha.keys", Rows.laid_sordine_sha_keys)]
theorem gn0 : Tryz.prog.globalNamed "sordine/sha.keys" = some 0 := by kernel_rfl
theorem gt0 : (Tryz.prog.globals[0]?).map (·.type) = some 136 := by kernel_rfl

theorem door_met (os : Os) (args : Array Value) : laidMetH Tryz.prog laidL ((World.doorLaid Tryz.prog 14 os).forCall (fun _ _ => 0) ⟨#[], args, []⟩).memory :=
  laidMetH_of_parts3 (fuel := 8) (laidMet_of_run' 8 (by kernel_rfl) (by kernel_rfl)) (by kernel_rfl) (by kernel_rfl)

theorem of_laid {W : World} (h : laidMetH Tryz.prog laidL W) : ∀ o ∈ [glo0], Glo W o := by
  intro o ho
  rw [MakeChecks.laidMetH_plain _ _ _ (by kernel_rfl)] at h
  obtain ⟨ps, ⟨g0, t0, cs0, f0, p0, q0, hg0, ht0, hv0, hd0, _, _⟩, _, _⟩ := h
  obtain rfl := Option.some.inj (gn0.symm.trans hg0)
  obtain rfl := Option.some.inj (gt0.symm.trans ht0)
  have k0 : Glo W glo0 := glo_of_var gn0 hv0 (table_of_trod (vs := gv0) (P := Tryz.prog) (t := 136) (e := 114) (n := 64) (k := .u32) (by kernel_rfl) (by kernel_rfl) (by kernel_rfl) (by kernel_rfl) hd0)
  simp only [List.mem_cons, List.not_mem_nil, or_false] at ho
  rcases ho with rfl
  · exact k0

theorem deskRuns_lifted (os : Os) (started : os.Started) (H : Type) (enc : TypeId × Value → H) :
    ReturnsInHanded {} Tryz.checked os 3 .any (fun w args => (Rows.deskRunsSpec.pre enc Tryz.prog Tryz.f3 [] false w args ∧ laidMetH Tryz.prog laidL w) ∧ sizedMet enc Tryz.prog Tryz.f3 (OpenSpec.ofChange Rows.deskRunsSpec) false w args)
      (Rows.deskRunsSpec.post enc Tryz.prog Tryz.f3 false true false false) := by
  refine returnsInHanded_of_change_and (C := Tryz.checked) (X := fun w _ => laidMetH Tryz.prog laidL w) (fun _ _ _ hh h => h.of_heap hh) own_knob started (by kernel_rfl) Tryz.func3
    (ChangeSpec.witness_shaped (enc := enc) (C := Tryz.checked) (os := os) (X := fun w _ => laidMetH Tryz.prog laidL w) false (World.doorLaid Tryz.prog 14 os) #[] 8 rfl (World.shaped_of_RefB (by kernel_rfl) (by kernel_rfl)) (by kernel_rfl) (by kernel_rfl) (by kernel_rfl) (door_met os _)) ?_
  intro W base args ds gs before hval0 hW _ _ hL _
  have hW' := hW
  obtain ⟨p, q, hA0, hV, rfl, hfz, hnd⟩ := hW
  have hA : DataW.TrodAll enc Tryz.prog W 0 (fun _ => true) true Tryz.f3.params.toList args.toList ds p := hA0
  rw [Tryz.params3] at hA
  obtain ⟨ha, rfl, rfl⟩ := trodAll_nil hA
  have : args = #[] := by cases args; simpa using ha
  subst this
  refine (Ans.lawG (P := Tryz.prog) (W := W) (vs := []) Tryz.func3 (by kernel_rfl) (by kernel_rfl) m11_ok (of_laid hL) ⟨rfl, fun j h => by simp at h⟩).mono fun e W' ⟨v, he, hk, M', R', hr⟩ => ?_
  cases hr
  exact ⟨_, he, law_post (P := Tryz.prog) laid_out (by rw [Tryz.params3]; simp) rfl rfl (tb := 4) (by kernel_rfl) hW' (fun ds h => by
    match ds, h with
    | [], _ => exact ⟨rfl, rfl, rfl⟩) hk⟩

theorem deskRuns_holds : Rows.DeskRunsSaid :=
  OpenClaim.holds_of_wide 3 Tryz.f3 rfl rfl rfl rfl rfl rfl rfl ⟨rfl, rfl, rfl, rfl, rfl⟩ rfl rfl rfl rfl rfl (by kernel_rfl) Tryz.func3 (by kernel_rfl)
    (of_decide_eq_true (by kernel_rfl)) (by unfold Func.isWrapper; first | (rw [if_pos (by decide +kernel)]; kernel_rfl) | (rw [if_neg (by decide +kernel)]; exact ⟨rfl, rfl⟩))
    (fun os started H enc _ => deskRuns_lifted os started H enc)

theorem deskRuns_card_holds : Rows.DeskRunsCardSaid :=
  Claim7.holds_tied_plain_at .later [] [.data] true (true, "46d08645f0f88704b31449d91b284af52cec2e9a6ce9c39a5cc59376665aa62d") false
    deskRuns_holds (fun _ h => by cases h) (by kernel_rfl) (fun _ h => by cases h) deskRuns_row_tie rfl ⟨rfl, rfl⟩ (by kernel_rfl) rfl
    (fun f fn hf hfn => by
      obtain rfl : f = 3 := Option.some.inj ((show Tryz.prog.funcNamed "sordine/sordinelaw26.DeskRuns" = some 3 by kernel_rfl).symm.trans hf) |>.symm
      obtain rfl : fn = Tryz.f3 := (Option.some.inj (Tryz.func3.symm.trans hfn)).symm
      exact ⟨by kernel_rfl, fun j t ht => by
        rw [Tryz.params3] at ht
        simp at ht⟩)
    (by kernel_rfl)

end Go.Proofs.YtgnoebkcephdmabGreatDoor
