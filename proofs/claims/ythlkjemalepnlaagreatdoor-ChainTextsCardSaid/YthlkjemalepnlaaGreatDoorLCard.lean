/- What the arguments of the links' statements come to, and what the package variables' readings give. No condition. -/
import Derived.Test.YthlkjemalepnlaaGreatDoorRows
import Derived.Test.YthlkjemalepnlaaGreatDoorCards
import Derived.Test.YthlkjemalepnlaaGreatDoorTie
import Derived.Test.YthlkjemalepnlaaGreatDoorTexts
import Derived.Test.YthlkjemalepnlaaGreatDoorLAns
import Derived.Test.YthlkjemalepnlaaGreatDoorAbGlo
import Derived.ProofKit
import Derived.LaidMore
import Derived.Stop.Joined
import Derived.SevenTiedAt
set_option linter.unusedSimpArgs false
set_option linter.unusedVariables false
namespace Go.Proofs.YthlkjemalepnlaaGreatDoor
open Go Go.Ab Go.ChangeShapes Go.WideShapes Go.ChangeAt Go.RowKit
set_option maxRecDepth 100000

theorem own_knob : ownKnob Tryz.prog.godebug = none := by kernel_rfl
theorem laid_out : laidOutB Tryz.prog = true := by kernel_rfl
theorem chainRuns_ans : Ans Tryz.prog 5 [] [glo0, glo1] (Bo true) [glo0, glo1] := m6_ok

def laidL : List (String × DataW Unit) := [("sordine/sha.keys", Rows.laid_sordine_sha_keys), ("sordine/sordineref1.k", Rows.laid_sordine_sordineref1_k)]
theorem gn0 : Tryz.prog.globalNamed "sordine/sordineref1.k" = some 0 := by kernel_rfl
theorem gn1 : Tryz.prog.globalNamed "sordine/sha.keys" = some 1 := by kernel_rfl
theorem gt0 : (Tryz.prog.globals[0]?).map (·.type) = some 69 := by kernel_rfl
theorem gt1 : (Tryz.prog.globals[1]?).map (·.type) = some 69 := by kernel_rfl

theorem door_met (os : Os) (args : Array Value) : laidMetH Tryz.prog laidL ((World.doorLaid Tryz.prog 19 os).forCall (fun _ _ => 0) ⟨#[], args, []⟩).memory :=
  laidMetH_of_parts3 (fuel := 8) (laidMet_of_run' 8 (by kernel_rfl) (by kernel_rfl)) (by kernel_rfl) (by kernel_rfl)

theorem of_laid {W : World} (h : laidMetH Tryz.prog laidL W) : ∀ o ∈ [glo0, glo1], Glo W o := by
  intro o ho
  rw [MakeChecks.laidMetH_plain _ _ _ (by kernel_rfl)] at h
  obtain ⟨ps, ⟨g0, t0, cs0, f0, p0, q0, hg0, ht0, hv0, hd0, ⟨g1, t1, cs1, f1, p1, q1, hg1, ht1, hv1, hd1, _, _⟩, _⟩, _, _⟩ := h
  obtain rfl := Option.some.inj (gn1.symm.trans hg0)
  obtain rfl := Option.some.inj (gt1.symm.trans ht0)
  obtain rfl := Option.some.inj (gn0.symm.trans hg1)
  obtain rfl := Option.some.inj (gt0.symm.trans ht1)
  have k0 : Glo W glo1 := glo_of_var gn1 hv0 (table_of_trod (vs := gv1) (P := Tryz.prog) (t := 69) (e := 49) (n := 64) (k := .u32) (by kernel_rfl) (by kernel_rfl) (by kernel_rfl) (by kernel_rfl) hd0)
  have k1 : Glo W glo0 := glo_of_var gn0 hv1 (table_of_trod (vs := gv0) (P := Tryz.prog) (t := 69) (e := 49) (n := 64) (k := .u32) (by kernel_rfl) (by kernel_rfl) (by kernel_rfl) (by kernel_rfl) hd1)
  simp only [List.mem_cons, List.not_mem_nil, or_false] at ho
  rcases ho with rfl | rfl
  · exact k1
  · exact k0

theorem rep_any {W : World} {x : AV} {v : Value} {R' : Ref → Value → Prop} (h : Rep noM noR W x v) : Rep noM R' W x v :=
  h.mono (fun b _ hm => ⟨hm, rfl⟩) fun r v h => by cases r <;> simp [RefOK] at h

theorem wf8 {n : Int} (h : (Lit.int .u8 n).wf = true) : 0 ≤ n ∧ n < 256 := by
  simp [Lit.wf, IntKind.min, IntKind.max, IntKind.bits, IntKind.signed] at h
  omega
theorem wf64 {n : Int} (h : (Lit.int .i64 n).wf = true) : -9223372036854775808 ≤ n ∧ n < 9223372036854775808 := by
  simp [Lit.wf, IntKind.min, IntKind.max, IntKind.bits, IntKind.signed] at h
  omega

theorem bytes_of : ∀ {n : Nat} {xs : List AV}, QStr (List.replicate n (QInt .u8)) xs → ∃ ps : List Int, ps.length = n ∧ okB ps ∧ xs = ps.map B
  | 0, xs, h => ⟨[], rfl, fun n hn => by simp at hn, h⟩
  | n + 1, xs, h => by
    rw [List.replicate_succ] at h
    obtain ⟨a, b, rfl, ⟨m, hm, rfl⟩, hb⟩ := h
    obtain ⟨ps, hl, ho, rfl⟩ := bytes_of hb
    refine ⟨m :: ps, by simp [hl], ?_, by simp⟩
    intro k hk
    rcases List.mem_cons.1 hk with rfl | hk
    · exact wf8 hm
    · exact ho k hk

theorem elems_of : ∀ {ys : List (List AV)}, (∀ y ∈ ys, QInt .u8 y) → ∃ ns : List Int, okB ns ∧ ys.map (wrapC false) = ns.map B
  | [], _ => ⟨[], fun n hn => by simp at hn, rfl⟩
  | y :: ys, h => by
    obtain ⟨m, hm, rfl⟩ := h y (by simp)
    obtain ⟨ns, ho, hn⟩ := elems_of (ys := ys) (fun z hz => h z (by simp [hz]))
    refine ⟨m :: ns, ?_, by simp [hn, wrapC]⟩
    intro k hk
    rcases List.mem_cons.1 hk with rfl | hk
    · exact wf8 hm
    · exact ho k hk

theorem int_arg {H : Type} {enc : TypeId × Value → H} {W : World} {base : Nat} {v : Value} {d : DataW H} {ps : List MemPlace} (hv : Value.okWide Tryz.prog W .any base 3 v)
    (h : DataW.Trod enc Tryz.prog W 0 (fun _ => true) true 3 v d ps) : ∃ n, (-9223372036854775808 ≤ n ∧ n < 9223372036854775808) ∧ Rep noM noR W (I n) v := by
  obtain ⟨n, rfl⟩ := okWide_int Tryz.underlying3 hv
  obtain ⟨x, hx, m, hm, e⟩ := Reads.arg (P := Tryz.prog) (t := 3) (fun f => Reads.int Tryz.underlying3 f) rfl h
  simp only [List.cons.injEq, and_true] at e
  subst e
  exact ⟨m, wf64 hm, hx⟩

theorem dig_arg {H : Type} {enc : TypeId × Value → H} {W : World} {base : Nat} {v : Value} {d : DataW H} {ps : List MemPlace} (hv : ∃ cs, v = .agg cs)
    (h : DataW.Trod enc Tryz.prog W 0 (fun _ => true) true 22 v d ps) : ∃ ps : List Int, ps.length = 32 ∧ okB ps ∧ Rep noM noR W (.agg (ps.map B)) v := by
  obtain ⟨cs, rfl⟩ := hv
  obtain ⟨xs, hx, hq⟩ := Reads.argS (P := Tryz.prog) (t := 22) (Q := QStr (List.replicate 32 (QInt .u8))) (fun f => by
    cases f with
    | zero => exact Reads.zero
    | succ f => exact Reads.array Tryz.underlying22 (by kernel_rfl) (Reads.int Tryz.underlying5 f)) h
  obtain ⟨ps, hl, ho, rfl⟩ := bytes_of hq
  exact ⟨ps, hl, ho, hx⟩

theorem sl_arg {H : Type} {enc : TypeId × Value → H} {W : World} {base : Nat} {v : Value} {d : DataW H} {ps : List MemPlace} (hv : Value.okWide Tryz.prog W .any base 23 v)
    (h : DataW.Trod enc Tryz.prog W 0 (fun _ => true) true 23 v d ps) : ∃ ns : List Int, okB ns ∧ Rep noM noR W (.sl 1 (ns.map B)) v := by
  obtain ⟨sa, len, cap, rfl⟩ := okWide_slice Tryz.underlying23 hv
  obtain ⟨x, hx, hq⟩ := Reads.arg (P := Tryz.prog) (t := 23) (Q := QSlice 1 false (QInt .u8)) (fun f => by
    cases f with
    | zero => exact Reads.zero
    | succ f => exact Reads.slice false Tryz.underlying23 (by kernel_rfl) (by decide) (Reads.int Tryz.underlying5 f) (fun y hy _ => by obtain ⟨n, _, rfl⟩ := hy; rfl)) rfl h
  rcases hq with hq | ⟨ys, hys, _, hq⟩
  · simp only [List.cons.injEq, and_true] at hq
    subst hq
    refine ⟨[], fun n hn => by simp at hn, ?_⟩
    have := hx.nils_inv
    rw [this]
    exact .sl0 _ _ _
  · obtain ⟨ns, ho, hn⟩ := elems_of hys
    simp only [List.cons.injEq, and_true] at hq
    subst hq
    rw [hn] at hx
    exact ⟨ns, ho, hx⟩

theorem okWide_dig {W : World} {base : Nat} {v : Value} (hv : Value.okWide Tryz.prog W .any base 22 v) : ∃ cs, v = .agg cs := by
  have hu := Tryz.underlying22
  simp only [Value.okWide, hu] at hv
  obtain ⟨cs, h1, _⟩ := hv
  exact ⟨cs, h1⟩

theorem tys_ok : ∀ t ∈ [3, 22, 23], Tryz.prog.readableRec t = true ∧ t < Tryz.prog.types.size := by
  intro t ht
  simp only [List.mem_cons, List.not_mem_nil, or_false] at ht
  rcases ht with rfl | rfl | rfl <;> exact ⟨by kernel_rfl, of_decide_eq_true (by kernel_rfl)⟩
end Go.Proofs.YthlkjemalepnlaaGreatDoor
