/-
  NARROWER THAN 'FOR EVERY INPUT', by the rows' own cells (each row's printed sentence says how): ProgMakes: loops · ProgSizes: loops · ProgAdds: loops.
  DERIVED. THE GIVEN ROWS OF THIS SEAT. 6 by the template 'for every input the law returns true; each argument reads behind the call as it read before'; 0 by the template 'total and deterministic' (their statements: YtoiageeecdgleaaTotals.lean).
  GIVEN WITH THE SEED: the statements are not yours to turn. If you find one false, say at which input.
  Laid BY PROGRAM, IN A SANDBOX (cutbox-rows.mjs): the forced cells as the released guide's own fill.sh prints them over the translation 707d99000189c659… (all of the seat's roots in one cut). By AI agents, Wed Nov 11 2026. No macro, syntax, notation, axiom, sorry.
-/
import Derived.Test.YtoiageeecdgleaaChecked
import GoSem.Claim
import GoSem.ClaimJoined
import GoSem.ClaimMapViews
import Derived.JoinedTies
import Derived.KernelRfl
namespace Go.Proofs.Ytoiageeecdgleaa
/- THE CELL 'sum', in the pinned program and in every row, IS THE sha256 OF THE DUMP (.gsa) THAT YtoiageeecdgleaaProg.lean LOADS. Nothing in Lean hashes anything: it is a label: what it is worth is what the hold of that sum in a sandbox is worth. -/
noncomputable def Try.pinned : Pinned := { name := "ytoiageeecdgleaa", sum := "707d99000189c659ebd4158c514e3d985db02286d5bd05ff477389aee0b3cf51", checked := Try.checked }
namespace Rows
def none {H : Type} : Left H := { results := [], args := [] }

/-- 'sordinelaw6.ProgRuns': WHATEVER THE INPUT: true; the input reads as it did. -/
def progRunsSpec : ChangeSpec := { name := "progRuns", fn := fun _ => fun
  | [] => { results := [.lit (.bool true)], args := [] }
  | _ => none }
def progRunsRow : OpenClaim := { program := "ytoiageeecdgleaa", sum := "707d99000189c659ebd4158c514e3d985db02286d5bd05ff477389aee0b3cf51", func := "sordine/sordinelaw6.ProgRuns", spec := "progRuns", inPlace := ["internal/bytealg.IndexByteString"], unfollowed := true, recurses := true, apart := false }
def ProgRunsSaid : Prop := progRunsRow.holds Try.pinned (OpenSpec.ofChange progRunsSpec)

/-- ITS FALSE NEIGHBOUR: 'it returns false'. Refute it at one input. -/
def progRunsWrong : ChangeSpec := { name := "progRuns", fn := fun _ => fun
  | [] => { results := [.lit (.bool false)], args := [] }
  | _ => none }
def ProgRunsWrongFalsely : Prop := progRunsRow.holds Try.pinned (OpenSpec.ofChange progRunsWrong)

/-- 'sordinelaw6.ProgMakes': WHATEVER THE INPUT: true; the input reads as it did. -/
def progMakesSpec : ChangeSpec := { name := "progMakes", fn := fun _ => fun
  | [d] => { results := [.lit (.bool true)], args := [d] }
  | _ => none }
def progMakesRow : OpenClaim := { program := "ytoiageeecdgleaa", sum := "707d99000189c659ebd4158c514e3d985db02286d5bd05ff477389aee0b3cf51", func := "sordine/sordinelaw6.ProgMakes", spec := "progMakes", inPlace := ["internal/bytealg.IndexByteString"], unfollowed := true, recurses := true, loops := true, apart := false }
def ProgMakesSaid : Prop := progMakesRow.holds Try.pinned (OpenSpec.ofChange progMakesSpec)

/-- ITS FALSE NEIGHBOUR: 'it returns false'. Refute it at one input. -/
def progMakesWrong : ChangeSpec := { name := "progMakes", fn := fun _ => fun
  | [d] => { results := [.lit (.bool false)], args := [d] }
  | _ => none }
def ProgMakesWrongFalsely : Prop := progMakesRow.holds Try.pinned (OpenSpec.ofChange progMakesWrong)

/-- 'sordinelaw6.ProgReads': WHATEVER THE INPUT: true; the input reads as it did. -/
def progReadsSpec : ChangeSpec := { name := "progReads", fn := fun _ => fun
  | [d] => { results := [.lit (.bool true)], args := [d] }
  | _ => none }
def progReadsRow : OpenClaim := { program := "ytoiageeecdgleaa", sum := "707d99000189c659ebd4158c514e3d985db02286d5bd05ff477389aee0b3cf51", func := "sordine/sordinelaw6.ProgReads", spec := "progReads", inPlace := ["internal/bytealg.IndexByteString"], unfollowed := true, recurses := true, apart := false }
def ProgReadsSaid : Prop := progReadsRow.holds Try.pinned (OpenSpec.ofChange progReadsSpec)

/-- ITS FALSE NEIGHBOUR: 'it returns false'. Refute it at one input. -/
def progReadsWrong : ChangeSpec := { name := "progReads", fn := fun _ => fun
  | [d] => { results := [.lit (.bool false)], args := [d] }
  | _ => none }
def ProgReadsWrongFalsely : Prop := progReadsRow.holds Try.pinned (OpenSpec.ofChange progReadsWrong)

/-- 'sordinelaw6.ProgChecks': WHATEVER THE INPUT: true; the input reads as it did. -/
def progChecksSpec : ChangeSpec := { name := "progChecks", fn := fun _ => fun
  | [d] => { results := [.lit (.bool true)], args := [d] }
  | _ => none }
def progChecksRow : OpenClaim := { program := "ytoiageeecdgleaa", sum := "707d99000189c659ebd4158c514e3d985db02286d5bd05ff477389aee0b3cf51", func := "sordine/sordinelaw6.ProgChecks", spec := "progChecks", inPlace := ["internal/bytealg.IndexByteString"], unfollowed := true, recurses := true, apart := false }
def ProgChecksSaid : Prop := progChecksRow.holds Try.pinned (OpenSpec.ofChange progChecksSpec)

/-- ITS FALSE NEIGHBOUR: 'it returns false'. Refute it at one input. -/
def progChecksWrong : ChangeSpec := { name := "progChecks", fn := fun _ => fun
  | [d] => { results := [.lit (.bool false)], args := [d] }
  | _ => none }
def ProgChecksWrongFalsely : Prop := progChecksRow.holds Try.pinned (OpenSpec.ofChange progChecksWrong)

/-- 'sordinelaw6.ProgSizes': WHATEVER THE INPUT: true; the input reads as it did. -/
def progSizesSpec : ChangeSpec := { name := "progSizes", fn := fun _ => fun
  | [d] => { results := [.lit (.bool true)], args := [d] }
  | _ => none }
def progSizesRow : OpenClaim := { program := "ytoiageeecdgleaa", sum := "707d99000189c659ebd4158c514e3d985db02286d5bd05ff477389aee0b3cf51", func := "sordine/sordinelaw6.ProgSizes", spec := "progSizes", inPlace := ["internal/bytealg.IndexByteString"], unfollowed := true, recurses := true, loops := true, apart := false }
def ProgSizesSaid : Prop := progSizesRow.holds Try.pinned (OpenSpec.ofChange progSizesSpec)

/-- ITS FALSE NEIGHBOUR: 'it returns false'. Refute it at one input. -/
def progSizesWrong : ChangeSpec := { name := "progSizes", fn := fun _ => fun
  | [d] => { results := [.lit (.bool false)], args := [d] }
  | _ => none }
def ProgSizesWrongFalsely : Prop := progSizesRow.holds Try.pinned (OpenSpec.ofChange progSizesWrong)

/-- 'sordinelaw6.ProgAdds': WHATEVER THE INPUT: true; the input reads as it did. -/
def progAddsSpec : ChangeSpec := { name := "progAdds", fn := fun _ => fun
  | [d1, d2] => { results := [.lit (.bool true)], args := [d1, d2] }
  | _ => none }
def progAddsRow : OpenClaim := { program := "ytoiageeecdgleaa", sum := "707d99000189c659ebd4158c514e3d985db02286d5bd05ff477389aee0b3cf51", func := "sordine/sordinelaw6.ProgAdds", spec := "progAdds", inPlace := ["internal/bytealg.IndexByteString"], unfollowed := true, recurses := true, loops := true, apart := false }
def ProgAddsSaid : Prop := progAddsRow.holds Try.pinned (OpenSpec.ofChange progAddsSpec)

/-- ITS FALSE NEIGHBOUR: 'it returns false'. Refute it at one input. -/
def progAddsWrong : ChangeSpec := { name := "progAdds", fn := fun _ => fun
  | [d1, d2] => { results := [.lit (.bool false)], args := [d1, d2] }
  | _ => none }
def ProgAddsWrongFalsely : Prop := progAddsRow.holds Try.pinned (OpenSpec.ofChange progAddsWrong)

/- THE SECOND FORM. 'bulk': how many values and letters a reading holds, each counted each time it is reached (what is shared counts as often as it is met; a slice's spare places count too). A statement '..UptoSaid' is the law's where the arguments, and the package variables that the reading takes, are together of bulk at most 1048576: NARROWER than '..Said'. Prove '..Said' where nothing that the law and all that it calls make is longer than what came in: it says more and counts as full. Else prove '..UptoSaid'. A law counts once. -/
mutual
def uptoBulk {H : Type} : DataW H → Nat
  | .lit (.string bytes) => bytes.length + 1
  | .lit _ => 1
  | .nil => 1
  | .ptr d => uptoBulk d + 1
  | .slice elems spare => uptoBulkAll elems + uptoBulkAll spare + 1
  | .agg parts => uptoBulkAll parts + 1
  | .iface _ d => uptoBulk d + 1
  | .map entries => uptoBulkEntries entries + 1
  | .held _ => 1
def uptoBulkAll {H : Type} : List (DataW H) → Nat
  | [] => 0
  | d :: r => uptoBulk d + uptoBulkAll r
def uptoBulkEntries {H : Type} : List (Lit × DataW H) → Nat
  | [] => 0
  | x :: r => uptoBulkEntry x + uptoBulkEntries r
def uptoBulkEntry {H : Type} : Lit × DataW H → Nat
  | (.string bytes, d) => bytes.length + uptoBulk d + 1
  | (_, d) => uptoBulk d + 1
 end
def uptoSmall : (H : Type) → List (DataW H) → Bool := fun _ ds => decide (uptoBulkAll ds ≤ 1048576)
def OpenSpec.upto (s : _root_.Go.ChangeSpec) : _root_.Go.OpenSpec := { _root_.Go.OpenSpec.ofChange s with cond := some uptoSmall }

/-- 'sordinelaw6.ProgRuns', WHERE WHAT IT READS IS OF BULK AT MOST 1048576: true; the input reads as it did. -/
def progRunsUptoRow : OpenClaim := { program := "ytoiageeecdgleaa", sum := "707d99000189c659ebd4158c514e3d985db02286d5bd05ff477389aee0b3cf51", func := "sordine/sordinelaw6.ProgRuns", spec := "progRuns", inPlace := ["internal/bytealg.IndexByteString"], unfollowed := true, recurses := true, apart := false, narrowed := true }
def ProgRunsUptoSaid : Prop := progRunsUptoRow.holds Try.pinned (OpenSpec.upto progRunsSpec)

/-- 'sordinelaw6.ProgMakes', WHERE WHAT IT READS IS OF BULK AT MOST 1048576: true; the input reads as it did. -/
def progMakesUptoRow : OpenClaim := { program := "ytoiageeecdgleaa", sum := "707d99000189c659ebd4158c514e3d985db02286d5bd05ff477389aee0b3cf51", func := "sordine/sordinelaw6.ProgMakes", spec := "progMakes", inPlace := ["internal/bytealg.IndexByteString"], unfollowed := true, recurses := true, loops := true, apart := false, narrowed := true }
def ProgMakesUptoSaid : Prop := progMakesUptoRow.holds Try.pinned (OpenSpec.upto progMakesSpec)

/-- 'sordinelaw6.ProgReads', WHERE WHAT IT READS IS OF BULK AT MOST 1048576: true; the input reads as it did. -/
def progReadsUptoRow : OpenClaim := { program := "ytoiageeecdgleaa", sum := "707d99000189c659ebd4158c514e3d985db02286d5bd05ff477389aee0b3cf51", func := "sordine/sordinelaw6.ProgReads", spec := "progReads", inPlace := ["internal/bytealg.IndexByteString"], unfollowed := true, recurses := true, apart := false, narrowed := true }
def ProgReadsUptoSaid : Prop := progReadsUptoRow.holds Try.pinned (OpenSpec.upto progReadsSpec)

/-- 'sordinelaw6.ProgChecks', WHERE WHAT IT READS IS OF BULK AT MOST 1048576: true; the input reads as it did. -/
def progChecksUptoRow : OpenClaim := { program := "ytoiageeecdgleaa", sum := "707d99000189c659ebd4158c514e3d985db02286d5bd05ff477389aee0b3cf51", func := "sordine/sordinelaw6.ProgChecks", spec := "progChecks", inPlace := ["internal/bytealg.IndexByteString"], unfollowed := true, recurses := true, apart := false, narrowed := true }
def ProgChecksUptoSaid : Prop := progChecksUptoRow.holds Try.pinned (OpenSpec.upto progChecksSpec)

/-- 'sordinelaw6.ProgSizes', WHERE WHAT IT READS IS OF BULK AT MOST 1048576: true; the input reads as it did. -/
def progSizesUptoRow : OpenClaim := { program := "ytoiageeecdgleaa", sum := "707d99000189c659ebd4158c514e3d985db02286d5bd05ff477389aee0b3cf51", func := "sordine/sordinelaw6.ProgSizes", spec := "progSizes", inPlace := ["internal/bytealg.IndexByteString"], unfollowed := true, recurses := true, loops := true, apart := false, narrowed := true }
def ProgSizesUptoSaid : Prop := progSizesUptoRow.holds Try.pinned (OpenSpec.upto progSizesSpec)

/-- 'sordinelaw6.ProgAdds', WHERE WHAT IT READS IS OF BULK AT MOST 1048576: true; the input reads as it did. -/
def progAddsUptoRow : OpenClaim := { program := "ytoiageeecdgleaa", sum := "707d99000189c659ebd4158c514e3d985db02286d5bd05ff477389aee0b3cf51", func := "sordine/sordinelaw6.ProgAdds", spec := "progAdds", inPlace := ["internal/bytealg.IndexByteString"], unfollowed := true, recurses := true, loops := true, apart := false, narrowed := true }
def ProgAddsUptoSaid : Prop := progAddsUptoRow.holds Try.pinned (OpenSpec.upto progAddsSpec)

end Rows
end Go.Proofs.Ytoiageeecdgleaa
