/-
  No cell of these rows narrows 'for every input' (looked for: loops, veiled, ifaces, maps, wideKeys, modest, calm, conditions, laid).
  DERIVED. THE GIVEN ROWS OF THIS SEAT. 10 by the template 'for every input the law returns true; each argument reads behind the call as it read before'; 0 by the template 'total and deterministic' (their statements: YtoadgajhkhejiaaTotals.lean).
  GIVEN WITH THE SEED: the statements are not yours to turn. If you find one false, say at which input.
  Laid BY PROGRAM, IN A SANDBOX (cutbox-rows.mjs): the forced cells as the released guide's own fill.sh prints them over the translation a997c980f614541c… (all of the seat's roots in one cut). By AI agents, Wed Nov 11 2026. No macro, syntax, notation, axiom, sorry.
-/
import Derived.Test.YtoadgajhkhejiaaChecked
import GoSem.Claim
import GoSem.ClaimJoined
import GoSem.ClaimMapViews
import Derived.JoinedTies
import Derived.KernelRfl
namespace Go.Proofs.Ytoadgajhkhejiaa
/- THE CELL 'sum', in the pinned program and in every row, IS THE sha256 OF THE DUMP (.gsa) THAT YtoadgajhkhejiaaProg.lean LOADS. Nothing in Lean hashes anything: it is a label: what it is worth is what the hold of that sum in a sandbox is worth. -/
noncomputable def Try.pinned : Pinned := { name := "ytoadgajhkhejiaa", sum := "a997c980f614541c712f2fe2f679106ed623ea8bc8a56e258a8fe69008505ec1", checked := Try.checked }
namespace Rows
def none {H : Type} : Left H := { results := [], args := [] }

/-- 'sordinelaw8.MatchAbsent': WHATEVER THE INPUT: true; the input reads as it did. -/
def matchAbsentSpec : ChangeSpec := { name := "matchAbsent", fn := fun _ => fun
  | [d1, d2] => { results := [.lit (.bool true)], args := [d1, d2] }
  | _ => none }
def matchAbsentRow : OpenClaim := { program := "ytoadgajhkhejiaa", sum := "a997c980f614541c712f2fe2f679106ed623ea8bc8a56e258a8fe69008505ec1", func := "sordine/sordinelaw8.MatchAbsent", spec := "matchAbsent", inPlace := ["internal/bytealg.IndexByteString"], unfollowed := true, recurses := true, apart := false }
def MatchAbsentSaid : Prop := matchAbsentRow.holds Try.pinned (OpenSpec.ofChange matchAbsentSpec)

/-- ITS FALSE NEIGHBOUR: 'it returns false'. Refute it at one input. -/
def matchAbsentWrong : ChangeSpec := { name := "matchAbsent", fn := fun _ => fun
  | [d1, d2] => { results := [.lit (.bool false)], args := [d1, d2] }
  | _ => none }
def MatchAbsentWrongFalsely : Prop := matchAbsentRow.holds Try.pinned (OpenSpec.ofChange matchAbsentWrong)

/-- 'sordinelaw8.MatchAsk': WHATEVER THE INPUT: true; the input reads as it did. -/
def matchAskSpec : ChangeSpec := { name := "matchAsk", fn := fun _ => fun
  | [d1, d2] => { results := [.lit (.bool true)], args := [d1, d2] }
  | _ => none }
def matchAskRow : OpenClaim := { program := "ytoadgajhkhejiaa", sum := "a997c980f614541c712f2fe2f679106ed623ea8bc8a56e258a8fe69008505ec1", func := "sordine/sordinelaw8.MatchAsk", spec := "matchAsk", inPlace := ["internal/bytealg.IndexByteString"], unfollowed := true, recurses := true, apart := false }
def MatchAskSaid : Prop := matchAskRow.holds Try.pinned (OpenSpec.ofChange matchAskSpec)

/-- ITS FALSE NEIGHBOUR: 'it returns false'. Refute it at one input. -/
def matchAskWrong : ChangeSpec := { name := "matchAsk", fn := fun _ => fun
  | [d1, d2] => { results := [.lit (.bool false)], args := [d1, d2] }
  | _ => none }
def MatchAskWrongFalsely : Prop := matchAskRow.holds Try.pinned (OpenSpec.ofChange matchAskWrong)

/-- 'sordinelaw8.MatchNot': WHATEVER THE INPUT: true; the input reads as it did. -/
def matchNotSpec : ChangeSpec := { name := "matchNot", fn := fun _ => fun
  | [d1, d2] => { results := [.lit (.bool true)], args := [d1, d2] }
  | _ => none }
def matchNotRow : OpenClaim := { program := "ytoadgajhkhejiaa", sum := "a997c980f614541c712f2fe2f679106ed623ea8bc8a56e258a8fe69008505ec1", func := "sordine/sordinelaw8.MatchNot", spec := "matchNot", inPlace := ["internal/bytealg.IndexByteString"], unfollowed := true, recurses := true, apart := false }
def MatchNotSaid : Prop := matchNotRow.holds Try.pinned (OpenSpec.ofChange matchNotSpec)

/-- ITS FALSE NEIGHBOUR: 'it returns false'. Refute it at one input. -/
def matchNotWrong : ChangeSpec := { name := "matchNot", fn := fun _ => fun
  | [d1, d2] => { results := [.lit (.bool false)], args := [d1, d2] }
  | _ => none }
def MatchNotWrongFalsely : Prop := matchNotRow.holds Try.pinned (OpenSpec.ofChange matchNotWrong)

/-- 'sordinelaw8.MatchDrawn': WHATEVER THE INPUT: true; the input reads as it did. -/
def matchDrawnSpec : ChangeSpec := { name := "matchDrawn", fn := fun _ => fun
  | [d1, d2] => { results := [.lit (.bool true)], args := [d1, d2] }
  | _ => none }
def matchDrawnRow : OpenClaim := { program := "ytoadgajhkhejiaa", sum := "a997c980f614541c712f2fe2f679106ed623ea8bc8a56e258a8fe69008505ec1", func := "sordine/sordinelaw8.MatchDrawn", spec := "matchDrawn", inPlace := ["internal/bytealg.IndexByteString", "internal/bytealg.abigen_runtime_cmpstring"], unfollowed := true, recurses := true, apart := false }
def MatchDrawnSaid : Prop := matchDrawnRow.holds Try.pinned (OpenSpec.ofChange matchDrawnSpec)

/-- ITS FALSE NEIGHBOUR: 'it returns false'. Refute it at one input. -/
def matchDrawnWrong : ChangeSpec := { name := "matchDrawn", fn := fun _ => fun
  | [d1, d2] => { results := [.lit (.bool false)], args := [d1, d2] }
  | _ => none }
def MatchDrawnWrongFalsely : Prop := matchDrawnRow.holds Try.pinned (OpenSpec.ofChange matchDrawnWrong)

/-- 'sordinelaw8.MatchLists': WHATEVER THE INPUT: true; the input reads as it did. -/
def matchListsSpec : ChangeSpec := { name := "matchLists", fn := fun _ => fun
  | [d1, d2] => { results := [.lit (.bool true)], args := [d1, d2] }
  | _ => none }
def matchListsRow : OpenClaim := { program := "ytoadgajhkhejiaa", sum := "a997c980f614541c712f2fe2f679106ed623ea8bc8a56e258a8fe69008505ec1", func := "sordine/sordinelaw8.MatchLists", spec := "matchLists", inPlace := ["internal/bytealg.IndexByteString", "internal/bytealg.abigen_runtime_cmpstring"], unfollowed := true, recurses := true, apart := false }
def MatchListsSaid : Prop := matchListsRow.holds Try.pinned (OpenSpec.ofChange matchListsSpec)

/-- ITS FALSE NEIGHBOUR: 'it returns false'. Refute it at one input. -/
def matchListsWrong : ChangeSpec := { name := "matchLists", fn := fun _ => fun
  | [d1, d2] => { results := [.lit (.bool false)], args := [d1, d2] }
  | _ => none }
def MatchListsWrongFalsely : Prop := matchListsRow.holds Try.pinned (OpenSpec.ofChange matchListsWrong)

/-- 'sordinelaw16.RuleSelf': WHATEVER THE INPUT: true; the input reads as it did. -/
def ruleSelfSpec : ChangeSpec := { name := "ruleSelf", fn := fun _ => fun
  | [d1, d2, d3, d4, d5, d6] => { results := [.lit (.bool true)], args := [d1, d2, d3, d4, d5, d6] }
  | _ => none }
def ruleSelfRow : OpenClaim := { program := "ytoadgajhkhejiaa", sum := "a997c980f614541c712f2fe2f679106ed623ea8bc8a56e258a8fe69008505ec1", func := "sordine/sordinelaw16.RuleSelf", spec := "ruleSelf", inPlace := ["internal/bytealg.IndexByteString", "internal/bytealg.abigen_runtime_cmpstring", "math.Float64bits"], unfollowed := true, recurses := true, apart := false }
def RuleSelfSaid : Prop := ruleSelfRow.holds Try.pinned (OpenSpec.ofChange ruleSelfSpec)

/-- ITS FALSE NEIGHBOUR: 'it returns false'. Refute it at one input. -/
def ruleSelfWrong : ChangeSpec := { name := "ruleSelf", fn := fun _ => fun
  | [d1, d2, d3, d4, d5, d6] => { results := [.lit (.bool false)], args := [d1, d2, d3, d4, d5, d6] }
  | _ => none }
def RuleSelfWrongFalsely : Prop := ruleSelfRow.holds Try.pinned (OpenSpec.ofChange ruleSelfWrong)

/-- 'sordinelaw16.RuleEqual': WHATEVER THE INPUT: true; the input reads as it did. -/
def ruleEqualSpec : ChangeSpec := { name := "ruleEqual", fn := fun _ => fun
  | [d1, d2, d3, d4] => { results := [.lit (.bool true)], args := [d1, d2, d3, d4] }
  | _ => none }
def ruleEqualRow : OpenClaim := { program := "ytoadgajhkhejiaa", sum := "a997c980f614541c712f2fe2f679106ed623ea8bc8a56e258a8fe69008505ec1", func := "sordine/sordinelaw16.RuleEqual", spec := "ruleEqual", inPlace := ["internal/bytealg.IndexByteString", "internal/bytealg.abigen_runtime_cmpstring", "math.Float64bits"], unfollowed := true, recurses := true, apart := false }
def RuleEqualSaid : Prop := ruleEqualRow.holds Try.pinned (OpenSpec.ofChange ruleEqualSpec)

/-- ITS FALSE NEIGHBOUR: 'it returns false'. Refute it at one input. -/
def ruleEqualWrong : ChangeSpec := { name := "ruleEqual", fn := fun _ => fun
  | [d1, d2, d3, d4] => { results := [.lit (.bool false)], args := [d1, d2, d3, d4] }
  | _ => none }
def RuleEqualWrongFalsely : Prop := ruleEqualRow.holds Try.pinned (OpenSpec.ofChange ruleEqualWrong)

/-- 'sordinelaw16.RuleBands': WHATEVER THE INPUT: true; the input reads as it did. -/
def ruleBandsSpec : ChangeSpec := { name := "ruleBands", fn := fun _ => fun
  | [d1, d2, d3] => { results := [.lit (.bool true)], args := [d1, d2, d3] }
  | _ => none }
def ruleBandsRow : OpenClaim := { program := "ytoadgajhkhejiaa", sum := "a997c980f614541c712f2fe2f679106ed623ea8bc8a56e258a8fe69008505ec1", func := "sordine/sordinelaw16.RuleBands", spec := "ruleBands", inPlace := ["internal/bytealg.IndexByteString", "internal/bytealg.abigen_runtime_cmpstring", "math.Float64bits"], unfollowed := true, recurses := true, apart := false }
def RuleBandsSaid : Prop := ruleBandsRow.holds Try.pinned (OpenSpec.ofChange ruleBandsSpec)

/-- ITS FALSE NEIGHBOUR: 'it returns false'. Refute it at one input. -/
def ruleBandsWrong : ChangeSpec := { name := "ruleBands", fn := fun _ => fun
  | [d1, d2, d3] => { results := [.lit (.bool false)], args := [d1, d2, d3] }
  | _ => none }
def RuleBandsWrongFalsely : Prop := ruleBandsRow.holds Try.pinned (OpenSpec.ofChange ruleBandsWrong)

/-- 'sordinelaw8.MatchBytes': WHATEVER THE INPUT: true; the input reads as it did. -/
def matchBytesSpec : ChangeSpec := { name := "matchBytes", fn := fun _ => fun
  | [d1, d2] => { results := [.lit (.bool true)], args := [d1, d2] }
  | _ => none }
def matchBytesRow : OpenClaim := { program := "ytoadgajhkhejiaa", sum := "a997c980f614541c712f2fe2f679106ed623ea8bc8a56e258a8fe69008505ec1", func := "sordine/sordinelaw8.MatchBytes", spec := "matchBytes", inPlace := ["internal/bytealg.IndexByteString", "internal/bytealg.abigen_runtime_cmpstring"], unfollowed := true, recurses := true, apart := false }
def MatchBytesSaid : Prop := matchBytesRow.holds Try.pinned (OpenSpec.ofChange matchBytesSpec)

/-- ITS FALSE NEIGHBOUR: 'it returns false'. Refute it at one input. -/
def matchBytesWrong : ChangeSpec := { name := "matchBytes", fn := fun _ => fun
  | [d1, d2] => { results := [.lit (.bool false)], args := [d1, d2] }
  | _ => none }
def MatchBytesWrongFalsely : Prop := matchBytesRow.holds Try.pinned (OpenSpec.ofChange matchBytesWrong)

/-- 'sordinelaw8.MatchBack': WHATEVER THE INPUT: true; the input reads as it did. -/
def matchBackSpec : ChangeSpec := { name := "matchBack", fn := fun _ => fun
  | [d1, d2, d3] => { results := [.lit (.bool true)], args := [d1, d2, d3] }
  | _ => none }
def matchBackRow : OpenClaim := { program := "ytoadgajhkhejiaa", sum := "a997c980f614541c712f2fe2f679106ed623ea8bc8a56e258a8fe69008505ec1", func := "sordine/sordinelaw8.MatchBack", spec := "matchBack", inPlace := ["internal/bytealg.IndexByteString", "internal/bytealg.abigen_runtime_cmpstring"], unfollowed := true, recurses := true, apart := false }
def MatchBackSaid : Prop := matchBackRow.holds Try.pinned (OpenSpec.ofChange matchBackSpec)

/-- ITS FALSE NEIGHBOUR: 'it returns false'. Refute it at one input. -/
def matchBackWrong : ChangeSpec := { name := "matchBack", fn := fun _ => fun
  | [d1, d2, d3] => { results := [.lit (.bool false)], args := [d1, d2, d3] }
  | _ => none }
def MatchBackWrongFalsely : Prop := matchBackRow.holds Try.pinned (OpenSpec.ofChange matchBackWrong)

/- THE SECOND FORM. 'bulk': how many values and letters a reading holds, each counted each time it is reached (what is shared counts as often as it is met; a slice's spare places count too). A statement '..UptoSaid' is the law's where the arguments, and the package variables that the reading takes, are together of bulk at most 1048576: NARROWER than '..Said'. Prove '..Said' where nothing that the law and all that it calls make is longer than what came in: it says more and counts as full. Else prove '..UptoSaid'. A law counts once. -/
mutual
def uptoBulk {H : Type} : DataW H → Nat
  | .lit (.string bytes) => bytes.length + 1
  | .lit _ => 1
  | .nil => 1
  | .ptr d => uptoBulk d + 1
  | .slice elems spare => uptoBulkAll elems + uptoBulkAll spare + 1
  | .agg parts => uptoBulkAll parts + 1
  | .iface _ d => uptoBulk d + 1
  | .map entries => uptoBulkEntries entries + 1
  | .held _ => 1
def uptoBulkAll {H : Type} : List (DataW H) → Nat
  | [] => 0
  | d :: r => uptoBulk d + uptoBulkAll r
def uptoBulkEntries {H : Type} : List (Lit × DataW H) → Nat
  | [] => 0
  | x :: r => uptoBulkEntry x + uptoBulkEntries r
def uptoBulkEntry {H : Type} : Lit × DataW H → Nat
  | (.string bytes, d) => bytes.length + uptoBulk d + 1
  | (_, d) => uptoBulk d + 1
 end
def uptoSmall : (H : Type) → List (DataW H) → Bool := fun _ ds => decide (uptoBulkAll ds ≤ 1048576)
def OpenSpec.upto (s : _root_.Go.ChangeSpec) : _root_.Go.OpenSpec := { _root_.Go.OpenSpec.ofChange s with cond := some uptoSmall }

/-- 'sordinelaw8.MatchAbsent', WHERE WHAT IT READS IS OF BULK AT MOST 1048576: true; the input reads as it did. -/
def matchAbsentUptoRow : OpenClaim := { program := "ytoadgajhkhejiaa", sum := "a997c980f614541c712f2fe2f679106ed623ea8bc8a56e258a8fe69008505ec1", func := "sordine/sordinelaw8.MatchAbsent", spec := "matchAbsent", inPlace := ["internal/bytealg.IndexByteString"], unfollowed := true, recurses := true, apart := false, narrowed := true }
def MatchAbsentUptoSaid : Prop := matchAbsentUptoRow.holds Try.pinned (OpenSpec.upto matchAbsentSpec)

/-- 'sordinelaw8.MatchAsk', WHERE WHAT IT READS IS OF BULK AT MOST 1048576: true; the input reads as it did. -/
def matchAskUptoRow : OpenClaim := { program := "ytoadgajhkhejiaa", sum := "a997c980f614541c712f2fe2f679106ed623ea8bc8a56e258a8fe69008505ec1", func := "sordine/sordinelaw8.MatchAsk", spec := "matchAsk", inPlace := ["internal/bytealg.IndexByteString"], unfollowed := true, recurses := true, apart := false, narrowed := true }
def MatchAskUptoSaid : Prop := matchAskUptoRow.holds Try.pinned (OpenSpec.upto matchAskSpec)

/-- 'sordinelaw8.MatchNot', WHERE WHAT IT READS IS OF BULK AT MOST 1048576: true; the input reads as it did. -/
def matchNotUptoRow : OpenClaim := { program := "ytoadgajhkhejiaa", sum := "a997c980f614541c712f2fe2f679106ed623ea8bc8a56e258a8fe69008505ec1", func := "sordine/sordinelaw8.MatchNot", spec := "matchNot", inPlace := ["internal/bytealg.IndexByteString"], unfollowed := true, recurses := true, apart := false, narrowed := true }
def MatchNotUptoSaid : Prop := matchNotUptoRow.holds Try.pinned (OpenSpec.upto matchNotSpec)

/-- 'sordinelaw8.MatchDrawn', WHERE WHAT IT READS IS OF BULK AT MOST 1048576: true; the input reads as it did. -/
def matchDrawnUptoRow : OpenClaim := { program := "ytoadgajhkhejiaa", sum := "a997c980f614541c712f2fe2f679106ed623ea8bc8a56e258a8fe69008505ec1", func := "sordine/sordinelaw8.MatchDrawn", spec := "matchDrawn", inPlace := ["internal/bytealg.IndexByteString", "internal/bytealg.abigen_runtime_cmpstring"], unfollowed := true, recurses := true, apart := false, narrowed := true }
def MatchDrawnUptoSaid : Prop := matchDrawnUptoRow.holds Try.pinned (OpenSpec.upto matchDrawnSpec)

/-- 'sordinelaw8.MatchLists', WHERE WHAT IT READS IS OF BULK AT MOST 1048576: true; the input reads as it did. -/
def matchListsUptoRow : OpenClaim := { program := "ytoadgajhkhejiaa", sum := "a997c980f614541c712f2fe2f679106ed623ea8bc8a56e258a8fe69008505ec1", func := "sordine/sordinelaw8.MatchLists", spec := "matchLists", inPlace := ["internal/bytealg.IndexByteString", "internal/bytealg.abigen_runtime_cmpstring"], unfollowed := true, recurses := true, apart := false, narrowed := true }
def MatchListsUptoSaid : Prop := matchListsUptoRow.holds Try.pinned (OpenSpec.upto matchListsSpec)

/-- 'sordinelaw16.RuleSelf', WHERE WHAT IT READS IS OF BULK AT MOST 1048576: true; the input reads as it did. -/
def ruleSelfUptoRow : OpenClaim := { program := "ytoadgajhkhejiaa", sum := "a997c980f614541c712f2fe2f679106ed623ea8bc8a56e258a8fe69008505ec1", func := "sordine/sordinelaw16.RuleSelf", spec := "ruleSelf", inPlace := ["internal/bytealg.IndexByteString", "internal/bytealg.abigen_runtime_cmpstring", "math.Float64bits"], unfollowed := true, recurses := true, apart := false, narrowed := true }
def RuleSelfUptoSaid : Prop := ruleSelfUptoRow.holds Try.pinned (OpenSpec.upto ruleSelfSpec)

/-- 'sordinelaw16.RuleEqual', WHERE WHAT IT READS IS OF BULK AT MOST 1048576: true; the input reads as it did. -/
def ruleEqualUptoRow : OpenClaim := { program := "ytoadgajhkhejiaa", sum := "a997c980f614541c712f2fe2f679106ed623ea8bc8a56e258a8fe69008505ec1", func := "sordine/sordinelaw16.RuleEqual", spec := "ruleEqual", inPlace := ["internal/bytealg.IndexByteString", "internal/bytealg.abigen_runtime_cmpstring", "math.Float64bits"], unfollowed := true, recurses := true, apart := false, narrowed := true }
def RuleEqualUptoSaid : Prop := ruleEqualUptoRow.holds Try.pinned (OpenSpec.upto ruleEqualSpec)

/-- 'sordinelaw16.RuleBands', WHERE WHAT IT READS IS OF BULK AT MOST 1048576: true; the input reads as it did. -/
def ruleBandsUptoRow : OpenClaim := { program := "ytoadgajhkhejiaa", sum := "a997c980f614541c712f2fe2f679106ed623ea8bc8a56e258a8fe69008505ec1", func := "sordine/sordinelaw16.RuleBands", spec := "ruleBands", inPlace := ["internal/bytealg.IndexByteString", "internal/bytealg.abigen_runtime_cmpstring", "math.Float64bits"], unfollowed := true, recurses := true, apart := false, narrowed := true }
def RuleBandsUptoSaid : Prop := ruleBandsUptoRow.holds Try.pinned (OpenSpec.upto ruleBandsSpec)

/-- 'sordinelaw8.MatchBytes', WHERE WHAT IT READS IS OF BULK AT MOST 1048576: true; the input reads as it did. -/
def matchBytesUptoRow : OpenClaim := { program := "ytoadgajhkhejiaa", sum := "a997c980f614541c712f2fe2f679106ed623ea8bc8a56e258a8fe69008505ec1", func := "sordine/sordinelaw8.MatchBytes", spec := "matchBytes", inPlace := ["internal/bytealg.IndexByteString", "internal/bytealg.abigen_runtime_cmpstring"], unfollowed := true, recurses := true, apart := false, narrowed := true }
def MatchBytesUptoSaid : Prop := matchBytesUptoRow.holds Try.pinned (OpenSpec.upto matchBytesSpec)

/-- 'sordinelaw8.MatchBack', WHERE WHAT IT READS IS OF BULK AT MOST 1048576: true; the input reads as it did. -/
def matchBackUptoRow : OpenClaim := { program := "ytoadgajhkhejiaa", sum := "a997c980f614541c712f2fe2f679106ed623ea8bc8a56e258a8fe69008505ec1", func := "sordine/sordinelaw8.MatchBack", spec := "matchBack", inPlace := ["internal/bytealg.IndexByteString", "internal/bytealg.abigen_runtime_cmpstring"], unfollowed := true, recurses := true, apart := false, narrowed := true }
def MatchBackUptoSaid : Prop := matchBackUptoRow.holds Try.pinned (OpenSpec.upto matchBackSpec)

end Rows
end Go.Proofs.Ytoadgajhkhejiaa
