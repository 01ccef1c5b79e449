/-
  No cell of these rows narrows 'for every input' (looked for: loops, veiled, ifaces, maps, wideKeys, modest, calm, conditions, laid).
  DERIVED. THE GIVEN ROWS OF THIS SEAT. 12 by the template 'for every input the law returns true; each argument reads behind the call as it read before'; 0 by the template 'total and deterministic' (their statements: YtmkmhhjkdaklbaaGreatTotals.lean).
  GIVEN WITH THE SEED: the statements are not yours to turn. If you find one false, say at which input.
  Laid BY PROGRAM, IN A SANDBOX (cutbox-rows.mjs): the forced cells as the released guide's own fill.sh prints them over the translation 48a64dd17553d2a4… (all of the seat's roots in one cut). By AI agents, Wed Nov 11 2026. No macro, syntax, notation, axiom, sorry.
-/
import Derived.Test.YtmkmhhjkdaklbaaGreatChecked
import GoSem.Claim
import GoSem.ClaimJoined
import GoSem.ClaimMapViews
import Derived.JoinedTies
import Derived.KernelRfl
namespace Go.Proofs.YtmkmhhjkdaklbaaGreat
/- THE CELL 'sum', in the pinned program and in every row, IS THE sha256 OF THE DUMP (.gsa) THAT YtmkmhhjkdaklbaaGreatProg.lean LOADS. Nothing in Lean hashes anything: it is a label: what it is worth is what the hold of that sum in a sandbox is worth. -/
noncomputable def Tryz.pinned : Pinned := { name := "ytmkmhhjkdaklbaagreat", sum := "48a64dd17553d2a496606ff3b45513335d0e390321471f6d868b423e1b546b62", checked := Tryz.checked }
namespace Rows
def none {H : Type} : Left H := { results := [], args := [] }

/-- 'sordinelaw16.RuleBytes': WHATEVER THE INPUT: true; the input reads as it did. -/
def ruleBytesSpec : ChangeSpec := { name := "ruleBytes", fn := fun _ => fun
  | [d1, d2] => { results := [.lit (.bool true)], args := [d1, d2] }
  | _ => none }
def ruleBytesRow : OpenClaim := { program := "ytmkmhhjkdaklbaagreat", sum := "48a64dd17553d2a496606ff3b45513335d0e390321471f6d868b423e1b546b62", func := "sordine/sordinelaw16.RuleBytes", spec := "ruleBytes", inPlace := ["internal/bytealg.IndexByteString", "internal/bytealg.abigen_runtime_cmpstring", "math.Float64bits", "math.Float64frombits"], unfollowed := true, recurses := true, apart := false }
def RuleBytesSaid : Prop := ruleBytesRow.holds Tryz.pinned (OpenSpec.ofChange ruleBytesSpec)

/-- ITS FALSE NEIGHBOUR: 'it returns false'. Refute it at one input. -/
def ruleBytesWrong : ChangeSpec := { name := "ruleBytes", fn := fun _ => fun
  | [d1, d2] => { results := [.lit (.bool false)], args := [d1, d2] }
  | _ => none }
def RuleBytesWrongFalsely : Prop := ruleBytesRow.holds Tryz.pinned (OpenSpec.ofChange ruleBytesWrong)

/-- 'sordinelaw16.RuleBack': WHATEVER THE INPUT: true; the input reads as it did. -/
def ruleBackSpec : ChangeSpec := { name := "ruleBack", fn := fun _ => fun
  | [d1, d2, d3, d4] => { results := [.lit (.bool true)], args := [d1, d2, d3, d4] }
  | _ => none }
def ruleBackRow : OpenClaim := { program := "ytmkmhhjkdaklbaagreat", sum := "48a64dd17553d2a496606ff3b45513335d0e390321471f6d868b423e1b546b62", func := "sordine/sordinelaw16.RuleBack", spec := "ruleBack", inPlace := ["internal/bytealg.IndexByteString", "internal/bytealg.abigen_runtime_cmpstring", "math.Float64bits", "math.Float64frombits"], unfollowed := true, recurses := true, apart := false }
def RuleBackSaid : Prop := ruleBackRow.holds Tryz.pinned (OpenSpec.ofChange ruleBackSpec)

/-- ITS FALSE NEIGHBOUR: 'it returns false'. Refute it at one input. -/
def ruleBackWrong : ChangeSpec := { name := "ruleBack", fn := fun _ => fun
  | [d1, d2, d3, d4] => { results := [.lit (.bool false)], args := [d1, d2, d3, d4] }
  | _ => none }
def RuleBackWrongFalsely : Prop := ruleBackRow.holds Tryz.pinned (OpenSpec.ofChange ruleBackWrong)

/-- 'sordinelaw22.RecordAsk': WHATEVER THE INPUT: true; the input reads as it did. -/
def recordAskSpec : ChangeSpec := { name := "recordAsk", fn := fun _ => fun
  | [d] => { results := [.lit (.bool true)], args := [d] }
  | _ => none }
def recordAskRow : OpenClaim := { program := "ytmkmhhjkdaklbaagreat", sum := "48a64dd17553d2a496606ff3b45513335d0e390321471f6d868b423e1b546b62", func := "sordine/sordinelaw22.RecordAsk", spec := "recordAsk", inPlace := ["internal/bytealg.IndexByteString", "internal/bytealg.abigen_runtime_cmpstring", "math.Float64frombits", "math.Float64bits"], unfollowed := true, recurses := true, apart := false }
def RecordAskSaid : Prop := recordAskRow.holds Tryz.pinned (OpenSpec.ofChange recordAskSpec)

/-- ITS FALSE NEIGHBOUR: 'it returns false'. Refute it at one input. -/
def recordAskWrong : ChangeSpec := { name := "recordAsk", fn := fun _ => fun
  | [d] => { results := [.lit (.bool false)], args := [d] }
  | _ => none }
def RecordAskWrongFalsely : Prop := recordAskRow.holds Tryz.pinned (OpenSpec.ofChange recordAskWrong)

/-- 'sordinelaw22.RecordReads': WHATEVER THE INPUT: true; the input reads as it did. -/
def recordReadsSpec : ChangeSpec := { name := "recordReads", fn := fun _ => fun
  | [d] => { results := [.lit (.bool true)], args := [d] }
  | _ => none }
def recordReadsRow : OpenClaim := { program := "ytmkmhhjkdaklbaagreat", sum := "48a64dd17553d2a496606ff3b45513335d0e390321471f6d868b423e1b546b62", func := "sordine/sordinelaw22.RecordReads", spec := "recordReads", inPlace := ["internal/bytealg.IndexByteString", "internal/bytealg.abigen_runtime_cmpstring", "math.Float64frombits", "math.Float64bits"], unfollowed := true, recurses := true, apart := false }
def RecordReadsSaid : Prop := recordReadsRow.holds Tryz.pinned (OpenSpec.ofChange recordReadsSpec)

/-- ITS FALSE NEIGHBOUR: 'it returns false'. Refute it at one input. -/
def recordReadsWrong : ChangeSpec := { name := "recordReads", fn := fun _ => fun
  | [d] => { results := [.lit (.bool false)], args := [d] }
  | _ => none }
def RecordReadsWrongFalsely : Prop := recordReadsRow.holds Tryz.pinned (OpenSpec.ofChange recordReadsWrong)

/-- 'sordinelaw22.RecordDrawn': WHATEVER THE INPUT: true; the input reads as it did. -/
def recordDrawnSpec : ChangeSpec := { name := "recordDrawn", fn := fun _ => fun
  | [d1, d2, d3, d4] => { results := [.lit (.bool true)], args := [d1, d2, d3, d4] }
  | _ => none }
def recordDrawnRow : OpenClaim := { program := "ytmkmhhjkdaklbaagreat", sum := "48a64dd17553d2a496606ff3b45513335d0e390321471f6d868b423e1b546b62", func := "sordine/sordinelaw22.RecordDrawn", spec := "recordDrawn", inPlace := ["math.Float64bits", "internal/bytealg.IndexByteString", "internal/bytealg.abigen_runtime_cmpstring", "math.Float64frombits"], unfollowed := true, recurses := true, apart := false }
def RecordDrawnSaid : Prop := recordDrawnRow.holds Tryz.pinned (OpenSpec.ofChange recordDrawnSpec)

/-- ITS FALSE NEIGHBOUR: 'it returns false'. Refute it at one input. -/
def recordDrawnWrong : ChangeSpec := { name := "recordDrawn", fn := fun _ => fun
  | [d1, d2, d3, d4] => { results := [.lit (.bool false)], args := [d1, d2, d3, d4] }
  | _ => none }
def RecordDrawnWrongFalsely : Prop := recordDrawnRow.holds Tryz.pinned (OpenSpec.ofChange recordDrawnWrong)

/-- 'sordinelaw22.RecordBack': WHATEVER THE INPUT: true; the input reads as it did. -/
def recordBackSpec : ChangeSpec := { name := "recordBack", fn := fun _ => fun
  | [d1, d2, d3, d4, d5, d6, d7] => { results := [.lit (.bool true)], args := [d1, d2, d3, d4, d5, d6, d7] }
  | _ => none }
def recordBackRow : OpenClaim := { program := "ytmkmhhjkdaklbaagreat", sum := "48a64dd17553d2a496606ff3b45513335d0e390321471f6d868b423e1b546b62", func := "sordine/sordinelaw22.RecordBack", spec := "recordBack", inPlace := ["internal/bytealg.IndexByteString", "internal/bytealg.abigen_runtime_cmpstring", "math.Float64frombits", "math.Float64bits"], unfollowed := true, recurses := true, apart := false }
def RecordBackSaid : Prop := recordBackRow.holds Tryz.pinned (OpenSpec.ofChange recordBackSpec)

/-- ITS FALSE NEIGHBOUR: 'it returns false'. Refute it at one input. -/
def recordBackWrong : ChangeSpec := { name := "recordBack", fn := fun _ => fun
  | [d1, d2, d3, d4, d5, d6, d7] => { results := [.lit (.bool false)], args := [d1, d2, d3, d4, d5, d6, d7] }
  | _ => none }
def RecordBackWrongFalsely : Prop := recordBackRow.holds Tryz.pinned (OpenSpec.ofChange recordBackWrong)

/-- 'sordinelaw22.RecordApart': WHATEVER THE INPUT: true; the input reads as it did. -/
def recordApartSpec : ChangeSpec := { name := "recordApart", fn := fun _ => fun
  | [d1, d2, d3, d4, d5, d6, d7, d8] => { results := [.lit (.bool true)], args := [d1, d2, d3, d4, d5, d6, d7, d8] }
  | _ => none }
def recordApartRow : OpenClaim := { program := "ytmkmhhjkdaklbaagreat", sum := "48a64dd17553d2a496606ff3b45513335d0e390321471f6d868b423e1b546b62", func := "sordine/sordinelaw22.RecordApart", spec := "recordApart", inPlace := ["math.Float64bits", "internal/bytealg.IndexByteString", "internal/bytealg.abigen_runtime_cmpstring", "math.Float64frombits"], unfollowed := true, recurses := true, apart := false }
def RecordApartSaid : Prop := recordApartRow.holds Tryz.pinned (OpenSpec.ofChange recordApartSpec)

/-- ITS FALSE NEIGHBOUR: 'it returns false'. Refute it at one input. -/
def recordApartWrong : ChangeSpec := { name := "recordApart", fn := fun _ => fun
  | [d1, d2, d3, d4, d5, d6, d7, d8] => { results := [.lit (.bool false)], args := [d1, d2, d3, d4, d5, d6, d7, d8] }
  | _ => none }
def RecordApartWrongFalsely : Prop := recordApartRow.holds Tryz.pinned (OpenSpec.ofChange recordApartWrong)

/-- 'sordinelaw20.ReqAsk': WHATEVER THE INPUT: true; the input reads as it did. -/
def reqAskSpec : ChangeSpec := { name := "reqAsk", fn := fun _ => fun
  | [d] => { results := [.lit (.bool true)], args := [d] }
  | _ => none }
def reqAskRow : OpenClaim := { program := "ytmkmhhjkdaklbaagreat", sum := "48a64dd17553d2a496606ff3b45513335d0e390321471f6d868b423e1b546b62", func := "sordine/sordinelaw20.ReqAsk", spec := "reqAsk", inPlace := ["internal/bytealg.IndexByteString", "internal/bytealg.abigen_runtime_cmpstring", "math.Float64frombits", "math.Float64bits"], unfollowed := true, recurses := true, apart := false }
def ReqAskSaid : Prop := reqAskRow.holds Tryz.pinned (OpenSpec.ofChange reqAskSpec)

/-- ITS FALSE NEIGHBOUR: 'it returns false'. Refute it at one input. -/
def reqAskWrong : ChangeSpec := { name := "reqAsk", fn := fun _ => fun
  | [d] => { results := [.lit (.bool false)], args := [d] }
  | _ => none }
def ReqAskWrongFalsely : Prop := reqAskRow.holds Tryz.pinned (OpenSpec.ofChange reqAskWrong)

/-- 'sordinelaw20.ReqApart': WHATEVER THE INPUT: true; the input reads as it did. -/
def reqApartSpec : ChangeSpec := { name := "reqApart", fn := fun _ => fun
  | [d1, d2] => { results := [.lit (.bool true)], args := [d1, d2] }
  | _ => none }
def reqApartRow : OpenClaim := { program := "ytmkmhhjkdaklbaagreat", sum := "48a64dd17553d2a496606ff3b45513335d0e390321471f6d868b423e1b546b62", func := "sordine/sordinelaw20.ReqApart", spec := "reqApart", inPlace := ["math.Float64bits", "internal/bytealg.IndexByteString", "internal/bytealg.abigen_runtime_cmpstring", "math.Float64frombits"], unfollowed := true, recurses := true, apart := false }
def ReqApartSaid : Prop := reqApartRow.holds Tryz.pinned (OpenSpec.ofChange reqApartSpec)

/-- ITS FALSE NEIGHBOUR: 'it returns false'. Refute it at one input. -/
def reqApartWrong : ChangeSpec := { name := "reqApart", fn := fun _ => fun
  | [d1, d2] => { results := [.lit (.bool false)], args := [d1, d2] }
  | _ => none }
def ReqApartWrongFalsely : Prop := reqApartRow.holds Tryz.pinned (OpenSpec.ofChange reqApartWrong)

/-- 'sordinelaw20.ReqSpoilt': WHATEVER THE INPUT: true; the input reads as it did. -/
def reqSpoiltSpec : ChangeSpec := { name := "reqSpoilt", fn := fun _ => fun
  | [d1, d2, d3] => { results := [.lit (.bool true)], args := [d1, d2, d3] }
  | _ => none }
def reqSpoiltRow : OpenClaim := { program := "ytmkmhhjkdaklbaagreat", sum := "48a64dd17553d2a496606ff3b45513335d0e390321471f6d868b423e1b546b62", func := "sordine/sordinelaw20.ReqSpoilt", spec := "reqSpoilt", inPlace := ["math.Float64bits", "internal/bytealg.IndexByteString", "internal/bytealg.abigen_runtime_cmpstring", "math.Float64frombits"], unfollowed := true, recurses := true, apart := false }
def ReqSpoiltSaid : Prop := reqSpoiltRow.holds Tryz.pinned (OpenSpec.ofChange reqSpoiltSpec)

/-- ITS FALSE NEIGHBOUR: 'it returns false'. Refute it at one input. -/
def reqSpoiltWrong : ChangeSpec := { name := "reqSpoilt", fn := fun _ => fun
  | [d1, d2, d3] => { results := [.lit (.bool false)], args := [d1, d2, d3] }
  | _ => none }
def ReqSpoiltWrongFalsely : Prop := reqSpoiltRow.holds Tryz.pinned (OpenSpec.ofChange reqSpoiltWrong)

/-- 'sordinelaw20.ReqReads': WHATEVER THE INPUT: true; the input reads as it did. -/
def reqReadsSpec : ChangeSpec := { name := "reqReads", fn := fun _ => fun
  | [d] => { results := [.lit (.bool true)], args := [d] }
  | _ => none }
def reqReadsRow : OpenClaim := { program := "ytmkmhhjkdaklbaagreat", sum := "48a64dd17553d2a496606ff3b45513335d0e390321471f6d868b423e1b546b62", func := "sordine/sordinelaw20.ReqReads", spec := "reqReads", inPlace := ["internal/bytealg.IndexByteString", "internal/bytealg.abigen_runtime_cmpstring", "math.Float64frombits", "math.Float64bits"], unfollowed := true, recurses := true, apart := false }
def ReqReadsSaid : Prop := reqReadsRow.holds Tryz.pinned (OpenSpec.ofChange reqReadsSpec)

/-- ITS FALSE NEIGHBOUR: 'it returns false'. Refute it at one input. -/
def reqReadsWrong : ChangeSpec := { name := "reqReads", fn := fun _ => fun
  | [d] => { results := [.lit (.bool false)], args := [d] }
  | _ => none }
def ReqReadsWrongFalsely : Prop := reqReadsRow.holds Tryz.pinned (OpenSpec.ofChange reqReadsWrong)

/-- 'sordinelaw20.ReqBack': WHATEVER THE INPUT: true; the input reads as it did. -/
def reqBackSpec : ChangeSpec := { name := "reqBack", fn := fun _ => fun
  | [d1, d2, d3] => { results := [.lit (.bool true)], args := [d1, d2, d3] }
  | _ => none }
def reqBackRow : OpenClaim := { program := "ytmkmhhjkdaklbaagreat", sum := "48a64dd17553d2a496606ff3b45513335d0e390321471f6d868b423e1b546b62", func := "sordine/sordinelaw20.ReqBack", spec := "reqBack", inPlace := ["internal/bytealg.IndexByteString", "internal/bytealg.abigen_runtime_cmpstring", "math.Float64frombits", "math.Float64bits"], unfollowed := true, recurses := true, apart := false }
def ReqBackSaid : Prop := reqBackRow.holds Tryz.pinned (OpenSpec.ofChange reqBackSpec)

/-- ITS FALSE NEIGHBOUR: 'it returns false'. Refute it at one input. -/
def reqBackWrong : ChangeSpec := { name := "reqBack", fn := fun _ => fun
  | [d1, d2, d3] => { results := [.lit (.bool false)], args := [d1, d2, d3] }
  | _ => none }
def ReqBackWrongFalsely : Prop := reqBackRow.holds Tryz.pinned (OpenSpec.ofChange reqBackWrong)

/- THE SECOND FORM. 'bulk': how many values and letters a reading holds, each counted each time it is reached (what is shared counts as often as it is met; a slice's spare places count too). A statement '..UptoSaid' is the law's where the arguments, and the package variables that the reading takes, are together of bulk at most 1048576: NARROWER than '..Said'. Prove '..Said' where nothing that the law and all that it calls make is longer than what came in: it says more and counts as full. Else prove '..UptoSaid'. A law counts once. -/
mutual
def uptoBulk {H : Type} : DataW H → Nat
  | .lit (.string bytes) => bytes.length + 1
  | .lit _ => 1
  | .nil => 1
  | .ptr d => uptoBulk d + 1
  | .slice elems spare => uptoBulkAll elems + uptoBulkAll spare + 1
  | .agg parts => uptoBulkAll parts + 1
  | .iface _ d => uptoBulk d + 1
  | .map entries => uptoBulkEntries entries + 1
  | .held _ => 1
def uptoBulkAll {H : Type} : List (DataW H) → Nat
  | [] => 0
  | d :: r => uptoBulk d + uptoBulkAll r
def uptoBulkEntries {H : Type} : List (Lit × DataW H) → Nat
  | [] => 0
  | x :: r => uptoBulkEntry x + uptoBulkEntries r
def uptoBulkEntry {H : Type} : Lit × DataW H → Nat
  | (.string bytes, d) => bytes.length + uptoBulk d + 1
  | (_, d) => uptoBulk d + 1
 end
def uptoSmall : (H : Type) → List (DataW H) → Bool := fun _ ds => decide (uptoBulkAll ds ≤ 1048576)
def OpenSpec.upto (s : _root_.Go.ChangeSpec) : _root_.Go.OpenSpec := { _root_.Go.OpenSpec.ofChange s with cond := some uptoSmall }

/-- 'sordinelaw16.RuleBytes', WHERE WHAT IT READS IS OF BULK AT MOST 1048576: true; the input reads as it did. -/
def ruleBytesUptoRow : OpenClaim := { program := "ytmkmhhjkdaklbaagreat", sum := "48a64dd17553d2a496606ff3b45513335d0e390321471f6d868b423e1b546b62", func := "sordine/sordinelaw16.RuleBytes", spec := "ruleBytes", inPlace := ["internal/bytealg.IndexByteString", "internal/bytealg.abigen_runtime_cmpstring", "math.Float64bits", "math.Float64frombits"], unfollowed := true, recurses := true, apart := false, narrowed := true }
def RuleBytesUptoSaid : Prop := ruleBytesUptoRow.holds Tryz.pinned (OpenSpec.upto ruleBytesSpec)

/-- 'sordinelaw16.RuleBack', WHERE WHAT IT READS IS OF BULK AT MOST 1048576: true; the input reads as it did. -/
def ruleBackUptoRow : OpenClaim := { program := "ytmkmhhjkdaklbaagreat", sum := "48a64dd17553d2a496606ff3b45513335d0e390321471f6d868b423e1b546b62", func := "sordine/sordinelaw16.RuleBack", spec := "ruleBack", inPlace := ["internal/bytealg.IndexByteString", "internal/bytealg.abigen_runtime_cmpstring", "math.Float64bits", "math.Float64frombits"], unfollowed := true, recurses := true, apart := false, narrowed := true }
def RuleBackUptoSaid : Prop := ruleBackUptoRow.holds Tryz.pinned (OpenSpec.upto ruleBackSpec)

/-- 'sordinelaw22.RecordAsk', WHERE WHAT IT READS IS OF BULK AT MOST 1048576: true; the input reads as it did. -/
def recordAskUptoRow : OpenClaim := { program := "ytmkmhhjkdaklbaagreat", sum := "48a64dd17553d2a496606ff3b45513335d0e390321471f6d868b423e1b546b62", func := "sordine/sordinelaw22.RecordAsk", spec := "recordAsk", inPlace := ["internal/bytealg.IndexByteString", "internal/bytealg.abigen_runtime_cmpstring", "math.Float64frombits", "math.Float64bits"], unfollowed := true, recurses := true, apart := false, narrowed := true }
def RecordAskUptoSaid : Prop := recordAskUptoRow.holds Tryz.pinned (OpenSpec.upto recordAskSpec)

/-- 'sordinelaw22.RecordReads', WHERE WHAT IT READS IS OF BULK AT MOST 1048576: true; the input reads as it did. -/
def recordReadsUptoRow : OpenClaim := { program := "ytmkmhhjkdaklbaagreat", sum := "48a64dd17553d2a496606ff3b45513335d0e390321471f6d868b423e1b546b62", func := "sordine/sordinelaw22.RecordReads", spec := "recordReads", inPlace := ["internal/bytealg.IndexByteString", "internal/bytealg.abigen_runtime_cmpstring", "math.Float64frombits", "math.Float64bits"], unfollowed := true, recurses := true, apart := false, narrowed := true }
def RecordReadsUptoSaid : Prop := recordReadsUptoRow.holds Tryz.pinned (OpenSpec.upto recordReadsSpec)

/-- 'sordinelaw22.RecordDrawn', WHERE WHAT IT READS IS OF BULK AT MOST 1048576: true; the input reads as it did. -/
def recordDrawnUptoRow : OpenClaim := { program := "ytmkmhhjkdaklbaagreat", sum := "48a64dd17553d2a496606ff3b45513335d0e390321471f6d868b423e1b546b62", func := "sordine/sordinelaw22.RecordDrawn", spec := "recordDrawn", inPlace := ["math.Float64bits", "internal/bytealg.IndexByteString", "internal/bytealg.abigen_runtime_cmpstring", "math.Float64frombits"], unfollowed := true, recurses := true, apart := false, narrowed := true }
def RecordDrawnUptoSaid : Prop := recordDrawnUptoRow.holds Tryz.pinned (OpenSpec.upto recordDrawnSpec)

/-- 'sordinelaw22.RecordBack', WHERE WHAT IT READS IS OF BULK AT MOST 1048576: true; the input reads as it did. -/
def recordBackUptoRow : OpenClaim := { program := "ytmkmhhjkdaklbaagreat", sum := "48a64dd17553d2a496606ff3b45513335d0e390321471f6d868b423e1b546b62", func := "sordine/sordinelaw22.RecordBack", spec := "recordBack", inPlace := ["internal/bytealg.IndexByteString", "internal/bytealg.abigen_runtime_cmpstring", "math.Float64frombits", "math.Float64bits"], unfollowed := true, recurses := true, apart := false, narrowed := true }
def RecordBackUptoSaid : Prop := recordBackUptoRow.holds Tryz.pinned (OpenSpec.upto recordBackSpec)

/-- 'sordinelaw22.RecordApart', WHERE WHAT IT READS IS OF BULK AT MOST 1048576: true; the input reads as it did. -/
def recordApartUptoRow : OpenClaim := { program := "ytmkmhhjkdaklbaagreat", sum := "48a64dd17553d2a496606ff3b45513335d0e390321471f6d868b423e1b546b62", func := "sordine/sordinelaw22.RecordApart", spec := "recordApart", inPlace := ["math.Float64bits", "internal/bytealg.IndexByteString", "internal/bytealg.abigen_runtime_cmpstring", "math.Float64frombits"], unfollowed := true, recurses := true, apart := false, narrowed := true }
def RecordApartUptoSaid : Prop := recordApartUptoRow.holds Tryz.pinned (OpenSpec.upto recordApartSpec)

/-- 'sordinelaw20.ReqAsk', WHERE WHAT IT READS IS OF BULK AT MOST 1048576: true; the input reads as it did. -/
def reqAskUptoRow : OpenClaim := { program := "ytmkmhhjkdaklbaagreat", sum := "48a64dd17553d2a496606ff3b45513335d0e390321471f6d868b423e1b546b62", func := "sordine/sordinelaw20.ReqAsk", spec := "reqAsk", inPlace := ["internal/bytealg.IndexByteString", "internal/bytealg.abigen_runtime_cmpstring", "math.Float64frombits", "math.Float64bits"], unfollowed := true, recurses := true, apart := false, narrowed := true }
def ReqAskUptoSaid : Prop := reqAskUptoRow.holds Tryz.pinned (OpenSpec.upto reqAskSpec)

/-- 'sordinelaw20.ReqApart', WHERE WHAT IT READS IS OF BULK AT MOST 1048576: true; the input reads as it did. -/
def reqApartUptoRow : OpenClaim := { program := "ytmkmhhjkdaklbaagreat", sum := "48a64dd17553d2a496606ff3b45513335d0e390321471f6d868b423e1b546b62", func := "sordine/sordinelaw20.ReqApart", spec := "reqApart", inPlace := ["math.Float64bits", "internal/bytealg.IndexByteString", "internal/bytealg.abigen_runtime_cmpstring", "math.Float64frombits"], unfollowed := true, recurses := true, apart := false, narrowed := true }
def ReqApartUptoSaid : Prop := reqApartUptoRow.holds Tryz.pinned (OpenSpec.upto reqApartSpec)

/-- 'sordinelaw20.ReqSpoilt', WHERE WHAT IT READS IS OF BULK AT MOST 1048576: true; the input reads as it did. -/
def reqSpoiltUptoRow : OpenClaim := { program := "ytmkmhhjkdaklbaagreat", sum := "48a64dd17553d2a496606ff3b45513335d0e390321471f6d868b423e1b546b62", func := "sordine/sordinelaw20.ReqSpoilt", spec := "reqSpoilt", inPlace := ["math.Float64bits", "internal/bytealg.IndexByteString", "internal/bytealg.abigen_runtime_cmpstring", "math.Float64frombits"], unfollowed := true, recurses := true, apart := false, narrowed := true }
def ReqSpoiltUptoSaid : Prop := reqSpoiltUptoRow.holds Tryz.pinned (OpenSpec.upto reqSpoiltSpec)

/-- 'sordinelaw20.ReqReads', WHERE WHAT IT READS IS OF BULK AT MOST 1048576: true; the input reads as it did. -/
def reqReadsUptoRow : OpenClaim := { program := "ytmkmhhjkdaklbaagreat", sum := "48a64dd17553d2a496606ff3b45513335d0e390321471f6d868b423e1b546b62", func := "sordine/sordinelaw20.ReqReads", spec := "reqReads", inPlace := ["internal/bytealg.IndexByteString", "internal/bytealg.abigen_runtime_cmpstring", "math.Float64frombits", "math.Float64bits"], unfollowed := true, recurses := true, apart := false, narrowed := true }
def ReqReadsUptoSaid : Prop := reqReadsUptoRow.holds Tryz.pinned (OpenSpec.upto reqReadsSpec)

/-- 'sordinelaw20.ReqBack', WHERE WHAT IT READS IS OF BULK AT MOST 1048576: true; the input reads as it did. -/
def reqBackUptoRow : OpenClaim := { program := "ytmkmhhjkdaklbaagreat", sum := "48a64dd17553d2a496606ff3b45513335d0e390321471f6d868b423e1b546b62", func := "sordine/sordinelaw20.ReqBack", spec := "reqBack", inPlace := ["internal/bytealg.IndexByteString", "internal/bytealg.abigen_runtime_cmpstring", "math.Float64frombits", "math.Float64bits"], unfollowed := true, recurses := true, apart := false, narrowed := true }
def ReqBackUptoSaid : Prop := reqBackUptoRow.holds Tryz.pinned (OpenSpec.upto reqBackSpec)

end Rows
end Go.Proofs.YtmkmhhjkdaklbaaGreat
