/-
  NARROWER THAN 'FOR EVERY INPUT', by the rows' own cells (each row's printed sentence says how): ChainFull: laid · ChainPlays: laid · ChainHeads: laid · AuditReads: laid · AuditFront: laid · AuditTakes: laid · AuditTurned: laid · AuditExtracts: laid.
  DERIVED. THE GIVEN ROWS OF THIS SEAT. 8 by the template 'for every input the law returns true; each argument reads behind the call as it read before'; 0 by the template 'total and deterministic' (their statements: YteakobbdgehlgaaGreatDoorTotals.lean).
  GIVEN WITH THE SEED: the statements are not yours to turn. If you find one false, say at which input.
  Laid BY PROGRAM, IN A SANDBOX (cutbox-rows.mjs): the forced cells as the released guide's own fill.sh prints them over the translation be099eb569e26da6… (all of the seat's roots in one cut). By AI agents, Wed Nov 11 2026. No macro, syntax, notation, axiom, sorry.
-/
import Derived.Test.YteakobbdgehlgaaGreatDoorChecked
import GoSem.Claim
import GoSem.ClaimJoined
import GoSem.ClaimMapViews
import Derived.JoinedTies
import Derived.KernelRfl
namespace Go.Proofs.YteakobbdgehlgaaGreatDoor
/- THE CELL 'sum', in the pinned program and in every row, IS THE sha256 OF THE DUMP (.gsa) THAT YteakobbdgehlgaaGreatDoorProg.lean LOADS. Nothing in Lean hashes anything: it is a label: what it is worth is what the hold of that sum in a sandbox is worth. -/
noncomputable def Tryz.pinned : Pinned := { name := "yteakobbdgehlgaagreatdoor", sum := "be099eb569e26da60116884251425eada47b6beadf0b71c615906b75a7e5b310", checked := Tryz.checked }
namespace Rows
def none {H : Type} : Left H := { results := [], args := [] }

/- WHAT THE LISTED PACKAGE-LEVEL VARIABLES READ AS WHEN THE CALL BEGINS. Each datum BY PROGRAM (the guide's laid-datum.mjs) off the statement by which the dump's own 'gosem.cut.vars' lays the variable. In a bare row this is a premise. The card (YteakobbdgehlgaaGreatDoorCards.lean) ties it to the program's text. -/
def laid_sordine_sha_keys {H : Type} : DataW H := .agg [.lit (.int .u32 1116352408), .lit (.int .u32 1899447441), .lit (.int .u32 3049323471), .lit (.int .u32 3921009573), .lit (.int .u32 961987163), .lit (.int .u32 1508970993), .lit (.int .u32 2453635748), .lit (.int .u32 2870763221), .lit (.int .u32 3624381080), .lit (.int .u32 310598401), .lit (.int .u32 607225278), .lit (.int .u32 1426881987), .lit (.int .u32 1925078388), .lit (.int .u32 2162078206), .lit (.int .u32 2614888103), .lit (.int .u32 3248222580), .lit (.int .u32 3835390401), .lit (.int .u32 4022224774), .lit (.int .u32 264347078), .lit (.int .u32 604807628), .lit (.int .u32 770255983), .lit (.int .u32 1249150122), .lit (.int .u32 1555081692), .lit (.int .u32 1996064986), .lit (.int .u32 2554220882), .lit (.int .u32 2821834349), .lit (.int .u32 2952996808), .lit (.int .u32 3210313671), .lit (.int .u32 3336571891), .lit (.int .u32 3584528711), .lit (.int .u32 113926993), .lit (.int .u32 338241895), .lit (.int .u32 666307205), .lit (.int .u32 773529912), .lit (.int .u32 1294757372), .lit (.int .u32 1396182291), .lit (.int .u32 1695183700), .lit (.int .u32 1986661051), .lit (.int .u32 2177026350), .lit (.int .u32 2456956037), .lit (.int .u32 2730485921), .lit (.int .u32 2820302411), .lit (.int .u32 3259730800), .lit (.int .u32 3345764771), .lit (.int .u32 3516065817), .lit (.int .u32 3600352804), .lit (.int .u32 4094571909), .lit (.int .u32 275423344), .lit (.int .u32 430227734), .lit (.int .u32 506948616), .lit (.int .u32 659060556), .lit (.int .u32 883997877), .lit (.int .u32 958139571), .lit (.int .u32 1322822218), .lit (.int .u32 1537002063), .lit (.int .u32 1747873779), .lit (.int .u32 1955562222), .lit (.int .u32 2024104815), .lit (.int .u32 2227730452), .lit (.int .u32 2361852424), .lit (.int .u32 2428436474), .lit (.int .u32 2756734187), .lit (.int .u32 3204031479), .lit (.int .u32 3329325298)]
def laid_sordine_sordineref1_k {H : Type} : DataW H := .agg [.lit (.int .u32 1116352408), .lit (.int .u32 1899447441), .lit (.int .u32 3049323471), .lit (.int .u32 3921009573), .lit (.int .u32 961987163), .lit (.int .u32 1508970993), .lit (.int .u32 2453635748), .lit (.int .u32 2870763221), .lit (.int .u32 3624381080), .lit (.int .u32 310598401), .lit (.int .u32 607225278), .lit (.int .u32 1426881987), .lit (.int .u32 1925078388), .lit (.int .u32 2162078206), .lit (.int .u32 2614888103), .lit (.int .u32 3248222580), .lit (.int .u32 3835390401), .lit (.int .u32 4022224774), .lit (.int .u32 264347078), .lit (.int .u32 604807628), .lit (.int .u32 770255983), .lit (.int .u32 1249150122), .lit (.int .u32 1555081692), .lit (.int .u32 1996064986), .lit (.int .u32 2554220882), .lit (.int .u32 2821834349), .lit (.int .u32 2952996808), .lit (.int .u32 3210313671), .lit (.int .u32 3336571891), .lit (.int .u32 3584528711), .lit (.int .u32 113926993), .lit (.int .u32 338241895), .lit (.int .u32 666307205), .lit (.int .u32 773529912), .lit (.int .u32 1294757372), .lit (.int .u32 1396182291), .lit (.int .u32 1695183700), .lit (.int .u32 1986661051), .lit (.int .u32 2177026350), .lit (.int .u32 2456956037), .lit (.int .u32 2730485921), .lit (.int .u32 2820302411), .lit (.int .u32 3259730800), .lit (.int .u32 3345764771), .lit (.int .u32 3516065817), .lit (.int .u32 3600352804), .lit (.int .u32 4094571909), .lit (.int .u32 275423344), .lit (.int .u32 430227734), .lit (.int .u32 506948616), .lit (.int .u32 659060556), .lit (.int .u32 883997877), .lit (.int .u32 958139571), .lit (.int .u32 1322822218), .lit (.int .u32 1537002063), .lit (.int .u32 1747873779), .lit (.int .u32 1955562222), .lit (.int .u32 2024104815), .lit (.int .u32 2227730452), .lit (.int .u32 2361852424), .lit (.int .u32 2428436474), .lit (.int .u32 2756734187), .lit (.int .u32 3204031479), .lit (.int .u32 3329325298)]

/-- 'sordinelaw23.ChainFull': WHATEVER THE INPUT: true; the input reads as it did. -/
def chainFullSpec : ChangeSpec := { name := "chainFull", fn := fun _ => fun
  | [d1, d2] => { results := [.lit (.bool true)], args := [d1, d2] }
  | _ => none }
def chainFullRow : OpenClaim := { program := "yteakobbdgehlgaagreatdoor", sum := "be099eb569e26da60116884251425eada47b6beadf0b71c615906b75a7e5b310", func := "sordine/sordinelaw23.ChainFull", spec := "chainFull", inPlace := ["internal/bytealg.IndexByteString", "internal/bytealg.abigen_runtime_cmpstring", "math.Float64frombits", "math.Float64bits"], unfollowed := true, recurses := true, named := ["sordine/sha.keys", "sordine/sordineref1.k"], apart := false, laid := [("sordine/sha.keys", laid_sordine_sha_keys), ("sordine/sordineref1.k", laid_sordine_sordineref1_k)] }
def ChainFullSaid : Prop := chainFullRow.holds Tryz.pinned (OpenSpec.ofChange chainFullSpec)

/-- ITS FALSE NEIGHBOUR: 'it returns false'. Refute it at one input. -/
def chainFullWrong : ChangeSpec := { name := "chainFull", fn := fun _ => fun
  | [d1, d2] => { results := [.lit (.bool false)], args := [d1, d2] }
  | _ => none }
def ChainFullWrongFalsely : Prop := chainFullRow.holds Tryz.pinned (OpenSpec.ofChange chainFullWrong)

/-- 'sordinelaw23.ChainPlays': WHATEVER THE INPUT: true; the input reads as it did. -/
def chainPlaysSpec : ChangeSpec := { name := "chainPlays", fn := fun _ => fun
  | [d1, d2, d3] => { results := [.lit (.bool true)], args := [d1, d2, d3] }
  | _ => none }
def chainPlaysRow : OpenClaim := { program := "yteakobbdgehlgaagreatdoor", sum := "be099eb569e26da60116884251425eada47b6beadf0b71c615906b75a7e5b310", func := "sordine/sordinelaw23.ChainPlays", spec := "chainPlays", inPlace := ["internal/bytealg.IndexByteString", "internal/bytealg.abigen_runtime_cmpstring", "math.Float64frombits", "math.Float64bits"], unfollowed := true, recurses := true, named := ["sordine/sha.keys", "sordine/sordineref1.k"], apart := false, laid := [("sordine/sha.keys", laid_sordine_sha_keys), ("sordine/sordineref1.k", laid_sordine_sordineref1_k)] }
def ChainPlaysSaid : Prop := chainPlaysRow.holds Tryz.pinned (OpenSpec.ofChange chainPlaysSpec)

/-- ITS FALSE NEIGHBOUR: 'it returns false'. Refute it at one input. -/
def chainPlaysWrong : ChangeSpec := { name := "chainPlays", fn := fun _ => fun
  | [d1, d2, d3] => { results := [.lit (.bool false)], args := [d1, d2, d3] }
  | _ => none }
def ChainPlaysWrongFalsely : Prop := chainPlaysRow.holds Tryz.pinned (OpenSpec.ofChange chainPlaysWrong)

/-- 'sordinelaw23.ChainHeads': WHATEVER THE INPUT: true; the input reads as it did. -/
def chainHeadsSpec : ChangeSpec := { name := "chainHeads", fn := fun _ => fun
  | [d1, d2] => { results := [.lit (.bool true)], args := [d1, d2] }
  | _ => none }
def chainHeadsRow : OpenClaim := { program := "yteakobbdgehlgaagreatdoor", sum := "be099eb569e26da60116884251425eada47b6beadf0b71c615906b75a7e5b310", func := "sordine/sordinelaw23.ChainHeads", spec := "chainHeads", inPlace := ["internal/bytealg.IndexByteString", "internal/bytealg.abigen_runtime_cmpstring", "math.Float64frombits", "math.Float64bits"], unfollowed := true, recurses := true, named := ["sordine/sha.keys", "sordine/sordineref1.k"], apart := false, laid := [("sordine/sha.keys", laid_sordine_sha_keys), ("sordine/sordineref1.k", laid_sordine_sordineref1_k)] }
def ChainHeadsSaid : Prop := chainHeadsRow.holds Tryz.pinned (OpenSpec.ofChange chainHeadsSpec)

/-- ITS FALSE NEIGHBOUR: 'it returns false'. Refute it at one input. -/
def chainHeadsWrong : ChangeSpec := { name := "chainHeads", fn := fun _ => fun
  | [d1, d2] => { results := [.lit (.bool false)], args := [d1, d2] }
  | _ => none }
def ChainHeadsWrongFalsely : Prop := chainHeadsRow.holds Tryz.pinned (OpenSpec.ofChange chainHeadsWrong)

/-- 'sordinelaw24.AuditReads': WHATEVER THE INPUT: true; the input reads as it did. -/
def auditReadsSpec : ChangeSpec := { name := "auditReads", fn := fun _ => fun
  | [d1, d2] => { results := [.lit (.bool true)], args := [d1, d2] }
  | _ => none }
def auditReadsRow : OpenClaim := { program := "yteakobbdgehlgaagreatdoor", sum := "be099eb569e26da60116884251425eada47b6beadf0b71c615906b75a7e5b310", func := "sordine/sordinelaw24.AuditReads", spec := "auditReads", inPlace := ["internal/bytealg.IndexByteString", "internal/bytealg.abigen_runtime_cmpstring", "math.Float64frombits", "math.Float64bits"], unfollowed := true, recurses := true, named := ["sordine/sha.keys", "sordine/sordineref1.k"], apart := false, laid := [("sordine/sha.keys", laid_sordine_sha_keys), ("sordine/sordineref1.k", laid_sordine_sordineref1_k)] }
def AuditReadsSaid : Prop := auditReadsRow.holds Tryz.pinned (OpenSpec.ofChange auditReadsSpec)

/-- ITS FALSE NEIGHBOUR: 'it returns false'. Refute it at one input. -/
def auditReadsWrong : ChangeSpec := { name := "auditReads", fn := fun _ => fun
  | [d1, d2] => { results := [.lit (.bool false)], args := [d1, d2] }
  | _ => none }
def AuditReadsWrongFalsely : Prop := auditReadsRow.holds Tryz.pinned (OpenSpec.ofChange auditReadsWrong)

/-- 'sordinelaw24.AuditFront': WHATEVER THE INPUT: true; the input reads as it did. -/
def auditFrontSpec : ChangeSpec := { name := "auditFront", fn := fun _ => fun
  | [d1, d2, d3] => { results := [.lit (.bool true)], args := [d1, d2, d3] }
  | _ => none }
def auditFrontRow : OpenClaim := { program := "yteakobbdgehlgaagreatdoor", sum := "be099eb569e26da60116884251425eada47b6beadf0b71c615906b75a7e5b310", func := "sordine/sordinelaw24.AuditFront", spec := "auditFront", inPlace := ["math.Float64bits", "internal/bytealg.IndexByteString", "internal/bytealg.abigen_runtime_cmpstring", "math.Float64frombits"], unfollowed := true, recurses := true, named := ["sordine/sha.keys"], apart := false, laid := [("sordine/sha.keys", laid_sordine_sha_keys)] }
def AuditFrontSaid : Prop := auditFrontRow.holds Tryz.pinned (OpenSpec.ofChange auditFrontSpec)

/-- ITS FALSE NEIGHBOUR: 'it returns false'. Refute it at one input. -/
def auditFrontWrong : ChangeSpec := { name := "auditFront", fn := fun _ => fun
  | [d1, d2, d3] => { results := [.lit (.bool false)], args := [d1, d2, d3] }
  | _ => none }
def AuditFrontWrongFalsely : Prop := auditFrontRow.holds Tryz.pinned (OpenSpec.ofChange auditFrontWrong)

/-- 'sordinelaw24.AuditTakes': WHATEVER THE INPUT: true; the input reads as it did. -/
def auditTakesSpec : ChangeSpec := { name := "auditTakes", fn := fun _ => fun
  | [d1, d2] => { results := [.lit (.bool true)], args := [d1, d2] }
  | _ => none }
def auditTakesRow : OpenClaim := { program := "yteakobbdgehlgaagreatdoor", sum := "be099eb569e26da60116884251425eada47b6beadf0b71c615906b75a7e5b310", func := "sordine/sordinelaw24.AuditTakes", spec := "auditTakes", inPlace := ["math.Float64bits", "internal/bytealg.IndexByteString", "internal/bytealg.abigen_runtime_cmpstring", "math.Float64frombits"], unfollowed := true, recurses := true, named := ["sordine/sha.keys"], apart := false, laid := [("sordine/sha.keys", laid_sordine_sha_keys)] }
def AuditTakesSaid : Prop := auditTakesRow.holds Tryz.pinned (OpenSpec.ofChange auditTakesSpec)

/-- ITS FALSE NEIGHBOUR: 'it returns false'. Refute it at one input. -/
def auditTakesWrong : ChangeSpec := { name := "auditTakes", fn := fun _ => fun
  | [d1, d2] => { results := [.lit (.bool false)], args := [d1, d2] }
  | _ => none }
def AuditTakesWrongFalsely : Prop := auditTakesRow.holds Tryz.pinned (OpenSpec.ofChange auditTakesWrong)

/-- 'sordinelaw24.AuditTurned': WHATEVER THE INPUT: true; the input reads as it did. -/
def auditTurnedSpec : ChangeSpec := { name := "auditTurned", fn := fun _ => fun
  | [d1, d2, d3, d4, d5] => { results := [.lit (.bool true)], args := [d1, d2, d3, d4, d5] }
  | _ => none }
def auditTurnedRow : OpenClaim := { program := "yteakobbdgehlgaagreatdoor", sum := "be099eb569e26da60116884251425eada47b6beadf0b71c615906b75a7e5b310", func := "sordine/sordinelaw24.AuditTurned", spec := "auditTurned", inPlace := ["math.Float64bits", "internal/bytealg.IndexByteString", "internal/bytealg.abigen_runtime_cmpstring", "math.Float64frombits"], unfollowed := true, recurses := true, named := ["sordine/sha.keys"], apart := false, laid := [("sordine/sha.keys", laid_sordine_sha_keys)] }
def AuditTurnedSaid : Prop := auditTurnedRow.holds Tryz.pinned (OpenSpec.ofChange auditTurnedSpec)

/-- ITS FALSE NEIGHBOUR: 'it returns false'. Refute it at one input. -/
def auditTurnedWrong : ChangeSpec := { name := "auditTurned", fn := fun _ => fun
  | [d1, d2, d3, d4, d5] => { results := [.lit (.bool false)], args := [d1, d2, d3, d4, d5] }
  | _ => none }
def AuditTurnedWrongFalsely : Prop := auditTurnedRow.holds Tryz.pinned (OpenSpec.ofChange auditTurnedWrong)

/-- 'sordinelaw24.AuditExtracts': WHATEVER THE INPUT: true; the input reads as it did. -/
def auditExtractsSpec : ChangeSpec := { name := "auditExtracts", fn := fun _ => fun
  | [d1, d2, d3, d4] => { results := [.lit (.bool true)], args := [d1, d2, d3, d4] }
  | _ => none }
def auditExtractsRow : OpenClaim := { program := "yteakobbdgehlgaagreatdoor", sum := "be099eb569e26da60116884251425eada47b6beadf0b71c615906b75a7e5b310", func := "sordine/sordinelaw24.AuditExtracts", spec := "auditExtracts", inPlace := ["math.Float64bits", "internal/bytealg.IndexByteString", "internal/bytealg.abigen_runtime_cmpstring", "math.Float64frombits"], unfollowed := true, recurses := true, named := ["sordine/sha.keys", "sordine/sordineref1.k"], apart := false, laid := [("sordine/sha.keys", laid_sordine_sha_keys), ("sordine/sordineref1.k", laid_sordine_sordineref1_k)] }
def AuditExtractsSaid : Prop := auditExtractsRow.holds Tryz.pinned (OpenSpec.ofChange auditExtractsSpec)

/-- ITS FALSE NEIGHBOUR: 'it returns false'. Refute it at one input. -/
def auditExtractsWrong : ChangeSpec := { name := "auditExtracts", fn := fun _ => fun
  | [d1, d2, d3, d4] => { results := [.lit (.bool false)], args := [d1, d2, d3, d4] }
  | _ => none }
def AuditExtractsWrongFalsely : Prop := auditExtractsRow.holds Tryz.pinned (OpenSpec.ofChange auditExtractsWrong)

/- THE SECOND FORM. 'bulk': how many values and letters a reading holds, each counted each time it is reached (what is shared counts as often as it is met; a slice's spare places count too). A statement '..UptoSaid' is the law's where the arguments, and the package variables that the reading takes, are together of bulk at most 1048576: NARROWER than '..Said'. Prove '..Said' where nothing that the law and all that it calls make is longer than what came in: it says more and counts as full. Else prove '..UptoSaid'. A law counts once. -/
mutual
def uptoBulk {H : Type} : DataW H → Nat
  | .lit (.string bytes) => bytes.length + 1
  | .lit _ => 1
  | .nil => 1
  | .ptr d => uptoBulk d + 1
  | .slice elems spare => uptoBulkAll elems + uptoBulkAll spare + 1
  | .agg parts => uptoBulkAll parts + 1
  | .iface _ d => uptoBulk d + 1
  | .map entries => uptoBulkEntries entries + 1
  | .held _ => 1
def uptoBulkAll {H : Type} : List (DataW H) → Nat
  | [] => 0
  | d :: r => uptoBulk d + uptoBulkAll r
def uptoBulkEntries {H : Type} : List (Lit × DataW H) → Nat
  | [] => 0
  | x :: r => uptoBulkEntry x + uptoBulkEntries r
def uptoBulkEntry {H : Type} : Lit × DataW H → Nat
  | (.string bytes, d) => bytes.length + uptoBulk d + 1
  | (_, d) => uptoBulk d + 1
 end
def uptoSmall : (H : Type) → List (DataW H) → Bool := fun _ ds => decide (uptoBulkAll ds ≤ 1048576)
def OpenSpec.upto (s : _root_.Go.ChangeSpec) : _root_.Go.OpenSpec := { _root_.Go.OpenSpec.ofChange s with cond := some uptoSmall }

/-- 'sordinelaw23.ChainFull', WHERE WHAT IT READS IS OF BULK AT MOST 1048576: true; the input reads as it did. -/
def chainFullUptoRow : OpenClaim := { program := "yteakobbdgehlgaagreatdoor", sum := "be099eb569e26da60116884251425eada47b6beadf0b71c615906b75a7e5b310", func := "sordine/sordinelaw23.ChainFull", spec := "chainFull", inPlace := ["internal/bytealg.IndexByteString", "internal/bytealg.abigen_runtime_cmpstring", "math.Float64frombits", "math.Float64bits"], unfollowed := true, recurses := true, named := ["sordine/sha.keys", "sordine/sordineref1.k"], apart := false, laid := [("sordine/sha.keys", laid_sordine_sha_keys), ("sordine/sordineref1.k", laid_sordine_sordineref1_k)], narrowed := true }
def ChainFullUptoSaid : Prop := chainFullUptoRow.holds Tryz.pinned (OpenSpec.upto chainFullSpec)

/-- 'sordinelaw23.ChainPlays', WHERE WHAT IT READS IS OF BULK AT MOST 1048576: true; the input reads as it did. -/
def chainPlaysUptoRow : OpenClaim := { program := "yteakobbdgehlgaagreatdoor", sum := "be099eb569e26da60116884251425eada47b6beadf0b71c615906b75a7e5b310", func := "sordine/sordinelaw23.ChainPlays", spec := "chainPlays", inPlace := ["internal/bytealg.IndexByteString", "internal/bytealg.abigen_runtime_cmpstring", "math.Float64frombits", "math.Float64bits"], unfollowed := true, recurses := true, named := ["sordine/sha.keys", "sordine/sordineref1.k"], apart := false, laid := [("sordine/sha.keys", laid_sordine_sha_keys), ("sordine/sordineref1.k", laid_sordine_sordineref1_k)], narrowed := true }
def ChainPlaysUptoSaid : Prop := chainPlaysUptoRow.holds Tryz.pinned (OpenSpec.upto chainPlaysSpec)

/-- 'sordinelaw23.ChainHeads', WHERE WHAT IT READS IS OF BULK AT MOST 1048576: true; the input reads as it did. -/
def chainHeadsUptoRow : OpenClaim := { program := "yteakobbdgehlgaagreatdoor", sum := "be099eb569e26da60116884251425eada47b6beadf0b71c615906b75a7e5b310", func := "sordine/sordinelaw23.ChainHeads", spec := "chainHeads", inPlace := ["internal/bytealg.IndexByteString", "internal/bytealg.abigen_runtime_cmpstring", "math.Float64frombits", "math.Float64bits"], unfollowed := true, recurses := true, named := ["sordine/sha.keys", "sordine/sordineref1.k"], apart := false, laid := [("sordine/sha.keys", laid_sordine_sha_keys), ("sordine/sordineref1.k", laid_sordine_sordineref1_k)], narrowed := true }
def ChainHeadsUptoSaid : Prop := chainHeadsUptoRow.holds Tryz.pinned (OpenSpec.upto chainHeadsSpec)

/-- 'sordinelaw24.AuditReads', WHERE WHAT IT READS IS OF BULK AT MOST 1048576: true; the input reads as it did. -/
def auditReadsUptoRow : OpenClaim := { program := "yteakobbdgehlgaagreatdoor", sum := "be099eb569e26da60116884251425eada47b6beadf0b71c615906b75a7e5b310", func := "sordine/sordinelaw24.AuditReads", spec := "auditReads", inPlace := ["internal/bytealg.IndexByteString", "internal/bytealg.abigen_runtime_cmpstring", "math.Float64frombits", "math.Float64bits"], unfollowed := true, recurses := true, named := ["sordine/sha.keys", "sordine/sordineref1.k"], apart := false, laid := [("sordine/sha.keys", laid_sordine_sha_keys), ("sordine/sordineref1.k", laid_sordine_sordineref1_k)], narrowed := true }
def AuditReadsUptoSaid : Prop := auditReadsUptoRow.holds Tryz.pinned (OpenSpec.upto auditReadsSpec)

/-- 'sordinelaw24.AuditFront', WHERE WHAT IT READS IS OF BULK AT MOST 1048576: true; the input reads as it did. -/
def auditFrontUptoRow : OpenClaim := { program := "yteakobbdgehlgaagreatdoor", sum := "be099eb569e26da60116884251425eada47b6beadf0b71c615906b75a7e5b310", func := "sordine/sordinelaw24.AuditFront", spec := "auditFront", inPlace := ["math.Float64bits", "internal/bytealg.IndexByteString", "internal/bytealg.abigen_runtime_cmpstring", "math.Float64frombits"], unfollowed := true, recurses := true, named := ["sordine/sha.keys"], apart := false, laid := [("sordine/sha.keys", laid_sordine_sha_keys)], narrowed := true }
def AuditFrontUptoSaid : Prop := auditFrontUptoRow.holds Tryz.pinned (OpenSpec.upto auditFrontSpec)

/-- 'sordinelaw24.AuditTakes', WHERE WHAT IT READS IS OF BULK AT MOST 1048576: true; the input reads as it did. -/
def auditTakesUptoRow : OpenClaim := { program := "yteakobbdgehlgaagreatdoor", sum := "be099eb569e26da60116884251425eada47b6beadf0b71c615906b75a7e5b310", func := "sordine/sordinelaw24.AuditTakes", spec := "auditTakes", inPlace := ["math.Float64bits", "internal/bytealg.IndexByteString", "internal/bytealg.abigen_runtime_cmpstring", "math.Float64frombits"], unfollowed := true, recurses := true, named := ["sordine/sha.keys"], apart := false, laid := [("sordine/sha.keys", laid_sordine_sha_keys)], narrowed := true }
def AuditTakesUptoSaid : Prop := auditTakesUptoRow.holds Tryz.pinned (OpenSpec.upto auditTakesSpec)

/-- 'sordinelaw24.AuditTurned', WHERE WHAT IT READS IS OF BULK AT MOST 1048576: true; the input reads as it did. -/
def auditTurnedUptoRow : OpenClaim := { program := "yteakobbdgehlgaagreatdoor", sum := "be099eb569e26da60116884251425eada47b6beadf0b71c615906b75a7e5b310", func := "sordine/sordinelaw24.AuditTurned", spec := "auditTurned", inPlace := ["math.Float64bits", "internal/bytealg.IndexByteString", "internal/bytealg.abigen_runtime_cmpstring", "math.Float64frombits"], unfollowed := true, recurses := true, named := ["sordine/sha.keys"], apart := false, laid := [("sordine/sha.keys", laid_sordine_sha_keys)], narrowed := true }
def AuditTurnedUptoSaid : Prop := auditTurnedUptoRow.holds Tryz.pinned (OpenSpec.upto auditTurnedSpec)

/-- 'sordinelaw24.AuditExtracts', WHERE WHAT IT READS IS OF BULK AT MOST 1048576: true; the input reads as it did. -/
def auditExtractsUptoRow : OpenClaim := { program := "yteakobbdgehlgaagreatdoor", sum := "be099eb569e26da60116884251425eada47b6beadf0b71c615906b75a7e5b310", func := "sordine/sordinelaw24.AuditExtracts", spec := "auditExtracts", inPlace := ["math.Float64bits", "internal/bytealg.IndexByteString", "internal/bytealg.abigen_runtime_cmpstring", "math.Float64frombits"], unfollowed := true, recurses := true, named := ["sordine/sha.keys", "sordine/sordineref1.k"], apart := false, laid := [("sordine/sha.keys", laid_sordine_sha_keys), ("sordine/sordineref1.k", laid_sordine_sordineref1_k)], narrowed := true }
def AuditExtractsUptoSaid : Prop := auditExtractsUptoRow.holds Tryz.pinned (OpenSpec.upto auditExtractsSpec)

end Rows
end Go.Proofs.YteakobbdgehlgaaGreatDoor
