/-
  No cell of these rows narrows 'for every input' (looked for: loops, veiled, ifaces, maps, wideKeys, modest, calm, conditions, laid).
  DERIVED. THE GIVEN ROWS OF THIS SEAT. 7 by the template 'for every input the law returns true; each argument reads behind the call as it read before'; 0 by the template 'total and deterministic' (their statements: YtpbelbckinpinaaTotals.lean).
  GIVEN WITH THE SEED: the statements are not yours to turn. If you find one false, say at which input.
  Laid BY PROGRAM, IN A SANDBOX (cutbox-rows.mjs): the forced cells as the released guide's own fill.sh prints them over the translation e68f3a7430d050f3… (all of the seat's roots in one cut). By AI agents, Wed Nov 11 2026. No macro, syntax, notation, axiom, sorry.
-/
import Derived.Test.YtpbelbckinpinaaChecked
import GoSem.Claim
import GoSem.ClaimJoined
import GoSem.ClaimMapViews
import Derived.JoinedTies
import Derived.KernelRfl
namespace Go.Proofs.Ytpbelbckinpinaa
/- THE CELL 'sum', in the pinned program and in every row, IS THE sha256 OF THE DUMP (.gsa) THAT YtpbelbckinpinaaProg.lean LOADS. Nothing in Lean hashes anything: it is a label: what it is worth is what the hold of that sum in a sandbox is worth. -/
noncomputable def Try.pinned : Pinned := { name := "ytpbelbckinpinaa", sum := "e68f3a7430d050f3ece319b48b2ccd2b9faa0c733f4cd9d83d23b27b1495dd0c", checked := Try.checked }
namespace Rows
def none {H : Type} : Left H := { results := [], args := [] }

/-- 'laws.FnExactCostOf': WHATEVER THE INPUT: true; the input reads as it did. -/
def fnExactCostOfSpec : ChangeSpec := { name := "fnExactCostOf", fn := fun _ => fun
  | [d] => { results := [.lit (.bool true)], args := [d] }
  | _ => none }
def fnExactCostOfRow : OpenClaim := { program := "ytpbelbckinpinaa", sum := "e68f3a7430d050f3ece319b48b2ccd2b9faa0c733f4cd9d83d23b27b1495dd0c", func := "loop.example/g00253/laws.FnExactCostOf", spec := "fnExactCostOf", unfollowed := true, recurses := true, apart := false }
def FnExactCostOfSaid : Prop := fnExactCostOfRow.holds Try.pinned (OpenSpec.ofChange fnExactCostOfSpec)

/-- ITS FALSE NEIGHBOUR: 'it returns false'. Refute it at one input. -/
def fnExactCostOfWrong : ChangeSpec := { name := "fnExactCostOf", fn := fun _ => fun
  | [d] => { results := [.lit (.bool false)], args := [d] }
  | _ => none }
def FnExactCostOfWrongFalsely : Prop := fnExactCostOfRow.holds Try.pinned (OpenSpec.ofChange fnExactCostOfWrong)

/-- 'laws.FnExactDiffOps': WHATEVER THE INPUT: true; the input reads as it did. -/
def fnExactDiffOpsSpec : ChangeSpec := { name := "fnExactDiffOps", fn := fun _ => fun
  | [d1, d2] => { results := [.lit (.bool true)], args := [d1, d2] }
  | _ => none }
def fnExactDiffOpsRow : OpenClaim := { program := "ytpbelbckinpinaa", sum := "e68f3a7430d050f3ece319b48b2ccd2b9faa0c733f4cd9d83d23b27b1495dd0c", func := "loop.example/g00253/laws.FnExactDiffOps", spec := "fnExactDiffOps", unfollowed := true, recurses := true, apart := false }
def FnExactDiffOpsSaid : Prop := fnExactDiffOpsRow.holds Try.pinned (OpenSpec.ofChange fnExactDiffOpsSpec)

/-- ITS FALSE NEIGHBOUR: 'it returns false'. Refute it at one input. -/
def fnExactDiffOpsWrong : ChangeSpec := { name := "fnExactDiffOps", fn := fun _ => fun
  | [d1, d2] => { results := [.lit (.bool false)], args := [d1, d2] }
  | _ => none }
def FnExactDiffOpsWrongFalsely : Prop := fnExactDiffOpsRow.holds Try.pinned (OpenSpec.ofChange fnExactDiffOpsWrong)

/-- 'laws.FnDiff': WHATEVER THE INPUT: true; the input reads as it did. -/
def fnDiffSpec : ChangeSpec := { name := "fnDiff", fn := fun _ => fun
  | [d1, d2] => { results := [.lit (.bool true)], args := [d1, d2] }
  | _ => none }
def fnDiffRow : OpenClaim := { program := "ytpbelbckinpinaa", sum := "e68f3a7430d050f3ece319b48b2ccd2b9faa0c733f4cd9d83d23b27b1495dd0c", func := "loop.example/g00253/laws.FnDiff", spec := "fnDiff", unfollowed := true, recurses := true, apart := false }
def FnDiffSaid : Prop := fnDiffRow.holds Try.pinned (OpenSpec.ofChange fnDiffSpec)

/-- ITS FALSE NEIGHBOUR: 'it returns false'. Refute it at one input. -/
def fnDiffWrong : ChangeSpec := { name := "fnDiff", fn := fun _ => fun
  | [d1, d2] => { results := [.lit (.bool false)], args := [d1, d2] }
  | _ => none }
def FnDiffWrongFalsely : Prop := fnDiffRow.holds Try.pinned (OpenSpec.ofChange fnDiffWrong)

/-- 'laws.FnExactReplaceOp': WHATEVER THE INPUT: true; the input reads as it did. -/
def fnExactReplaceOpSpec : ChangeSpec := { name := "fnExactReplaceOp", fn := fun _ => fun
  | [d1, d2, d3] => { results := [.lit (.bool true)], args := [d1, d2, d3] }
  | _ => none }
def fnExactReplaceOpRow : OpenClaim := { program := "ytpbelbckinpinaa", sum := "e68f3a7430d050f3ece319b48b2ccd2b9faa0c733f4cd9d83d23b27b1495dd0c", func := "loop.example/g00253/laws.FnExactReplaceOp", spec := "fnExactReplaceOp", unfollowed := true, recurses := true, apart := false }
def FnExactReplaceOpSaid : Prop := fnExactReplaceOpRow.holds Try.pinned (OpenSpec.ofChange fnExactReplaceOpSpec)

/-- ITS FALSE NEIGHBOUR: 'it returns false'. Refute it at one input. -/
def fnExactReplaceOpWrong : ChangeSpec := { name := "fnExactReplaceOp", fn := fun _ => fun
  | [d1, d2, d3] => { results := [.lit (.bool false)], args := [d1, d2, d3] }
  | _ => none }
def FnExactReplaceOpWrongFalsely : Prop := fnExactReplaceOpRow.holds Try.pinned (OpenSpec.ofChange fnExactReplaceOpWrong)

/-- 'laws.FnReplaced': WHATEVER THE INPUT: true; the input reads as it did. -/
def fnReplacedSpec : ChangeSpec := { name := "fnReplaced", fn := fun _ => fun
  | [d] => { results := [.lit (.bool true)], args := [d] }
  | _ => none }
def fnReplacedRow : OpenClaim := { program := "ytpbelbckinpinaa", sum := "e68f3a7430d050f3ece319b48b2ccd2b9faa0c733f4cd9d83d23b27b1495dd0c", func := "loop.example/g00253/laws.FnReplaced", spec := "fnReplaced", unfollowed := true, recurses := true, apart := false }
def FnReplacedSaid : Prop := fnReplacedRow.holds Try.pinned (OpenSpec.ofChange fnReplacedSpec)

/-- ITS FALSE NEIGHBOUR: 'it returns false'. Refute it at one input. -/
def fnReplacedWrong : ChangeSpec := { name := "fnReplaced", fn := fun _ => fun
  | [d] => { results := [.lit (.bool false)], args := [d] }
  | _ => none }
def FnReplacedWrongFalsely : Prop := fnReplacedRow.holds Try.pinned (OpenSpec.ofChange fnReplacedWrong)

/-- 'laws.FnExactMergeThree': WHATEVER THE INPUT: true; the input reads as it did. -/
def fnExactMergeThreeSpec : ChangeSpec := { name := "fnExactMergeThree", fn := fun _ => fun
  | [d1, d2, d3] => { results := [.lit (.bool true)], args := [d1, d2, d3] }
  | _ => none }
def fnExactMergeThreeRow : OpenClaim := { program := "ytpbelbckinpinaa", sum := "e68f3a7430d050f3ece319b48b2ccd2b9faa0c733f4cd9d83d23b27b1495dd0c", func := "loop.example/g00253/laws.FnExactMergeThree", spec := "fnExactMergeThree", unfollowed := true, recurses := true, apart := false }
def FnExactMergeThreeSaid : Prop := fnExactMergeThreeRow.holds Try.pinned (OpenSpec.ofChange fnExactMergeThreeSpec)

/-- ITS FALSE NEIGHBOUR: 'it returns false'. Refute it at one input. -/
def fnExactMergeThreeWrong : ChangeSpec := { name := "fnExactMergeThree", fn := fun _ => fun
  | [d1, d2, d3] => { results := [.lit (.bool false)], args := [d1, d2, d3] }
  | _ => none }
def FnExactMergeThreeWrongFalsely : Prop := fnExactMergeThreeRow.holds Try.pinned (OpenSpec.ofChange fnExactMergeThreeWrong)

/-- 'laws.FnMarks': WHATEVER THE INPUT: true; the input reads as it did. -/
def fnMarksSpec : ChangeSpec := { name := "fnMarks", fn := fun _ => fun
  | [d1, d2] => { results := [.lit (.bool true)], args := [d1, d2] }
  | _ => none }
def fnMarksRow : OpenClaim := { program := "ytpbelbckinpinaa", sum := "e68f3a7430d050f3ece319b48b2ccd2b9faa0c733f4cd9d83d23b27b1495dd0c", func := "loop.example/g00253/laws.FnMarks", spec := "fnMarks", inPlace := ["internal/bytealg.abigen_runtime_cmpstring"], unfollowed := true, recurses := true, apart := false }
def FnMarksSaid : Prop := fnMarksRow.holds Try.pinned (OpenSpec.ofChange fnMarksSpec)

/-- ITS FALSE NEIGHBOUR: 'it returns false'. Refute it at one input. -/
def fnMarksWrong : ChangeSpec := { name := "fnMarks", fn := fun _ => fun
  | [d1, d2] => { results := [.lit (.bool false)], args := [d1, d2] }
  | _ => none }
def FnMarksWrongFalsely : Prop := fnMarksRow.holds Try.pinned (OpenSpec.ofChange fnMarksWrong)

/- THE SECOND FORM. 'bulk': how many values and letters a reading holds, each counted each time it is reached (what is shared counts as often as it is met; a slice's spare places count too). A statement '..UptoSaid' is the law's where the arguments, and the package variables that the reading takes, are together of bulk at most 1048576: NARROWER than '..Said'. Prove '..Said' where nothing that the law and all that it calls make is longer than what came in: it says more and counts as full. Else prove '..UptoSaid'. A law counts once. -/
mutual
def uptoBulk {H : Type} : DataW H → Nat
  | .lit (.string bytes) => bytes.length + 1
  | .lit _ => 1
  | .nil => 1
  | .ptr d => uptoBulk d + 1
  | .slice elems spare => uptoBulkAll elems + uptoBulkAll spare + 1
  | .agg parts => uptoBulkAll parts + 1
  | .iface _ d => uptoBulk d + 1
  | .map entries => uptoBulkEntries entries + 1
  | .held _ => 1
def uptoBulkAll {H : Type} : List (DataW H) → Nat
  | [] => 0
  | d :: r => uptoBulk d + uptoBulkAll r
def uptoBulkEntries {H : Type} : List (Lit × DataW H) → Nat
  | [] => 0
  | x :: r => uptoBulkEntry x + uptoBulkEntries r
def uptoBulkEntry {H : Type} : Lit × DataW H → Nat
  | (.string bytes, d) => bytes.length + uptoBulk d + 1
  | (_, d) => uptoBulk d + 1
 end
def uptoSmall : (H : Type) → List (DataW H) → Bool := fun _ ds => decide (uptoBulkAll ds ≤ 1048576)
def OpenSpec.upto (s : _root_.Go.ChangeSpec) : _root_.Go.OpenSpec := { _root_.Go.OpenSpec.ofChange s with cond := some uptoSmall }

/-- 'laws.FnExactCostOf', WHERE WHAT IT READS IS OF BULK AT MOST 1048576: true; the input reads as it did. -/
def fnExactCostOfUptoRow : OpenClaim := { program := "ytpbelbckinpinaa", sum := "e68f3a7430d050f3ece319b48b2ccd2b9faa0c733f4cd9d83d23b27b1495dd0c", func := "loop.example/g00253/laws.FnExactCostOf", spec := "fnExactCostOf", unfollowed := true, recurses := true, apart := false, narrowed := true }
def FnExactCostOfUptoSaid : Prop := fnExactCostOfUptoRow.holds Try.pinned (OpenSpec.upto fnExactCostOfSpec)

/-- 'laws.FnExactDiffOps', WHERE WHAT IT READS IS OF BULK AT MOST 1048576: true; the input reads as it did. -/
def fnExactDiffOpsUptoRow : OpenClaim := { program := "ytpbelbckinpinaa", sum := "e68f3a7430d050f3ece319b48b2ccd2b9faa0c733f4cd9d83d23b27b1495dd0c", func := "loop.example/g00253/laws.FnExactDiffOps", spec := "fnExactDiffOps", unfollowed := true, recurses := true, apart := false, narrowed := true }
def FnExactDiffOpsUptoSaid : Prop := fnExactDiffOpsUptoRow.holds Try.pinned (OpenSpec.upto fnExactDiffOpsSpec)

/-- 'laws.FnDiff', WHERE WHAT IT READS IS OF BULK AT MOST 1048576: true; the input reads as it did. -/
def fnDiffUptoRow : OpenClaim := { program := "ytpbelbckinpinaa", sum := "e68f3a7430d050f3ece319b48b2ccd2b9faa0c733f4cd9d83d23b27b1495dd0c", func := "loop.example/g00253/laws.FnDiff", spec := "fnDiff", unfollowed := true, recurses := true, apart := false, narrowed := true }
def FnDiffUptoSaid : Prop := fnDiffUptoRow.holds Try.pinned (OpenSpec.upto fnDiffSpec)

/-- 'laws.FnExactReplaceOp', WHERE WHAT IT READS IS OF BULK AT MOST 1048576: true; the input reads as it did. -/
def fnExactReplaceOpUptoRow : OpenClaim := { program := "ytpbelbckinpinaa", sum := "e68f3a7430d050f3ece319b48b2ccd2b9faa0c733f4cd9d83d23b27b1495dd0c", func := "loop.example/g00253/laws.FnExactReplaceOp", spec := "fnExactReplaceOp", unfollowed := true, recurses := true, apart := false, narrowed := true }
def FnExactReplaceOpUptoSaid : Prop := fnExactReplaceOpUptoRow.holds Try.pinned (OpenSpec.upto fnExactReplaceOpSpec)

/-- 'laws.FnReplaced', WHERE WHAT IT READS IS OF BULK AT MOST 1048576: true; the input reads as it did. -/
def fnReplacedUptoRow : OpenClaim := { program := "ytpbelbckinpinaa", sum := "e68f3a7430d050f3ece319b48b2ccd2b9faa0c733f4cd9d83d23b27b1495dd0c", func := "loop.example/g00253/laws.FnReplaced", spec := "fnReplaced", unfollowed := true, recurses := true, apart := false, narrowed := true }
def FnReplacedUptoSaid : Prop := fnReplacedUptoRow.holds Try.pinned (OpenSpec.upto fnReplacedSpec)

/-- 'laws.FnExactMergeThree', WHERE WHAT IT READS IS OF BULK AT MOST 1048576: true; the input reads as it did. -/
def fnExactMergeThreeUptoRow : OpenClaim := { program := "ytpbelbckinpinaa", sum := "e68f3a7430d050f3ece319b48b2ccd2b9faa0c733f4cd9d83d23b27b1495dd0c", func := "loop.example/g00253/laws.FnExactMergeThree", spec := "fnExactMergeThree", unfollowed := true, recurses := true, apart := false, narrowed := true }
def FnExactMergeThreeUptoSaid : Prop := fnExactMergeThreeUptoRow.holds Try.pinned (OpenSpec.upto fnExactMergeThreeSpec)

/-- 'laws.FnMarks', WHERE WHAT IT READS IS OF BULK AT MOST 1048576: true; the input reads as it did. -/
def fnMarksUptoRow : OpenClaim := { program := "ytpbelbckinpinaa", sum := "e68f3a7430d050f3ece319b48b2ccd2b9faa0c733f4cd9d83d23b27b1495dd0c", func := "loop.example/g00253/laws.FnMarks", spec := "fnMarks", inPlace := ["internal/bytealg.abigen_runtime_cmpstring"], unfollowed := true, recurses := true, apart := false, narrowed := true }
def FnMarksUptoSaid : Prop := fnMarksUptoRow.holds Try.pinned (OpenSpec.upto fnMarksSpec)

end Rows
end Go.Proofs.Ytpbelbckinpinaa
