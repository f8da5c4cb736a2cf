/-
  No cell of these rows narrows 'for every input' (looked for: loops, veiled, ifaces, maps, wideKeys, modest, calm, conditions, laid).
  DERIVED. THE GIVEN ROWS OF THIS SEAT. 11 by the template 'for every input the law returns true; each argument reads behind the call as it read before'; 0 by the template 'total and deterministic' (their statements: YtmkenlejdaphnaaTotals.lean).
  GIVEN WITH THE SEED: the statements are not yours to turn. If you find one false, say at which input.
  Laid BY PROGRAM, IN A SANDBOX (cutbox-rows.mjs): the forced cells as the released guide's own fill.sh prints them over the translation c7da2cf41c57a899… (all of the seat's roots in one cut). By AI agents, Wed Nov 11 2026. No macro, syntax, notation, axiom, sorry.
-/
import Derived.Test.YtmkenlejdaphnaaChecked
import GoSem.Claim
import GoSem.ClaimJoined
import GoSem.ClaimMapViews
import Derived.JoinedTies
import Derived.KernelRfl
namespace Go.Proofs.Ytmkenlejdaphnaa
/- THE CELL 'sum', in the pinned program and in every row, IS THE sha256 OF THE DUMP (.gsa) THAT YtmkenlejdaphnaaProg.lean LOADS. Nothing in Lean hashes anything: it is a label: what it is worth is what the hold of that sum in a sandbox is worth. -/
noncomputable def Try.pinned : Pinned := { name := "ytmkenlejdaphnaa", sum := "c7da2cf41c57a899e6076fef4657d082e4223c3ad18d359f8e63781313a9368e", checked := Try.checked }
namespace Rows
def none {H : Type} : Left H := { results := [], args := [] }

/-- 'laws.FnExactGoodRope': WHATEVER THE INPUT: true; the input reads as it did. -/
def fnExactGoodRopeSpec : ChangeSpec := { name := "fnExactGoodRope", fn := fun _ => fun
  | [d] => { results := [.lit (.bool true)], args := [d] }
  | _ => none }
def fnExactGoodRopeRow : OpenClaim := { program := "ytmkenlejdaphnaa", sum := "c7da2cf41c57a899e6076fef4657d082e4223c3ad18d359f8e63781313a9368e", func := "loop.example/g00253/laws.FnExactGoodRope", spec := "fnExactGoodRope", recurses := true, apart := false }
def FnExactGoodRopeSaid : Prop := fnExactGoodRopeRow.holds Try.pinned (OpenSpec.ofChange fnExactGoodRopeSpec)

/-- ITS FALSE NEIGHBOUR: 'it returns false'. Refute it at one input. -/
def fnExactGoodRopeWrong : ChangeSpec := { name := "fnExactGoodRope", fn := fun _ => fun
  | [d] => { results := [.lit (.bool false)], args := [d] }
  | _ => none }
def FnExactGoodRopeWrongFalsely : Prop := fnExactGoodRopeRow.holds Try.pinned (OpenSpec.ofChange fnExactGoodRopeWrong)

/-- 'laws.FnExactByteAt': WHATEVER THE INPUT: true; the input reads as it did. -/
def fnExactByteAtSpec : ChangeSpec := { name := "fnExactByteAt", fn := fun _ => fun
  | [d1, d2] => { results := [.lit (.bool true)], args := [d1, d2] }
  | _ => none }
def fnExactByteAtRow : OpenClaim := { program := "ytmkenlejdaphnaa", sum := "c7da2cf41c57a899e6076fef4657d082e4223c3ad18d359f8e63781313a9368e", func := "loop.example/g00253/laws.FnExactByteAt", spec := "fnExactByteAt", recurses := true, apart := false }
def FnExactByteAtSaid : Prop := fnExactByteAtRow.holds Try.pinned (OpenSpec.ofChange fnExactByteAtSpec)

/-- ITS FALSE NEIGHBOUR: 'it returns false'. Refute it at one input. -/
def fnExactByteAtWrong : ChangeSpec := { name := "fnExactByteAt", fn := fun _ => fun
  | [d1, d2] => { results := [.lit (.bool false)], args := [d1, d2] }
  | _ => none }
def FnExactByteAtWrongFalsely : Prop := fnExactByteAtRow.holds Try.pinned (OpenSpec.ofChange fnExactByteAtWrong)

/-- 'laws.FnExactIsBalanced': WHATEVER THE INPUT: true; the input reads as it did. -/
def fnExactIsBalancedSpec : ChangeSpec := { name := "fnExactIsBalanced", fn := fun _ => fun
  | [d] => { results := [.lit (.bool true)], args := [d] }
  | _ => none }
def fnExactIsBalancedRow : OpenClaim := { program := "ytmkenlejdaphnaa", sum := "c7da2cf41c57a899e6076fef4657d082e4223c3ad18d359f8e63781313a9368e", func := "loop.example/g00253/laws.FnExactIsBalanced", spec := "fnExactIsBalanced", recurses := true, apart := false }
def FnExactIsBalancedSaid : Prop := fnExactIsBalancedRow.holds Try.pinned (OpenSpec.ofChange fnExactIsBalancedSpec)

/-- ITS FALSE NEIGHBOUR: 'it returns false'. Refute it at one input. -/
def fnExactIsBalancedWrong : ChangeSpec := { name := "fnExactIsBalanced", fn := fun _ => fun
  | [d] => { results := [.lit (.bool false)], args := [d] }
  | _ => none }
def FnExactIsBalancedWrongFalsely : Prop := fnExactIsBalancedRow.holds Try.pinned (OpenSpec.ofChange fnExactIsBalancedWrong)

/-- 'laws.FnExactTextIn': WHATEVER THE INPUT: true; the input reads as it did. -/
def fnExactTextInSpec : ChangeSpec := { name := "fnExactTextIn", fn := fun _ => fun
  | [d] => { results := [.lit (.bool true)], args := [d] }
  | _ => none }
def fnExactTextInRow : OpenClaim := { program := "ytmkenlejdaphnaa", sum := "c7da2cf41c57a899e6076fef4657d082e4223c3ad18d359f8e63781313a9368e", func := "loop.example/g00253/laws.FnExactTextIn", spec := "fnExactTextIn", recurses := true, apart := false }
def FnExactTextInSaid : Prop := fnExactTextInRow.holds Try.pinned (OpenSpec.ofChange fnExactTextInSpec)

/-- ITS FALSE NEIGHBOUR: 'it returns false'. Refute it at one input. -/
def fnExactTextInWrong : ChangeSpec := { name := "fnExactTextIn", fn := fun _ => fun
  | [d] => { results := [.lit (.bool false)], args := [d] }
  | _ => none }
def FnExactTextInWrongFalsely : Prop := fnExactTextInRow.holds Try.pinned (OpenSpec.ofChange fnExactTextInWrong)

/-- 'laws.FnExactRopeOf': WHATEVER THE INPUT: true; the input reads as it did. -/
def fnExactRopeOfSpec : ChangeSpec := { name := "fnExactRopeOf", fn := fun _ => fun
  | [d] => { results := [.lit (.bool true)], args := [d] }
  | _ => none }
def fnExactRopeOfRow : OpenClaim := { program := "ytmkenlejdaphnaa", sum := "c7da2cf41c57a899e6076fef4657d082e4223c3ad18d359f8e63781313a9368e", func := "loop.example/g00253/laws.FnExactRopeOf", spec := "fnExactRopeOf", recurses := true, apart := false }
def FnExactRopeOfSaid : Prop := fnExactRopeOfRow.holds Try.pinned (OpenSpec.ofChange fnExactRopeOfSpec)

/-- ITS FALSE NEIGHBOUR: 'it returns false'. Refute it at one input. -/
def fnExactRopeOfWrong : ChangeSpec := { name := "fnExactRopeOf", fn := fun _ => fun
  | [d] => { results := [.lit (.bool false)], args := [d] }
  | _ => none }
def FnExactRopeOfWrongFalsely : Prop := fnExactRopeOfRow.holds Try.pinned (OpenSpec.ofChange fnExactRopeOfWrong)

/-- 'laws.FnExactPiecesOf': WHATEVER THE INPUT: true; the input reads as it did. -/
def fnExactPiecesOfSpec : ChangeSpec := { name := "fnExactPiecesOf", fn := fun _ => fun
  | [d] => { results := [.lit (.bool true)], args := [d] }
  | _ => none }
def fnExactPiecesOfRow : OpenClaim := { program := "ytmkenlejdaphnaa", sum := "c7da2cf41c57a899e6076fef4657d082e4223c3ad18d359f8e63781313a9368e", func := "loop.example/g00253/laws.FnExactPiecesOf", spec := "fnExactPiecesOf", recurses := true, apart := false }
def FnExactPiecesOfSaid : Prop := fnExactPiecesOfRow.holds Try.pinned (OpenSpec.ofChange fnExactPiecesOfSpec)

/-- ITS FALSE NEIGHBOUR: 'it returns false'. Refute it at one input. -/
def fnExactPiecesOfWrong : ChangeSpec := { name := "fnExactPiecesOf", fn := fun _ => fun
  | [d] => { results := [.lit (.bool false)], args := [d] }
  | _ => none }
def FnExactPiecesOfWrongFalsely : Prop := fnExactPiecesOfRow.holds Try.pinned (OpenSpec.ofChange fnExactPiecesOfWrong)

/-- 'laws.FnExactJoinRopes': WHATEVER THE INPUT: true; the input reads as it did. -/
def fnExactJoinRopesSpec : ChangeSpec := { name := "fnExactJoinRopes", fn := fun _ => fun
  | [d1, d2] => { results := [.lit (.bool true)], args := [d1, d2] }
  | _ => none }
def fnExactJoinRopesRow : OpenClaim := { program := "ytmkenlejdaphnaa", sum := "c7da2cf41c57a899e6076fef4657d082e4223c3ad18d359f8e63781313a9368e", func := "loop.example/g00253/laws.FnExactJoinRopes", spec := "fnExactJoinRopes", recurses := true, apart := false }
def FnExactJoinRopesSaid : Prop := fnExactJoinRopesRow.holds Try.pinned (OpenSpec.ofChange fnExactJoinRopesSpec)

/-- ITS FALSE NEIGHBOUR: 'it returns false'. Refute it at one input. -/
def fnExactJoinRopesWrong : ChangeSpec := { name := "fnExactJoinRopes", fn := fun _ => fun
  | [d1, d2] => { results := [.lit (.bool false)], args := [d1, d2] }
  | _ => none }
def FnExactJoinRopesWrongFalsely : Prop := fnExactJoinRopesRow.holds Try.pinned (OpenSpec.ofChange fnExactJoinRopesWrong)

/-- 'laws.FnExactRebalance': WHATEVER THE INPUT: true; the input reads as it did. -/
def fnExactRebalanceSpec : ChangeSpec := { name := "fnExactRebalance", fn := fun _ => fun
  | [d] => { results := [.lit (.bool true)], args := [d] }
  | _ => none }
def fnExactRebalanceRow : OpenClaim := { program := "ytmkenlejdaphnaa", sum := "c7da2cf41c57a899e6076fef4657d082e4223c3ad18d359f8e63781313a9368e", func := "loop.example/g00253/laws.FnExactRebalance", spec := "fnExactRebalance", recurses := true, apart := false }
def FnExactRebalanceSaid : Prop := fnExactRebalanceRow.holds Try.pinned (OpenSpec.ofChange fnExactRebalanceSpec)

/-- ITS FALSE NEIGHBOUR: 'it returns false'. Refute it at one input. -/
def fnExactRebalanceWrong : ChangeSpec := { name := "fnExactRebalance", fn := fun _ => fun
  | [d] => { results := [.lit (.bool false)], args := [d] }
  | _ => none }
def FnExactRebalanceWrongFalsely : Prop := fnExactRebalanceRow.holds Try.pinned (OpenSpec.ofChange fnExactRebalanceWrong)

/-- 'laws.FnExactSplitRope': WHATEVER THE INPUT: true; the input reads as it did. -/
def fnExactSplitRopeSpec : ChangeSpec := { name := "fnExactSplitRope", fn := fun _ => fun
  | [d1, d2] => { results := [.lit (.bool true)], args := [d1, d2] }
  | _ => none }
def fnExactSplitRopeRow : OpenClaim := { program := "ytmkenlejdaphnaa", sum := "c7da2cf41c57a899e6076fef4657d082e4223c3ad18d359f8e63781313a9368e", func := "loop.example/g00253/laws.FnExactSplitRope", spec := "fnExactSplitRope", recurses := true, apart := false }
def FnExactSplitRopeSaid : Prop := fnExactSplitRopeRow.holds Try.pinned (OpenSpec.ofChange fnExactSplitRopeSpec)

/-- ITS FALSE NEIGHBOUR: 'it returns false'. Refute it at one input. -/
def fnExactSplitRopeWrong : ChangeSpec := { name := "fnExactSplitRope", fn := fun _ => fun
  | [d1, d2] => { results := [.lit (.bool false)], args := [d1, d2] }
  | _ => none }
def FnExactSplitRopeWrongFalsely : Prop := fnExactSplitRopeRow.holds Try.pinned (OpenSpec.ofChange fnExactSplitRopeWrong)

/-- 'laws.FnRopes': WHATEVER THE INPUT: true; the input reads as it did. -/
def fnRopesSpec : ChangeSpec := { name := "fnRopes", fn := fun _ => fun
  | [d1, d2] => { results := [.lit (.bool true)], args := [d1, d2] }
  | _ => none }
def fnRopesRow : OpenClaim := { program := "ytmkenlejdaphnaa", sum := "c7da2cf41c57a899e6076fef4657d082e4223c3ad18d359f8e63781313a9368e", func := "loop.example/g00253/laws.FnRopes", spec := "fnRopes", recurses := true, apart := false }
def FnRopesSaid : Prop := fnRopesRow.holds Try.pinned (OpenSpec.ofChange fnRopesSpec)

/-- ITS FALSE NEIGHBOUR: 'it returns false'. Refute it at one input. -/
def fnRopesWrong : ChangeSpec := { name := "fnRopes", fn := fun _ => fun
  | [d1, d2] => { results := [.lit (.bool false)], args := [d1, d2] }
  | _ => none }
def FnRopesWrongFalsely : Prop := fnRopesRow.holds Try.pinned (OpenSpec.ofChange fnRopesWrong)

/-- 'laws.FnBalanced': WHATEVER THE INPUT: true; the input reads as it did. -/
def fnBalancedSpec : ChangeSpec := { name := "fnBalanced", fn := fun _ => fun
  | [d] => { results := [.lit (.bool true)], args := [d] }
  | _ => none }
def fnBalancedRow : OpenClaim := { program := "ytmkenlejdaphnaa", sum := "c7da2cf41c57a899e6076fef4657d082e4223c3ad18d359f8e63781313a9368e", func := "loop.example/g00253/laws.FnBalanced", spec := "fnBalanced", recurses := true, apart := false }
def FnBalancedSaid : Prop := fnBalancedRow.holds Try.pinned (OpenSpec.ofChange fnBalancedSpec)

/-- ITS FALSE NEIGHBOUR: 'it returns false'. Refute it at one input. -/
def fnBalancedWrong : ChangeSpec := { name := "fnBalanced", fn := fun _ => fun
  | [d] => { results := [.lit (.bool false)], args := [d] }
  | _ => none }
def FnBalancedWrongFalsely : Prop := fnBalancedRow.holds Try.pinned (OpenSpec.ofChange fnBalancedWrong)

/- THE SECOND FORM. 'bulk': how many values and letters a reading holds, each counted each time it is reached (what is shared counts as often as it is met; a slice's spare places count too). A statement '..UptoSaid' is the law's where the arguments, and the package variables that the reading takes, are together of bulk at most 1048576: NARROWER than '..Said'. Prove '..Said' where nothing that the law and all that it calls make is longer than what came in: it says more and counts as full. Else prove '..UptoSaid'. A law counts once. -/
mutual
def uptoBulk {H : Type} : DataW H → Nat
  | .lit (.string bytes) => bytes.length + 1
  | .lit _ => 1
  | .nil => 1
  | .ptr d => uptoBulk d + 1
  | .slice elems spare => uptoBulkAll elems + uptoBulkAll spare + 1
  | .agg parts => uptoBulkAll parts + 1
  | .iface _ d => uptoBulk d + 1
  | .map entries => uptoBulkEntries entries + 1
  | .held _ => 1
def uptoBulkAll {H : Type} : List (DataW H) → Nat
  | [] => 0
  | d :: r => uptoBulk d + uptoBulkAll r
def uptoBulkEntries {H : Type} : List (Lit × DataW H) → Nat
  | [] => 0
  | x :: r => uptoBulkEntry x + uptoBulkEntries r
def uptoBulkEntry {H : Type} : Lit × DataW H → Nat
  | (.string bytes, d) => bytes.length + uptoBulk d + 1
  | (_, d) => uptoBulk d + 1
 end
def uptoSmall : (H : Type) → List (DataW H) → Bool := fun _ ds => decide (uptoBulkAll ds ≤ 1048576)
def OpenSpec.upto (s : _root_.Go.ChangeSpec) : _root_.Go.OpenSpec := { _root_.Go.OpenSpec.ofChange s with cond := some uptoSmall }

/-- 'laws.FnExactGoodRope', WHERE WHAT IT READS IS OF BULK AT MOST 1048576: true; the input reads as it did. -/
def fnExactGoodRopeUptoRow : OpenClaim := { program := "ytmkenlejdaphnaa", sum := "c7da2cf41c57a899e6076fef4657d082e4223c3ad18d359f8e63781313a9368e", func := "loop.example/g00253/laws.FnExactGoodRope", spec := "fnExactGoodRope", recurses := true, apart := false, narrowed := true }
def FnExactGoodRopeUptoSaid : Prop := fnExactGoodRopeUptoRow.holds Try.pinned (OpenSpec.upto fnExactGoodRopeSpec)

/-- 'laws.FnExactByteAt', WHERE WHAT IT READS IS OF BULK AT MOST 1048576: true; the input reads as it did. -/
def fnExactByteAtUptoRow : OpenClaim := { program := "ytmkenlejdaphnaa", sum := "c7da2cf41c57a899e6076fef4657d082e4223c3ad18d359f8e63781313a9368e", func := "loop.example/g00253/laws.FnExactByteAt", spec := "fnExactByteAt", recurses := true, apart := false, narrowed := true }
def FnExactByteAtUptoSaid : Prop := fnExactByteAtUptoRow.holds Try.pinned (OpenSpec.upto fnExactByteAtSpec)

/-- 'laws.FnExactIsBalanced', WHERE WHAT IT READS IS OF BULK AT MOST 1048576: true; the input reads as it did. -/
def fnExactIsBalancedUptoRow : OpenClaim := { program := "ytmkenlejdaphnaa", sum := "c7da2cf41c57a899e6076fef4657d082e4223c3ad18d359f8e63781313a9368e", func := "loop.example/g00253/laws.FnExactIsBalanced", spec := "fnExactIsBalanced", recurses := true, apart := false, narrowed := true }
def FnExactIsBalancedUptoSaid : Prop := fnExactIsBalancedUptoRow.holds Try.pinned (OpenSpec.upto fnExactIsBalancedSpec)

/-- 'laws.FnExactTextIn', WHERE WHAT IT READS IS OF BULK AT MOST 1048576: true; the input reads as it did. -/
def fnExactTextInUptoRow : OpenClaim := { program := "ytmkenlejdaphnaa", sum := "c7da2cf41c57a899e6076fef4657d082e4223c3ad18d359f8e63781313a9368e", func := "loop.example/g00253/laws.FnExactTextIn", spec := "fnExactTextIn", recurses := true, apart := false, narrowed := true }
def FnExactTextInUptoSaid : Prop := fnExactTextInUptoRow.holds Try.pinned (OpenSpec.upto fnExactTextInSpec)

/-- 'laws.FnExactRopeOf', WHERE WHAT IT READS IS OF BULK AT MOST 1048576: true; the input reads as it did. -/
def fnExactRopeOfUptoRow : OpenClaim := { program := "ytmkenlejdaphnaa", sum := "c7da2cf41c57a899e6076fef4657d082e4223c3ad18d359f8e63781313a9368e", func := "loop.example/g00253/laws.FnExactRopeOf", spec := "fnExactRopeOf", recurses := true, apart := false, narrowed := true }
def FnExactRopeOfUptoSaid : Prop := fnExactRopeOfUptoRow.holds Try.pinned (OpenSpec.upto fnExactRopeOfSpec)

/-- 'laws.FnExactPiecesOf', WHERE WHAT IT READS IS OF BULK AT MOST 1048576: true; the input reads as it did. -/
def fnExactPiecesOfUptoRow : OpenClaim := { program := "ytmkenlejdaphnaa", sum := "c7da2cf41c57a899e6076fef4657d082e4223c3ad18d359f8e63781313a9368e", func := "loop.example/g00253/laws.FnExactPiecesOf", spec := "fnExactPiecesOf", recurses := true, apart := false, narrowed := true }
def FnExactPiecesOfUptoSaid : Prop := fnExactPiecesOfUptoRow.holds Try.pinned (OpenSpec.upto fnExactPiecesOfSpec)

/-- 'laws.FnExactJoinRopes', WHERE WHAT IT READS IS OF BULK AT MOST 1048576: true; the input reads as it did. -/
def fnExactJoinRopesUptoRow : OpenClaim := { program := "ytmkenlejdaphnaa", sum := "c7da2cf41c57a899e6076fef4657d082e4223c3ad18d359f8e63781313a9368e", func := "loop.example/g00253/laws.FnExactJoinRopes", spec := "fnExactJoinRopes", recurses := true, apart := false, narrowed := true }
def FnExactJoinRopesUptoSaid : Prop := fnExactJoinRopesUptoRow.holds Try.pinned (OpenSpec.upto fnExactJoinRopesSpec)

/-- 'laws.FnExactRebalance', WHERE WHAT IT READS IS OF BULK AT MOST 1048576: true; the input reads as it did. -/
def fnExactRebalanceUptoRow : OpenClaim := { program := "ytmkenlejdaphnaa", sum := "c7da2cf41c57a899e6076fef4657d082e4223c3ad18d359f8e63781313a9368e", func := "loop.example/g00253/laws.FnExactRebalance", spec := "fnExactRebalance", recurses := true, apart := false, narrowed := true }
def FnExactRebalanceUptoSaid : Prop := fnExactRebalanceUptoRow.holds Try.pinned (OpenSpec.upto fnExactRebalanceSpec)

/-- 'laws.FnExactSplitRope', WHERE WHAT IT READS IS OF BULK AT MOST 1048576: true; the input reads as it did. -/
def fnExactSplitRopeUptoRow : OpenClaim := { program := "ytmkenlejdaphnaa", sum := "c7da2cf41c57a899e6076fef4657d082e4223c3ad18d359f8e63781313a9368e", func := "loop.example/g00253/laws.FnExactSplitRope", spec := "fnExactSplitRope", recurses := true, apart := false, narrowed := true }
def FnExactSplitRopeUptoSaid : Prop := fnExactSplitRopeUptoRow.holds Try.pinned (OpenSpec.upto fnExactSplitRopeSpec)

/-- 'laws.FnRopes', WHERE WHAT IT READS IS OF BULK AT MOST 1048576: true; the input reads as it did. -/
def fnRopesUptoRow : OpenClaim := { program := "ytmkenlejdaphnaa", sum := "c7da2cf41c57a899e6076fef4657d082e4223c3ad18d359f8e63781313a9368e", func := "loop.example/g00253/laws.FnRopes", spec := "fnRopes", recurses := true, apart := false, narrowed := true }
def FnRopesUptoSaid : Prop := fnRopesUptoRow.holds Try.pinned (OpenSpec.upto fnRopesSpec)

/-- 'laws.FnBalanced', WHERE WHAT IT READS IS OF BULK AT MOST 1048576: true; the input reads as it did. -/
def fnBalancedUptoRow : OpenClaim := { program := "ytmkenlejdaphnaa", sum := "c7da2cf41c57a899e6076fef4657d082e4223c3ad18d359f8e63781313a9368e", func := "loop.example/g00253/laws.FnBalanced", spec := "fnBalanced", recurses := true, apart := false, narrowed := true }
def FnBalancedUptoSaid : Prop := fnBalancedUptoRow.holds Try.pinned (OpenSpec.upto fnBalancedSpec)

end Rows
end Go.Proofs.Ytmkenlejdaphnaa
