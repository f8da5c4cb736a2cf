/-
  No cell of these rows narrows 'for every input' (looked for: loops, veiled, ifaces, maps, wideKeys, modest, calm, conditions, laid).
  DERIVED. THE GIVEN ROWS OF THIS SEAT. 8 by the template 'for every input the law returns true; each argument reads behind the call as it read before'; 0 by the template 'total and deterministic' (their statements: YtibedlbjkaikiaaTotals.lean).
  GIVEN WITH THE SEED: the statements are not yours to turn. If you find one false, say at which input.
  Laid BY PROGRAM, IN A SANDBOX (cutbox-rows.mjs): the forced cells as the released guide's own fill.sh prints them over the translation 6ff7533dfa8b8231… (all of the seat's roots in one cut). By AI agents, Wed Nov 11 2026. No macro, syntax, notation, axiom, sorry.
-/
import Derived.Test.YtibedlbjkaikiaaChecked
import GoSem.Claim
import GoSem.ClaimJoined
import GoSem.ClaimMapViews
import Derived.JoinedTies
import Derived.KernelRfl
namespace Go.Proofs.Ytibedlbjkaikiaa
/- THE CELL 'sum', in the pinned program and in every row, IS THE sha256 OF THE DUMP (.gsa) THAT YtibedlbjkaikiaaProg.lean LOADS. Nothing in Lean hashes anything: it is a label: what it is worth is what the hold of that sum in a sandbox is worth. -/
noncomputable def Try.pinned : Pinned := { name := "ytibedlbjkaikiaa", sum := "6ff7533dfa8b8231a53c6b79c777bf494bd6485e74f683cf32846726a7fc8aad", checked := Try.checked }
namespace Rows
def none {H : Type} : Left H := { results := [], args := [] }

/-- 'laws.FnExactStepsOf': WHATEVER THE INPUT: true; the input reads as it did. -/
def fnExactStepsOfSpec : ChangeSpec := { name := "fnExactStepsOf", fn := fun _ => fun
  | [d1, d2] => { results := [.lit (.bool true)], args := [d1, d2] }
  | _ => none }
def fnExactStepsOfRow : OpenClaim := { program := "ytibedlbjkaikiaa", sum := "6ff7533dfa8b8231a53c6b79c777bf494bd6485e74f683cf32846726a7fc8aad", func := "loop.example/g00253/laws.FnExactStepsOf", spec := "fnExactStepsOf", apart := false }
def FnExactStepsOfSaid : Prop := fnExactStepsOfRow.holds Try.pinned (OpenSpec.ofChange fnExactStepsOfSpec)

/-- ITS FALSE NEIGHBOUR: 'it returns false'. Refute it at one input. -/
def fnExactStepsOfWrong : ChangeSpec := { name := "fnExactStepsOf", fn := fun _ => fun
  | [d1, d2] => { results := [.lit (.bool false)], args := [d1, d2] }
  | _ => none }
def FnExactStepsOfWrongFalsely : Prop := fnExactStepsOfRow.holds Try.pinned (OpenSpec.ofChange fnExactStepsOfWrong)

/-- 'laws.FnExactFindAll': WHATEVER THE INPUT: true; the input reads as it did. -/
def fnExactFindAllSpec : ChangeSpec := { name := "fnExactFindAll", fn := fun _ => fun
  | [d1, d2] => { results := [.lit (.bool true)], args := [d1, d2] }
  | _ => none }
def fnExactFindAllRow : OpenClaim := { program := "ytibedlbjkaikiaa", sum := "6ff7533dfa8b8231a53c6b79c777bf494bd6485e74f683cf32846726a7fc8aad", func := "loop.example/g00253/laws.FnExactFindAll", spec := "fnExactFindAll", apart := false }
def FnExactFindAllSaid : Prop := fnExactFindAllRow.holds Try.pinned (OpenSpec.ofChange fnExactFindAllSpec)

/-- ITS FALSE NEIGHBOUR: 'it returns false'. Refute it at one input. -/
def fnExactFindAllWrong : ChangeSpec := { name := "fnExactFindAll", fn := fun _ => fun
  | [d1, d2] => { results := [.lit (.bool false)], args := [d1, d2] }
  | _ => none }
def FnExactFindAllWrongFalsely : Prop := fnExactFindAllRow.holds Try.pinned (OpenSpec.ofChange fnExactFindAllWrong)

/-- 'laws.FnBorders': WHATEVER THE INPUT: true; the input reads as it did. -/
def fnBordersSpec : ChangeSpec := { name := "fnBorders", fn := fun _ => fun
  | [d] => { results := [.lit (.bool true)], args := [d] }
  | _ => none }
def fnBordersRow : OpenClaim := { program := "ytibedlbjkaikiaa", sum := "6ff7533dfa8b8231a53c6b79c777bf494bd6485e74f683cf32846726a7fc8aad", func := "loop.example/g00253/laws.FnBorders", spec := "fnBorders", recurses := true, apart := false }
def FnBordersSaid : Prop := fnBordersRow.holds Try.pinned (OpenSpec.ofChange fnBordersSpec)

/-- ITS FALSE NEIGHBOUR: 'it returns false'. Refute it at one input. -/
def fnBordersWrong : ChangeSpec := { name := "fnBorders", fn := fun _ => fun
  | [d] => { results := [.lit (.bool false)], args := [d] }
  | _ => none }
def FnBordersWrongFalsely : Prop := fnBordersRow.holds Try.pinned (OpenSpec.ofChange fnBordersWrong)

/-- 'laws.FnFound': WHATEVER THE INPUT: true; the input reads as it did. -/
def fnFoundSpec : ChangeSpec := { name := "fnFound", fn := fun _ => fun
  | [d] => { results := [.lit (.bool true)], args := [d] }
  | _ => none }
def fnFoundRow : OpenClaim := { program := "ytibedlbjkaikiaa", sum := "6ff7533dfa8b8231a53c6b79c777bf494bd6485e74f683cf32846726a7fc8aad", func := "loop.example/g00253/laws.FnFound", spec := "fnFound", recurses := true, apart := false }
def FnFoundSaid : Prop := fnFoundRow.holds Try.pinned (OpenSpec.ofChange fnFoundSpec)

/-- ITS FALSE NEIGHBOUR: 'it returns false'. Refute it at one input. -/
def fnFoundWrong : ChangeSpec := { name := "fnFound", fn := fun _ => fun
  | [d] => { results := [.lit (.bool false)], args := [d] }
  | _ => none }
def FnFoundWrongFalsely : Prop := fnFoundRow.holds Try.pinned (OpenSpec.ofChange fnFoundWrong)

/-- 'laws.FnExactReplaceAll': WHATEVER THE INPUT: true; the input reads as it did. -/
def fnExactReplaceAllSpec : ChangeSpec := { name := "fnExactReplaceAll", fn := fun _ => fun
  | [d1, d2, d3] => { results := [.lit (.bool true)], args := [d1, d2, d3] }
  | _ => none }
def fnExactReplaceAllRow : OpenClaim := { program := "ytibedlbjkaikiaa", sum := "6ff7533dfa8b8231a53c6b79c777bf494bd6485e74f683cf32846726a7fc8aad", func := "loop.example/g00253/laws.FnExactReplaceAll", spec := "fnExactReplaceAll", apart := false }
def FnExactReplaceAllSaid : Prop := fnExactReplaceAllRow.holds Try.pinned (OpenSpec.ofChange fnExactReplaceAllSpec)

/-- ITS FALSE NEIGHBOUR: 'it returns false'. Refute it at one input. -/
def fnExactReplaceAllWrong : ChangeSpec := { name := "fnExactReplaceAll", fn := fun _ => fun
  | [d1, d2, d3] => { results := [.lit (.bool false)], args := [d1, d2, d3] }
  | _ => none }
def FnExactReplaceAllWrongFalsely : Prop := fnExactReplaceAllRow.holds Try.pinned (OpenSpec.ofChange fnExactReplaceAllWrong)

/-- 'laws.FnMetric': WHATEVER THE INPUT: true; the input reads as it did. -/
def fnMetricSpec : ChangeSpec := { name := "fnMetric", fn := fun _ => fun
  | [d1, d2] => { results := [.lit (.bool true)], args := [d1, d2] }
  | _ => none }
def fnMetricRow : OpenClaim := { program := "ytibedlbjkaikiaa", sum := "6ff7533dfa8b8231a53c6b79c777bf494bd6485e74f683cf32846726a7fc8aad", func := "loop.example/g00253/laws.FnMetric", spec := "fnMetric", recurses := true, apart := false }
def FnMetricSaid : Prop := fnMetricRow.holds Try.pinned (OpenSpec.ofChange fnMetricSpec)

/-- ITS FALSE NEIGHBOUR: 'it returns false'. Refute it at one input. -/
def fnMetricWrong : ChangeSpec := { name := "fnMetric", fn := fun _ => fun
  | [d1, d2] => { results := [.lit (.bool false)], args := [d1, d2] }
  | _ => none }
def FnMetricWrongFalsely : Prop := fnMetricRow.holds Try.pinned (OpenSpec.ofChange fnMetricWrong)

/-- 'laws.FnExactCommonOf': WHATEVER THE INPUT: true; the input reads as it did. -/
def fnExactCommonOfSpec : ChangeSpec := { name := "fnExactCommonOf", fn := fun _ => fun
  | [d1, d2] => { results := [.lit (.bool true)], args := [d1, d2] }
  | _ => none }
def fnExactCommonOfRow : OpenClaim := { program := "ytibedlbjkaikiaa", sum := "6ff7533dfa8b8231a53c6b79c777bf494bd6485e74f683cf32846726a7fc8aad", func := "loop.example/g00253/laws.FnExactCommonOf", spec := "fnExactCommonOf", apart := false }
def FnExactCommonOfSaid : Prop := fnExactCommonOfRow.holds Try.pinned (OpenSpec.ofChange fnExactCommonOfSpec)

/-- ITS FALSE NEIGHBOUR: 'it returns false'. Refute it at one input. -/
def fnExactCommonOfWrong : ChangeSpec := { name := "fnExactCommonOf", fn := fun _ => fun
  | [d1, d2] => { results := [.lit (.bool false)], args := [d1, d2] }
  | _ => none }
def FnExactCommonOfWrongFalsely : Prop := fnExactCommonOfRow.holds Try.pinned (OpenSpec.ofChange fnExactCommonOfWrong)

/-- 'laws.FnCommon': WHATEVER THE INPUT: true; the input reads as it did. -/
def fnCommonSpec : ChangeSpec := { name := "fnCommon", fn := fun _ => fun
  | [d] => { results := [.lit (.bool true)], args := [d] }
  | _ => none }
def fnCommonRow : OpenClaim := { program := "ytibedlbjkaikiaa", sum := "6ff7533dfa8b8231a53c6b79c777bf494bd6485e74f683cf32846726a7fc8aad", func := "loop.example/g00253/laws.FnCommon", spec := "fnCommon", recurses := true, apart := false }
def FnCommonSaid : Prop := fnCommonRow.holds Try.pinned (OpenSpec.ofChange fnCommonSpec)

/-- ITS FALSE NEIGHBOUR: 'it returns false'. Refute it at one input. -/
def fnCommonWrong : ChangeSpec := { name := "fnCommon", fn := fun _ => fun
  | [d] => { results := [.lit (.bool false)], args := [d] }
  | _ => none }
def FnCommonWrongFalsely : Prop := fnCommonRow.holds Try.pinned (OpenSpec.ofChange fnCommonWrong)

/- THE SECOND FORM. 'bulk': how many values and letters a reading holds, each counted each time it is reached (what is shared counts as often as it is met; a slice's spare places count too). A statement '..UptoSaid' is the law's where the arguments, and the package variables that the reading takes, are together of bulk at most 1048576: NARROWER than '..Said'. Prove '..Said' where nothing that the law and all that it calls make is longer than what came in: it says more and counts as full. Else prove '..UptoSaid'. A law counts once. -/
mutual
def uptoBulk {H : Type} : DataW H → Nat
  | .lit (.string bytes) => bytes.length + 1
  | .lit _ => 1
  | .nil => 1
  | .ptr d => uptoBulk d + 1
  | .slice elems spare => uptoBulkAll elems + uptoBulkAll spare + 1
  | .agg parts => uptoBulkAll parts + 1
  | .iface _ d => uptoBulk d + 1
  | .map entries => uptoBulkEntries entries + 1
  | .held _ => 1
def uptoBulkAll {H : Type} : List (DataW H) → Nat
  | [] => 0
  | d :: r => uptoBulk d + uptoBulkAll r
def uptoBulkEntries {H : Type} : List (Lit × DataW H) → Nat
  | [] => 0
  | x :: r => uptoBulkEntry x + uptoBulkEntries r
def uptoBulkEntry {H : Type} : Lit × DataW H → Nat
  | (.string bytes, d) => bytes.length + uptoBulk d + 1
  | (_, d) => uptoBulk d + 1
 end
def uptoSmall : (H : Type) → List (DataW H) → Bool := fun _ ds => decide (uptoBulkAll ds ≤ 1048576)
def OpenSpec.upto (s : _root_.Go.ChangeSpec) : _root_.Go.OpenSpec := { _root_.Go.OpenSpec.ofChange s with cond := some uptoSmall }

/-- 'laws.FnExactStepsOf', WHERE WHAT IT READS IS OF BULK AT MOST 1048576: true; the input reads as it did. -/
def fnExactStepsOfUptoRow : OpenClaim := { program := "ytibedlbjkaikiaa", sum := "6ff7533dfa8b8231a53c6b79c777bf494bd6485e74f683cf32846726a7fc8aad", func := "loop.example/g00253/laws.FnExactStepsOf", spec := "fnExactStepsOf", apart := false, narrowed := true }
def FnExactStepsOfUptoSaid : Prop := fnExactStepsOfUptoRow.holds Try.pinned (OpenSpec.upto fnExactStepsOfSpec)

/-- 'laws.FnExactFindAll', WHERE WHAT IT READS IS OF BULK AT MOST 1048576: true; the input reads as it did. -/
def fnExactFindAllUptoRow : OpenClaim := { program := "ytibedlbjkaikiaa", sum := "6ff7533dfa8b8231a53c6b79c777bf494bd6485e74f683cf32846726a7fc8aad", func := "loop.example/g00253/laws.FnExactFindAll", spec := "fnExactFindAll", apart := false, narrowed := true }
def FnExactFindAllUptoSaid : Prop := fnExactFindAllUptoRow.holds Try.pinned (OpenSpec.upto fnExactFindAllSpec)

/-- 'laws.FnBorders', WHERE WHAT IT READS IS OF BULK AT MOST 1048576: true; the input reads as it did. -/
def fnBordersUptoRow : OpenClaim := { program := "ytibedlbjkaikiaa", sum := "6ff7533dfa8b8231a53c6b79c777bf494bd6485e74f683cf32846726a7fc8aad", func := "loop.example/g00253/laws.FnBorders", spec := "fnBorders", recurses := true, apart := false, narrowed := true }
def FnBordersUptoSaid : Prop := fnBordersUptoRow.holds Try.pinned (OpenSpec.upto fnBordersSpec)

/-- 'laws.FnFound', WHERE WHAT IT READS IS OF BULK AT MOST 1048576: true; the input reads as it did. -/
def fnFoundUptoRow : OpenClaim := { program := "ytibedlbjkaikiaa", sum := "6ff7533dfa8b8231a53c6b79c777bf494bd6485e74f683cf32846726a7fc8aad", func := "loop.example/g00253/laws.FnFound", spec := "fnFound", recurses := true, apart := false, narrowed := true }
def FnFoundUptoSaid : Prop := fnFoundUptoRow.holds Try.pinned (OpenSpec.upto fnFoundSpec)

/-- 'laws.FnExactReplaceAll', WHERE WHAT IT READS IS OF BULK AT MOST 1048576: true; the input reads as it did. -/
def fnExactReplaceAllUptoRow : OpenClaim := { program := "ytibedlbjkaikiaa", sum := "6ff7533dfa8b8231a53c6b79c777bf494bd6485e74f683cf32846726a7fc8aad", func := "loop.example/g00253/laws.FnExactReplaceAll", spec := "fnExactReplaceAll", apart := false, narrowed := true }
def FnExactReplaceAllUptoSaid : Prop := fnExactReplaceAllUptoRow.holds Try.pinned (OpenSpec.upto fnExactReplaceAllSpec)

/-- 'laws.FnMetric', WHERE WHAT IT READS IS OF BULK AT MOST 1048576: true; the input reads as it did. -/
def fnMetricUptoRow : OpenClaim := { program := "ytibedlbjkaikiaa", sum := "6ff7533dfa8b8231a53c6b79c777bf494bd6485e74f683cf32846726a7fc8aad", func := "loop.example/g00253/laws.FnMetric", spec := "fnMetric", recurses := true, apart := false, narrowed := true }
def FnMetricUptoSaid : Prop := fnMetricUptoRow.holds Try.pinned (OpenSpec.upto fnMetricSpec)

/-- 'laws.FnExactCommonOf', WHERE WHAT IT READS IS OF BULK AT MOST 1048576: true; the input reads as it did. -/
def fnExactCommonOfUptoRow : OpenClaim := { program := "ytibedlbjkaikiaa", sum := "6ff7533dfa8b8231a53c6b79c777bf494bd6485e74f683cf32846726a7fc8aad", func := "loop.example/g00253/laws.FnExactCommonOf", spec := "fnExactCommonOf", apart := false, narrowed := true }
def FnExactCommonOfUptoSaid : Prop := fnExactCommonOfUptoRow.holds Try.pinned (OpenSpec.upto fnExactCommonOfSpec)

/-- 'laws.FnCommon', WHERE WHAT IT READS IS OF BULK AT MOST 1048576: true; the input reads as it did. -/
def fnCommonUptoRow : OpenClaim := { program := "ytibedlbjkaikiaa", sum := "6ff7533dfa8b8231a53c6b79c777bf494bd6485e74f683cf32846726a7fc8aad", func := "loop.example/g00253/laws.FnCommon", spec := "fnCommon", recurses := true, apart := false, narrowed := true }
def FnCommonUptoSaid : Prop := fnCommonUptoRow.holds Try.pinned (OpenSpec.upto fnCommonSpec)

end Rows
end Go.Proofs.Ytibedlbjkaikiaa
