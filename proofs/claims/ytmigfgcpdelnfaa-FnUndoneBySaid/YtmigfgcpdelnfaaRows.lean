/-
  No cell of these rows narrows 'for every input' (looked for: loops, veiled, ifaces, maps, wideKeys, modest, calm, conditions, laid).
  DERIVED. THE GIVEN ROWS OF THIS SEAT. 6 by the template 'for every input the law returns true; each argument reads behind the call as it read before'; 0 by the template 'total and deterministic' (their statements: YtmigfgcpdelnfaaTotals.lean).
  GIVEN WITH THE SEED: the statements are not yours to turn. If you find one false, say at which input.
  Laid BY PROGRAM, IN A SANDBOX (cutbox-rows.mjs): the forced cells as the released guide's own fill.sh prints them over the translation ce0f064dc6d5b4d9… (all of the seat's roots in one cut). By AI agents, Wed Nov 11 2026. No macro, syntax, notation, axiom, sorry.
-/
import Derived.Test.YtmigfgcpdelnfaaChecked
import GoSem.Claim
import GoSem.ClaimJoined
import GoSem.ClaimMapViews
import Derived.JoinedTies
import Derived.KernelRfl
namespace Go.Proofs.Ytmigfgcpdelnfaa
/- THE CELL 'sum', in the pinned program and in every row, IS THE sha256 OF THE DUMP (.gsa) THAT YtmigfgcpdelnfaaProg.lean LOADS. Nothing in Lean hashes anything: it is a label: what it is worth is what the hold of that sum in a sandbox is worth. -/
noncomputable def Try.pinned : Pinned := { name := "ytmigfgcpdelnfaa", sum := "ce0f064dc6d5b4d97aa050e63d5991aa2d20c78e1bafe8c57632b29129662820", checked := Try.checked }
namespace Rows
def none {H : Type} : Left H := { results := [], args := [] }

/-- 'laws.FnExactRowOf': WHATEVER THE INPUT: true; the input reads as it did. -/
def fnExactRowOfSpec : ChangeSpec := { name := "fnExactRowOf", fn := fun _ => fun
  | [d1, d2] => { results := [.lit (.bool true)], args := [d1, d2] }
  | _ => none }
def fnExactRowOfRow : OpenClaim := { program := "ytmigfgcpdelnfaa", sum := "ce0f064dc6d5b4d97aa050e63d5991aa2d20c78e1bafe8c57632b29129662820", func := "loop.example/g00253/laws.FnExactRowOf", spec := "fnExactRowOf", apart := false }
def FnExactRowOfSaid : Prop := fnExactRowOfRow.holds Try.pinned (OpenSpec.ofChange fnExactRowOfSpec)

/-- ITS FALSE NEIGHBOUR: 'it returns false'. Refute it at one input. -/
def fnExactRowOfWrong : ChangeSpec := { name := "fnExactRowOf", fn := fun _ => fun
  | [d1, d2] => { results := [.lit (.bool false)], args := [d1, d2] }
  | _ => none }
def FnExactRowOfWrongFalsely : Prop := fnExactRowOfRow.holds Try.pinned (OpenSpec.ofChange fnExactRowOfWrong)

/-- 'laws.FnExactDoCommand': WHATEVER THE INPUT: true; the input reads as it did. -/
def fnExactDoCommandSpec : ChangeSpec := { name := "fnExactDoCommand", fn := fun _ => fun
  | [d1, d2] => { results := [.lit (.bool true)], args := [d1, d2] }
  | _ => none }
def fnExactDoCommandRow : OpenClaim := { program := "ytmigfgcpdelnfaa", sum := "ce0f064dc6d5b4d97aa050e63d5991aa2d20c78e1bafe8c57632b29129662820", func := "loop.example/g00253/laws.FnExactDoCommand", spec := "fnExactDoCommand", apart := false }
def FnExactDoCommandSaid : Prop := fnExactDoCommandRow.holds Try.pinned (OpenSpec.ofChange fnExactDoCommandSpec)

/-- ITS FALSE NEIGHBOUR: 'it returns false'. Refute it at one input. -/
def fnExactDoCommandWrong : ChangeSpec := { name := "fnExactDoCommand", fn := fun _ => fun
  | [d1, d2] => { results := [.lit (.bool false)], args := [d1, d2] }
  | _ => none }
def FnExactDoCommandWrongFalsely : Prop := fnExactDoCommandRow.holds Try.pinned (OpenSpec.ofChange fnExactDoCommandWrong)

/-- 'laws.FnExactReachOf': WHATEVER THE INPUT: true; the input reads as it did. -/
def fnExactReachOfSpec : ChangeSpec := { name := "fnExactReachOf", fn := fun _ => fun
  | [d1, d2] => { results := [.lit (.bool true)], args := [d1, d2] }
  | _ => none }
def fnExactReachOfRow : OpenClaim := { program := "ytmigfgcpdelnfaa", sum := "ce0f064dc6d5b4d97aa050e63d5991aa2d20c78e1bafe8c57632b29129662820", func := "loop.example/g00253/laws.FnExactReachOf", spec := "fnExactReachOf", apart := false }
def FnExactReachOfSaid : Prop := fnExactReachOfRow.holds Try.pinned (OpenSpec.ofChange fnExactReachOfSpec)

/-- ITS FALSE NEIGHBOUR: 'it returns false'. Refute it at one input. -/
def fnExactReachOfWrong : ChangeSpec := { name := "fnExactReachOf", fn := fun _ => fun
  | [d1, d2] => { results := [.lit (.bool false)], args := [d1, d2] }
  | _ => none }
def FnExactReachOfWrongFalsely : Prop := fnExactReachOfRow.holds Try.pinned (OpenSpec.ofChange fnExactReachOfWrong)

/-- 'laws.FnUndoneBy': WHATEVER THE INPUT: true; the input reads as it did. -/
def fnUndoneBySpec : ChangeSpec := { name := "fnUndoneBy", fn := fun _ => fun
  | [d] => { results := [.lit (.bool true)], args := [d] }
  | _ => none }
def fnUndoneByRow : OpenClaim := { program := "ytmigfgcpdelnfaa", sum := "ce0f064dc6d5b4d97aa050e63d5991aa2d20c78e1bafe8c57632b29129662820", func := "loop.example/g00253/laws.FnUndoneBy", spec := "fnUndoneBy", recurses := true, apart := false }
def FnUndoneBySaid : Prop := fnUndoneByRow.holds Try.pinned (OpenSpec.ofChange fnUndoneBySpec)

/-- ITS FALSE NEIGHBOUR: 'it returns false'. Refute it at one input. -/
def fnUndoneByWrong : ChangeSpec := { name := "fnUndoneBy", fn := fun _ => fun
  | [d] => { results := [.lit (.bool false)], args := [d] }
  | _ => none }
def FnUndoneByWrongFalsely : Prop := fnUndoneByRow.holds Try.pinned (OpenSpec.ofChange fnUndoneByWrong)

/-- 'laws.FnExactCompileCommand': WHATEVER THE INPUT: true; the input reads as it did. -/
def fnExactCompileCommandSpec : ChangeSpec := { name := "fnExactCompileCommand", fn := fun _ => fun
  | [d1, d2] => { results := [.lit (.bool true)], args := [d1, d2] }
  | _ => none }
def fnExactCompileCommandRow : OpenClaim := { program := "ytmigfgcpdelnfaa", sum := "ce0f064dc6d5b4d97aa050e63d5991aa2d20c78e1bafe8c57632b29129662820", func := "loop.example/g00253/laws.FnExactCompileCommand", spec := "fnExactCompileCommand", unfollowed := true, recurses := true, apart := false }
def FnExactCompileCommandSaid : Prop := fnExactCompileCommandRow.holds Try.pinned (OpenSpec.ofChange fnExactCompileCommandSpec)

/-- ITS FALSE NEIGHBOUR: 'it returns false'. Refute it at one input. -/
def fnExactCompileCommandWrong : ChangeSpec := { name := "fnExactCompileCommand", fn := fun _ => fun
  | [d1, d2] => { results := [.lit (.bool false)], args := [d1, d2] }
  | _ => none }
def FnExactCompileCommandWrongFalsely : Prop := fnExactCompileCommandRow.holds Try.pinned (OpenSpec.ofChange fnExactCompileCommandWrong)

/-- 'laws.FnCommands': WHATEVER THE INPUT: true; the input reads as it did. -/
def fnCommandsSpec : ChangeSpec := { name := "fnCommands", fn := fun _ => fun
  | [d] => { results := [.lit (.bool true)], args := [d] }
  | _ => none }
def fnCommandsRow : OpenClaim := { program := "ytmigfgcpdelnfaa", sum := "ce0f064dc6d5b4d97aa050e63d5991aa2d20c78e1bafe8c57632b29129662820", func := "loop.example/g00253/laws.FnCommands", spec := "fnCommands", unfollowed := true, recurses := true, apart := false }
def FnCommandsSaid : Prop := fnCommandsRow.holds Try.pinned (OpenSpec.ofChange fnCommandsSpec)

/-- ITS FALSE NEIGHBOUR: 'it returns false'. Refute it at one input. -/
def fnCommandsWrong : ChangeSpec := { name := "fnCommands", fn := fun _ => fun
  | [d] => { results := [.lit (.bool false)], args := [d] }
  | _ => none }
def FnCommandsWrongFalsely : Prop := fnCommandsRow.holds Try.pinned (OpenSpec.ofChange fnCommandsWrong)

/- THE SECOND FORM. 'bulk': how many values and letters a reading holds, each counted each time it is reached (what is shared counts as often as it is met; a slice's spare places count too). A statement '..UptoSaid' is the law's where the arguments, and the package variables that the reading takes, are together of bulk at most 1048576: NARROWER than '..Said'. Prove '..Said' where nothing that the law and all that it calls make is longer than what came in: it says more and counts as full. Else prove '..UptoSaid'. A law counts once. -/
mutual
def uptoBulk {H : Type} : DataW H → Nat
  | .lit (.string bytes) => bytes.length + 1
  | .lit _ => 1
  | .nil => 1
  | .ptr d => uptoBulk d + 1
  | .slice elems spare => uptoBulkAll elems + uptoBulkAll spare + 1
  | .agg parts => uptoBulkAll parts + 1
  | .iface _ d => uptoBulk d + 1
  | .map entries => uptoBulkEntries entries + 1
  | .held _ => 1
def uptoBulkAll {H : Type} : List (DataW H) → Nat
  | [] => 0
  | d :: r => uptoBulk d + uptoBulkAll r
def uptoBulkEntries {H : Type} : List (Lit × DataW H) → Nat
  | [] => 0
  | x :: r => uptoBulkEntry x + uptoBulkEntries r
def uptoBulkEntry {H : Type} : Lit × DataW H → Nat
  | (.string bytes, d) => bytes.length + uptoBulk d + 1
  | (_, d) => uptoBulk d + 1
 end
def uptoSmall : (H : Type) → List (DataW H) → Bool := fun _ ds => decide (uptoBulkAll ds ≤ 1048576)
def OpenSpec.upto (s : _root_.Go.ChangeSpec) : _root_.Go.OpenSpec := { _root_.Go.OpenSpec.ofChange s with cond := some uptoSmall }

/-- 'laws.FnExactRowOf', WHERE WHAT IT READS IS OF BULK AT MOST 1048576: true; the input reads as it did. -/
def fnExactRowOfUptoRow : OpenClaim := { program := "ytmigfgcpdelnfaa", sum := "ce0f064dc6d5b4d97aa050e63d5991aa2d20c78e1bafe8c57632b29129662820", func := "loop.example/g00253/laws.FnExactRowOf", spec := "fnExactRowOf", apart := false, narrowed := true }
def FnExactRowOfUptoSaid : Prop := fnExactRowOfUptoRow.holds Try.pinned (OpenSpec.upto fnExactRowOfSpec)

/-- 'laws.FnExactDoCommand', WHERE WHAT IT READS IS OF BULK AT MOST 1048576: true; the input reads as it did. -/
def fnExactDoCommandUptoRow : OpenClaim := { program := "ytmigfgcpdelnfaa", sum := "ce0f064dc6d5b4d97aa050e63d5991aa2d20c78e1bafe8c57632b29129662820", func := "loop.example/g00253/laws.FnExactDoCommand", spec := "fnExactDoCommand", apart := false, narrowed := true }
def FnExactDoCommandUptoSaid : Prop := fnExactDoCommandUptoRow.holds Try.pinned (OpenSpec.upto fnExactDoCommandSpec)

/-- 'laws.FnExactReachOf', WHERE WHAT IT READS IS OF BULK AT MOST 1048576: true; the input reads as it did. -/
def fnExactReachOfUptoRow : OpenClaim := { program := "ytmigfgcpdelnfaa", sum := "ce0f064dc6d5b4d97aa050e63d5991aa2d20c78e1bafe8c57632b29129662820", func := "loop.example/g00253/laws.FnExactReachOf", spec := "fnExactReachOf", apart := false, narrowed := true }
def FnExactReachOfUptoSaid : Prop := fnExactReachOfUptoRow.holds Try.pinned (OpenSpec.upto fnExactReachOfSpec)

/-- 'laws.FnUndoneBy', WHERE WHAT IT READS IS OF BULK AT MOST 1048576: true; the input reads as it did. -/
def fnUndoneByUptoRow : OpenClaim := { program := "ytmigfgcpdelnfaa", sum := "ce0f064dc6d5b4d97aa050e63d5991aa2d20c78e1bafe8c57632b29129662820", func := "loop.example/g00253/laws.FnUndoneBy", spec := "fnUndoneBy", recurses := true, apart := false, narrowed := true }
def FnUndoneByUptoSaid : Prop := fnUndoneByUptoRow.holds Try.pinned (OpenSpec.upto fnUndoneBySpec)

/-- 'laws.FnExactCompileCommand', WHERE WHAT IT READS IS OF BULK AT MOST 1048576: true; the input reads as it did. -/
def fnExactCompileCommandUptoRow : OpenClaim := { program := "ytmigfgcpdelnfaa", sum := "ce0f064dc6d5b4d97aa050e63d5991aa2d20c78e1bafe8c57632b29129662820", func := "loop.example/g00253/laws.FnExactCompileCommand", spec := "fnExactCompileCommand", unfollowed := true, recurses := true, apart := false, narrowed := true }
def FnExactCompileCommandUptoSaid : Prop := fnExactCompileCommandUptoRow.holds Try.pinned (OpenSpec.upto fnExactCompileCommandSpec)

/-- 'laws.FnCommands', WHERE WHAT IT READS IS OF BULK AT MOST 1048576: true; the input reads as it did. -/
def fnCommandsUptoRow : OpenClaim := { program := "ytmigfgcpdelnfaa", sum := "ce0f064dc6d5b4d97aa050e63d5991aa2d20c78e1bafe8c57632b29129662820", func := "loop.example/g00253/laws.FnCommands", spec := "fnCommands", unfollowed := true, recurses := true, apart := false, narrowed := true }
def FnCommandsUptoSaid : Prop := fnCommandsUptoRow.holds Try.pinned (OpenSpec.upto fnCommandsSpec)

end Rows
end Go.Proofs.Ytmigfgcpdelnfaa
