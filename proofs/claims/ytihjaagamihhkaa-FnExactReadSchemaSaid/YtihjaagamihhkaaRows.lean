/-
  No cell of these rows narrows 'for every input' (looked for: loops, veiled, ifaces, maps, wideKeys, modest, calm, conditions, laid).
  DERIVED. THE GIVEN ROWS OF THIS SEAT. 3 by the template 'for every input the law returns true; each argument reads behind the call as it read before'; 0 by the template 'total and deterministic' (their statements: YtihjaagamihhkaaTotals.lean).
  GIVEN WITH THE SEED: the statements are not yours to turn. If you find one false, say at which input.
  Laid BY PROGRAM, IN A SANDBOX (cutbox-rows.mjs): the forced cells as the released guide's own fill.sh prints them over the translation ff524d2bc29d1d65… (all of the seat's roots in one cut). By AI agents, Wed Nov 11 2026. No macro, syntax, notation, axiom, sorry.
-/
import Derived.Test.YtihjaagamihhkaaChecked
import GoSem.Claim
import GoSem.ClaimJoined
import GoSem.ClaimMapViews
import Derived.JoinedTies
import Derived.KernelRfl
namespace Go.Proofs.Ytihjaagamihhkaa
/- THE CELL 'sum', in the pinned program and in every row, IS THE sha256 OF THE DUMP (.gsa) THAT YtihjaagamihhkaaProg.lean LOADS. Nothing in Lean hashes anything: it is a label: what it is worth is what the hold of that sum in a sandbox is worth. -/
noncomputable def Try.pinned : Pinned := { name := "ytihjaagamihhkaa", sum := "ff524d2bc29d1d65b1e4a4d8173321c90cb69b5f03fb5cc4a4a384eed86ff235", checked := Try.checked }
namespace Rows
def none {H : Type} : Left H := { results := [], args := [] }

/-- 'laws.FnExactGoodSchema': WHATEVER THE INPUT: true; the input reads as it did. -/
def fnExactGoodSchemaSpec : ChangeSpec := { name := "fnExactGoodSchema", fn := fun _ => fun
  | [d] => { results := [.lit (.bool true)], args := [d] }
  | _ => none }
def fnExactGoodSchemaRow : OpenClaim := { program := "ytihjaagamihhkaa", sum := "ff524d2bc29d1d65b1e4a4d8173321c90cb69b5f03fb5cc4a4a384eed86ff235", func := "loop.example/g00253/laws.FnExactGoodSchema", spec := "fnExactGoodSchema", inPlace := ["internal/bytealg.IndexByteString"], recurses := true, apart := false }
def FnExactGoodSchemaSaid : Prop := fnExactGoodSchemaRow.holds Try.pinned (OpenSpec.ofChange fnExactGoodSchemaSpec)

/-- ITS FALSE NEIGHBOUR: 'it returns false'. Refute it at one input. -/
def fnExactGoodSchemaWrong : ChangeSpec := { name := "fnExactGoodSchema", fn := fun _ => fun
  | [d] => { results := [.lit (.bool false)], args := [d] }
  | _ => none }
def FnExactGoodSchemaWrongFalsely : Prop := fnExactGoodSchemaRow.holds Try.pinned (OpenSpec.ofChange fnExactGoodSchemaWrong)

/-- 'laws.FnExactSchemaText': WHATEVER THE INPUT: true; the input reads as it did. -/
def fnExactSchemaTextSpec : ChangeSpec := { name := "fnExactSchemaText", fn := fun _ => fun
  | [d] => { results := [.lit (.bool true)], args := [d] }
  | _ => none }
def fnExactSchemaTextRow : OpenClaim := { program := "ytihjaagamihhkaa", sum := "ff524d2bc29d1d65b1e4a4d8173321c90cb69b5f03fb5cc4a4a384eed86ff235", func := "loop.example/g00253/laws.FnExactSchemaText", spec := "fnExactSchemaText", inPlace := ["internal/bytealg.IndexByteString"], recurses := true, apart := false }
def FnExactSchemaTextSaid : Prop := fnExactSchemaTextRow.holds Try.pinned (OpenSpec.ofChange fnExactSchemaTextSpec)

/-- ITS FALSE NEIGHBOUR: 'it returns false'. Refute it at one input. -/
def fnExactSchemaTextWrong : ChangeSpec := { name := "fnExactSchemaText", fn := fun _ => fun
  | [d] => { results := [.lit (.bool false)], args := [d] }
  | _ => none }
def FnExactSchemaTextWrongFalsely : Prop := fnExactSchemaTextRow.holds Try.pinned (OpenSpec.ofChange fnExactSchemaTextWrong)

/-- 'laws.FnExactReadSchema': WHATEVER THE INPUT: true; the input reads as it did. -/
def fnExactReadSchemaSpec : ChangeSpec := { name := "fnExactReadSchema", fn := fun _ => fun
  | [d] => { results := [.lit (.bool true)], args := [d] }
  | _ => none }
def fnExactReadSchemaRow : OpenClaim := { program := "ytihjaagamihhkaa", sum := "ff524d2bc29d1d65b1e4a4d8173321c90cb69b5f03fb5cc4a4a384eed86ff235", func := "loop.example/g00253/laws.FnExactReadSchema", spec := "fnExactReadSchema", inPlace := ["internal/bytealg.IndexByteString", "internal/bytealg.IndexString"], recurses := true, named := ["internal/bytealg.MaxLen"], apart := false }
def FnExactReadSchemaSaid : Prop := fnExactReadSchemaRow.holds Try.pinned (OpenSpec.ofChange fnExactReadSchemaSpec)

/-- ITS FALSE NEIGHBOUR: 'it returns false'. Refute it at one input. -/
def fnExactReadSchemaWrong : ChangeSpec := { name := "fnExactReadSchema", fn := fun _ => fun
  | [d] => { results := [.lit (.bool false)], args := [d] }
  | _ => none }
def FnExactReadSchemaWrongFalsely : Prop := fnExactReadSchemaRow.holds Try.pinned (OpenSpec.ofChange fnExactReadSchemaWrong)

/- THE SECOND FORM. 'bulk': how many values and letters a reading holds, each counted each time it is reached (what is shared counts as often as it is met; a slice's spare places count too). A statement '..UptoSaid' is the law's where the arguments, and the package variables that the reading takes, are together of bulk at most 1048576: NARROWER than '..Said'. Prove '..Said' where nothing that the law and all that it calls make is longer than what came in: it says more and counts as full. Else prove '..UptoSaid'. A law counts once. -/
mutual
def uptoBulk {H : Type} : DataW H → Nat
  | .lit (.string bytes) => bytes.length + 1
  | .lit _ => 1
  | .nil => 1
  | .ptr d => uptoBulk d + 1
  | .slice elems spare => uptoBulkAll elems + uptoBulkAll spare + 1
  | .agg parts => uptoBulkAll parts + 1
  | .iface _ d => uptoBulk d + 1
  | .map entries => uptoBulkEntries entries + 1
  | .held _ => 1
def uptoBulkAll {H : Type} : List (DataW H) → Nat
  | [] => 0
  | d :: r => uptoBulk d + uptoBulkAll r
def uptoBulkEntries {H : Type} : List (Lit × DataW H) → Nat
  | [] => 0
  | x :: r => uptoBulkEntry x + uptoBulkEntries r
def uptoBulkEntry {H : Type} : Lit × DataW H → Nat
  | (.string bytes, d) => bytes.length + uptoBulk d + 1
  | (_, d) => uptoBulk d + 1
 end
def uptoSmall : (H : Type) → List (DataW H) → Bool := fun _ ds => decide (uptoBulkAll ds ≤ 1048576)
def OpenSpec.upto (s : _root_.Go.ChangeSpec) : _root_.Go.OpenSpec := { _root_.Go.OpenSpec.ofChange s with cond := some uptoSmall }

/-- 'laws.FnExactGoodSchema', WHERE WHAT IT READS IS OF BULK AT MOST 1048576: true; the input reads as it did. -/
def fnExactGoodSchemaUptoRow : OpenClaim := { program := "ytihjaagamihhkaa", sum := "ff524d2bc29d1d65b1e4a4d8173321c90cb69b5f03fb5cc4a4a384eed86ff235", func := "loop.example/g00253/laws.FnExactGoodSchema", spec := "fnExactGoodSchema", inPlace := ["internal/bytealg.IndexByteString"], recurses := true, apart := false, narrowed := true }
def FnExactGoodSchemaUptoSaid : Prop := fnExactGoodSchemaUptoRow.holds Try.pinned (OpenSpec.upto fnExactGoodSchemaSpec)

/-- 'laws.FnExactSchemaText', WHERE WHAT IT READS IS OF BULK AT MOST 1048576: true; the input reads as it did. -/
def fnExactSchemaTextUptoRow : OpenClaim := { program := "ytihjaagamihhkaa", sum := "ff524d2bc29d1d65b1e4a4d8173321c90cb69b5f03fb5cc4a4a384eed86ff235", func := "loop.example/g00253/laws.FnExactSchemaText", spec := "fnExactSchemaText", inPlace := ["internal/bytealg.IndexByteString"], recurses := true, apart := false, narrowed := true }
def FnExactSchemaTextUptoSaid : Prop := fnExactSchemaTextUptoRow.holds Try.pinned (OpenSpec.upto fnExactSchemaTextSpec)

/-- 'laws.FnExactReadSchema', WHERE WHAT IT READS IS OF BULK AT MOST 1048576: true; the input reads as it did. -/
def fnExactReadSchemaUptoRow : OpenClaim := { program := "ytihjaagamihhkaa", sum := "ff524d2bc29d1d65b1e4a4d8173321c90cb69b5f03fb5cc4a4a384eed86ff235", func := "loop.example/g00253/laws.FnExactReadSchema", spec := "fnExactReadSchema", inPlace := ["internal/bytealg.IndexByteString", "internal/bytealg.IndexString"], recurses := true, named := ["internal/bytealg.MaxLen"], apart := false, narrowed := true }
def FnExactReadSchemaUptoSaid : Prop := fnExactReadSchemaUptoRow.holds Try.pinned (OpenSpec.upto fnExactReadSchemaSpec)

end Rows
end Go.Proofs.Ytihjaagamihhkaa
