-- this session's own text: written by wip/tools/ownprint.py over the kit's print
import Derived.Test.YtblnnbaeiggmoaaRows
import Derived.Test.YtblnnbaeiggmoaaAFnExactEditRopex14
import Derived.Test.YtblnnbaeiggmoaaPureFnExactEditRope
import Derived.WalkKit
import Derived.ProofKit
import Derived.OpenShut
import Derived.ShutString
import Derived.ChangeOld
import Derived.Below
import Derived.SizedLaws
import Derived.Test.YtblnnbaeiggmoaaAFnExactEditRopew
namespace Go.Proofs.Ytblnnbaeiggmoaa.fnExactEditRope
open Go.ChangeShapes Go.WideShapes Go.ChangeAt Go.RowKit
open Go.ChangeMaps (open_string shut_string)
open Go.Proofs.Ytblnnbaeiggmoaa.AFnExactEditRope Go.Proofs.YtblnnbaeiggmoaaW.PrintWords Go.Proofs.YtblnnbaeiggmoaaW.PrintLast Go.Proofs.YtblnnbaeiggmoaaW.PrintMore
set_option linter.unusedVariables false
theorem own : ownKnob Try.prog.godebug = none := by kernel_rfl
theorem laidOut : laidOutB Try.prog = true := by kernel_rfl
def IsRow (k : IntKind) (w : World) (a : Option Addr) (len cap : Nat) (zs : List Int) : Prop :=
  (a = none ∧ len = 0 ∧ cap = 0 ∧ zs = []) ∨
  ∃ x, a = some x ∧ len ≤ cap ∧ cap ≤ maxLen ∧ zs.length = cap ∧ (∀ i, i < zs.length → w.cell? (x.add i) = some (.int k (zs.getD i 0))) ∧ ∀ n ∈ zs, (Lit.int k n).wf = true
set_option maxRecDepth 100000 in
theorem lifted (os : Os) (started : os.Started) (H : Type) (enc : TypeId × Value → H) :
    ReturnsInHanded {} Try.checked os 3 .any (Rows.fnExactEditRopeSpec.pre6 enc Try.prog Try.f3 Rows.fnExactEditRopeRow.domain false) (Rows.fnExactEditRopeSpec.post enc Try.prog Try.f3 false true false false) := by
  refine returnsInHanded_of_change_sized (C := Try.checked) own started (by kernel_rfl) Try.func3
    (ChangeSpec.witness6 (enc := enc) (C := Try.checked) false ⟨#[], #[.agg #[.slice none 0 0], .slice none 0 0], []⟩ 8 (by kernel_rfl) (by kernel_rfl) (by kernel_rfl) (by kernel_rfl)) ?_
  intro W base args ds gs before hval0 hW hcnd hsz0 _
  have hsz : (DataW.weightsEach Try.prog (Try.f3.params.toList ++ Rows.fnExactEditRopeSpec.plain.varTypes Try.prog) (ds ++ gs)).all (· ≤ reachBytes) = true := hsz0
  have hval : ∀ (j : Nat) t v, Try.f3.params[j]? = some t → args[j]? = some v → Value.okWide Try.prog W .any base t v := hval0
  have hW' := hW
  obtain ⟨p, q, hA0, hV, rfl, hfz, hnd⟩ := hW
  have hA : DataW.TrodAll enc Try.prog W 0 (fun _ => true) true Try.f3.params.toList args.toList ds p := hA0
  rw [Try.params3] at hA hval hsz
  obtain ⟨v0, vs0, d0, ds0, p0, q0, hargs, rfl, rfl, h0, r0⟩ := trodAll_cons hA
  obtain ⟨v1, vs1, d1, ds1, p1, q1, rfl, rfl, rfl, h1, r1⟩ := trodAll_cons r0
  obtain ⟨rfl, rfl, rfl⟩ := trodAll_nil r1
  obtain rfl : args = #[v0, v1] := by cases args; simp_all
  obtain ⟨rfl, rfl⟩ := trodVars_none hV
  have k0 := h0
  have lt0 : ∀ x ∈ p0, x.block < W.heap.size := by obtain ⟨m, hm⟩ := k0; exact DataW.trod_lt m _ _ _ hm
  have e0 : ∃ (A0_0 : Option Addr) (c0_0 : Nat) (l0_0 : List (S100)), v0 = .agg #[.slice A0_0 l0_0.length c0_0] ∧ Kd.C k100 W A0_0 l0_0.length l0_0 ∧ l0_0.length ≤ c0_0 ∧ (l0_0.length ≤ maxLen ∧ l0_0.length * 48 ≤ 140737488351232 ∧ ∀ x2_ ∈ l0_0, G_T100 x2_) := by
    obtain ⟨fuel, hf⟩ := h0
    obtain ⟨cs, rfl, hcz⟩ := okWide_struct Try.underlying24 (hval 0 24 v0 rfl rfl)
    obtain ⟨x, hK, hG⟩ := Opens.out opens_T24 hf
    replace hG := hG (sized_any hsz (j := 0) (t := 24) rfl rfl)
    obtain ⟨A0_0, c0_0, hcs, hc0_0, hr0_0⟩ := hK
    refine ⟨A0_0, c0_0, _, ?_, hr0_0, hc0_0, hG⟩
    cases cs
    simpa [Value.cells] using hcs
  obtain ⟨A0_0, c0_0, l0_0, rfl, hr0_0, hc0_0, hG0_0⟩ := e0
  have k1 := h1
  have lt1 : ∀ x ∈ p1, x.block < W.heap.size := by obtain ⟨m, hm⟩ := k1; exact DataW.trod_lt m _ _ _ hm
  have e1 : ∃ (A1 : Option Addr) (c1 : Nat) (l1 : List (S55)), v1 = .slice A1 l1.length c1 ∧ Kd.C k55 W A1 l1.length l1 ∧ l1.length ≤ c1 ∧ (l1.length ≤ maxLen ∧ l1.length * 40 ≤ 140737488351232 ∧ ∀ x2_ ∈ l1, G_T55 x2_) := by
    obtain ⟨fuel, hf⟩ := h1
    obtain ⟨a_, n_, c_, rfl⟩ := okWide_slice Try.underlying25 (hval 1 25 v1 rfl rfl)
    obtain ⟨l_, ⟨A_, C_, hcs, hc_, hr_⟩, hG⟩ := Opens.out (opens_slice 55 Try.underlying25 (by kernel_rfl) (by kernel_rfl) opens_T55) hf
    replace hG := hG (sized_any hsz (j := 1) (t := 25) rfl rfl)
    exact ⟨A_, C_, l_, by simpa [Value.cells] using hcs, hr_, hc_, hG⟩
  obtain ⟨A1, c1, l1, rfl, hr1, hc1, hG1⟩ := e1
  clear hA0 hval0 hsz0 hsz
  refine (AFnExactEditRope.laws_FnExactEditRope.walk Pure.FnExactEditRope A0_0 c0_0 l0_0 A1 c1 l1 W hr0_0 hc0_0 hG0_0 hr1 hc1 hG1).mono fun e W' ⟨he, bel⟩ => ?_
  subst he
  exact ⟨_, rfl, _, _, _, [], _, [], hW', trodAll_mk1 (shut_bool Try.underlying4 _), (trodAll_cons_mk (Below.trod laidOut (by kernel_rfl) (of_decide_eq_true (by kernel_rfl)) k0 bel lt0) (trodAll_cons_mk (Below.trod laidOut (by kernel_rfl) (of_decide_eq_true (by kernel_rfl)) k1 bel lt1) trodAll_mk0)), rfl, bel.frame _, fun h => by cases h⟩
theorem over : Rows.fnExactEditRopeRow.holds Try.pinned (OpenSpec.ofChange Rows.fnExactEditRopeSpec) :=
  OpenClaim.holds_of_wide 3 Try.f3 rfl rfl rfl rfl rfl rfl rfl ⟨rfl, rfl, rfl, rfl, rfl⟩ rfl rfl rfl rfl rfl (by kernel_rfl) Try.func3 (by kernel_rfl)
    (of_decide_eq_true (by kernel_rfl)) (by unfold Func.isWrapper; first | (rw [if_pos (by decide +kernel)]; kernel_rfl) | (rw [if_neg (by decide +kernel)]; exact ⟨rfl, rfl⟩))
    (fun os started H enc _ => lifted os started H enc)
theorem proved : Rows.FnExactEditRopeSaid := over
#print axioms proved
end Go.Proofs.Ytblnnbaeiggmoaa.fnExactEditRope
namespace Go.Proofs.Ytblnnbaeiggmoaa
/-- The row, under a short name, for the claim. -/
theorem fnExactEditRope_holds : Rows.FnExactEditRopeSaid := fnExactEditRope.proved
end Go.Proofs.Ytblnnbaeiggmoaa
