-- this session's own text: written by wip/tools/ownprint.py over the kit's print
import Derived.Test.YtmigfgcpdelnfaaAFnUndoneByx0
import Derived.Test.YtmigfgcpdelnfaaAFnUndoneByx7
namespace Go.Proofs.Ytmigfgcpdelnfaa.AFnUndoneBy
open Go.RowKit Go.Proofs.YtmigfgcpdelnfaaW.PrintWords Go.Proofs.YtmigfgcpdelnfaaW.PrintLast Go.Proofs.YtmigfgcpdelnfaaW.PrintMore
attribute [local go_sem] max2_int min2_int max_two min_two max_three min_three max_four min_four   -- for this text's walks alone
set_option linter.unusedVariables false
set_option linter.unusedSimpArgs false

/-! ### impl_beginsAt: function 52 -/
def impl_beginsAt.f (k : Nat) (a0 : ByteArray) (a1 : Int) : Option (Int × Bool) := (impl_MatchOf.f k a0 a1).bind fun iF => (if iF.2 = true then (if iF.1 < a1 then (some (0, false)) else (some (iF.1, true))) else (some (0, false)))
theorem impl_beginsAt.mono : ∀ a0 a1 k, LeO (impl_beginsAt.f k a0 a1) (impl_beginsAt.f (k + 1) a0 a1) := by
 intro a0 a1 k
 unfold impl_beginsAt.f
 repeat' first
   | (with_reducible exact impl_MatchOf.mono _ _ _)
   | (with_reducible exact LeO.refl _)
   | (with_reducible exact LeO.none _)
   | (with_reducible refine LeO.ite ?_ ?_)
   | (with_reducible refine LeO.bind ?_ (fun _ => ?_))
set_option maxHeartbeats 8000000 in
set_option maxRecDepth 100000 in
theorem impl_beginsAt.calls (k : Nat) (a0 : ByteArray) (a1 : Int) (r1 : Int) (r2 : Bool) (w : World) (h : impl_beginsAt.f k a0 a1 = some (r1, r2)) :
  Calls Try.prog 52 #[.string a0, .int .i64 a1] w fun e w' => e = .returned (.tuple #[.int .i64 r1, .bool r2]) ∧ Below w.heap.size w w' := by
 have HB := aM (Below.refl w.heap.size w)
 have H : ((impl_MatchOf.f k a0 a1).bind fun iF => (if iF.2 = true then (if iF.1 < a1 then (some (0, false)) else (some (iF.1, true))) else (some (0, false)))) = some (r1, r2) := h
 clear h
 obtain ⟨⟨ny, t245⟩, A3, H⟩ := oA_ H
 try dsimp only at H
 by_cases c4 : t245 = true
 ·subst c4
  rw [if_pos rfl] at H
  by_cases c5 : ny < a1
  ·rw [if_pos c5] at H
   have c5b0 : decide (ny < a1) = true := dT c5
   clear c5
   simp only [Option.some.injEq, Prod.mk.injEq] at H
   obtain ⟨rfl, rfl⟩ := H
   go_enter Try.func52, Try.ntmps52
   go_wp2_with (first | ((with_reducible refine av (f := 70) rfl ?_); refine ay (some 11) rfl rfl Try.func70 z0 rfl #[.string a0, .int .i64 a1] rfl z14 ?_; (with_reducible refine (impl_MatchOf.calls k a0 a1 ny true _ A3.out).mono ?_); rintro e w6 ⟨rfl, hb⟩; refine ⟨_, rfl, ?_⟩; replace HB := aM (ap z13 hb); (try clear hb)))
   go_ret2
   exact ⟨y4, y5⟩
  ·rw [if_neg c5] at H
   have c5b0 : decide (ny < a1) = false := dF c5
   clear c5
   simp only [Option.some.injEq, Prod.mk.injEq] at H
   obtain ⟨rfl, rfl⟩ := H
   go_enter Try.func52, Try.ntmps52
   go_wp2_with (first | ((with_reducible refine av (f := 70) rfl ?_); refine ay (some 11) rfl rfl Try.func70 z0 rfl #[.string a0, .int .i64 a1] rfl z14 ?_; (with_reducible refine (impl_MatchOf.calls k a0 a1 ny true _ A3.out).mono ?_); rintro e w7 ⟨rfl, hb⟩; refine ⟨_, rfl, ?_⟩; replace HB := aM (ap z13 hb); (try clear hb)))
   go_ret2
   exact ⟨y4, y5⟩
 ·replace c4 := Bool.eq_false_iff.mpr c4
  subst c4
  rw [if_neg nF_] at H
  simp only [Option.some.injEq, Prod.mk.injEq] at H
  obtain ⟨rfl, rfl⟩ := H
  go_enter Try.func52, Try.ntmps52
  go_wp2_with (first | ((with_reducible refine av (f := 70) rfl ?_); refine ay (some 11) rfl rfl Try.func70 z0 rfl #[.string a0, .int .i64 a1] rfl z14 ?_; (with_reducible refine (impl_MatchOf.calls k a0 a1 ny false _ A3.out).mono ?_); rintro e w8 ⟨rfl, hb⟩; refine ⟨_, rfl, ?_⟩; replace HB := aM (ap z13 hb); (try clear hb)))
  go_ret2
  exact ⟨y4, y5⟩

end Go.Proofs.Ytmigfgcpdelnfaa.AFnUndoneBy
