-- this session's own text: written by wip/tools/ownprint.py over the kit's print
import Derived.Test.YtpbelbckinpinaaAFnReplacedx0
import Derived.Test.YtpbelbckinpinaaAFnReplacedx2
import Derived.Test.YtpbelbckinpinaaAFnReplacedx3
import Derived.Test.YtpbelbckinpinaaAFnReplacedx7
import Derived.Test.YtpbelbckinpinaaAFnReplacedx9
import Derived.Test.YtpbelbckinpinaaAFnReplacedx12
import Derived.Test.YtpbelbckinpinaaAFnReplacedx13
namespace Go.Proofs.Ytpbelbckinpinaa.AFnReplaced
open Go.RowKit Go.Proofs.YtpbelbckinpinaaW.PrintWords Go.Proofs.YtpbelbckinpinaaW.PrintLast Go.Proofs.YtpbelbckinpinaaW.PrintMore
attribute [local go_sem] max2_int min2_int max_two min_two max_three min_three max_four min_four   -- for this text's walks alone
set_option linter.unusedVariables false
set_option linter.unusedSimpArgs false

/-! ### laws_FnReplaced: function 7 -/
def laws_FnReplaced.j0 : Nat → ByteArray → ByteArray → ByteArray → ByteArray → Int → Bool → List (S74) → Bool → Bool → Option (Bool)
 | 0, _, _, _, _, _, _, _, _, _ => none
 | k + 1, x3, x4, x5, x6, x7, x8, x12, x13, x83 => if x83 = true then (some false) else (if x8 = true then (if x13 = true then ((impl_ApplyOp.f k x12 x3).bind fun bt462 => (if bt462.2 = true then (if bt462.1.toList = x6.toList then ((impl_ReplaceAll.f k x3 x4 x4).bind fun bt464 => (if (x6.size : Int) = (wrap64 ((x3.size : Int) + (wrap64 (x7 * (wrap64 ((x5.size : Int) - (x4.size : Int))))))) then (if bt464.2.2 = true then (if bt464.1.toList = x3.toList then (some (bt464.2.1 == x7)) else (some false)) else (some false)) else (some false))) else (some false)) else (some false))) else ((impl_ReplaceAll.f k x3 x4 x4).bind fun bt467 => (if (x6.size : Int) = (wrap64 ((x3.size : Int) + (wrap64 (x7 * (wrap64 ((x5.size : Int) - (x4.size : Int))))))) then (if bt467.2.2 = true then (if bt467.1.toList = x3.toList then (some (bt467.2.1 == x7)) else (some false)) else (some false)) else (some false)))) else (some (x6.toList == ([] : List UInt8))))
def laws_FnReplaced.f (k : Nat) (l0 : List Int) : Option (Bool) := if (l0.length : Int) > 1048576 then (some true) else ((spec_DrawReplaceAll.f k l0).bind fun bt444 => ((impl_ReplaceAll.f k bt444.1 bt444.2.1 bt444.2.2).bind fun bt447 => ((spec_ReplaceAll.f k bt444.1 bt444.2.1 bt444.2.2).bind fun bt450 => ((impl_ReplaceOp.f k bt444.1 bt444.2.1 bt444.2.2).bind fun bt453 => ((spec_ReplaceOp.f k bt444.1 bt444.2.1 bt444.2.2).bind fun bt457 => (if (bt447.2.2 != bt450.2.2) = true then (laws_FnReplaced.j0 k bt444.1 bt444.2.1 bt444.2.2 bt447.1 bt447.2.1 bt447.2.2 bt453.1 bt453.2 true) else (if bt447.1.toList = bt450.1.toList then (if bt447.2.1 = bt450.2.1 then (if (bt453.2 != bt457.2) = true then (laws_FnReplaced.j0 k bt444.1 bt444.2.1 bt444.2.2 bt447.1 bt447.2.1 bt447.2.2 bt453.1 bt453.2 true) else ((laws_sameOps.f k bt453.1 bt457.1).bind fun t461 => (laws_FnReplaced.j0 k bt444.1 bt444.2.1 bt444.2.2 bt447.1 bt447.2.1 bt447.2.2 bt453.1 bt453.2 (!t461)))) else (laws_FnReplaced.j0 k bt444.1 bt444.2.1 bt444.2.2 bt447.1 bt447.2.1 bt447.2.2 bt453.1 bt453.2 true)) else (laws_FnReplaced.j0 k bt444.1 bt444.2.1 bt444.2.2 bt447.1 bt447.2.1 bt447.2.2 bt453.1 bt453.2 true))))))))
theorem laws_FnReplaced.mono_l : ∀ k, (∀ y0 y1 y2 y3 y4 y5 y6 y7 y8, LeO (laws_FnReplaced.j0 k y0 y1 y2 y3 y4 y5 y6 y7 y8) (laws_FnReplaced.j0 (k + 1) y0 y1 y2 y3 y4 y5 y6 y7 y8))
 | 0 => fun _ _ _ _ _ _ _ _ _ r h => by simp [laws_FnReplaced.j0] at h
 | k + 1 => by
  have ih0 := laws_FnReplaced.mono_l k
  ·intro y0 y1 y2 y3 y4 y5 y6 y7 y8
   unfold laws_FnReplaced.j0
   repeat' first
   | (with_reducible exact ih0 _ _ _ _ _ _ _ _ _)
   | (with_reducible exact impl_ApplyOp.mono _ _ _)
   | (with_reducible exact impl_ReplaceAll.mono _ _ _ _)
   | (with_reducible exact impl_ReplaceOp.mono _ _ _ _)
   | (with_reducible exact laws_sameOps.mono _ _ _)
   | (with_reducible exact spec_DrawReplaceAll.mono _ _)
   | (with_reducible exact spec_ReplaceAll.mono _ _ _ _)
   | (with_reducible exact spec_ReplaceOp.mono _ _ _ _)
   | (with_reducible exact LeO.refl _)
   | (with_reducible exact LeO.none _)
   | (with_reducible refine LeO.ite ?_ ?_)
   | (with_reducible refine LeO.bind ?_ (fun _ => ?_))
   | exact ih0 _ _ _ _ _ _ _ _ _
   | exact impl_ApplyOp.mono _ _ _
   | exact impl_ReplaceAll.mono _ _ _ _
   | exact impl_ReplaceOp.mono _ _ _ _
   | exact laws_sameOps.mono _ _ _
   | exact spec_DrawReplaceAll.mono _ _
   | exact spec_ReplaceAll.mono _ _ _ _
   | exact spec_ReplaceOp.mono _ _ _ _
   | exact LeO.none _
   | refine LeO.ite ?_ ?_
   | refine LeO.bind ?_ (fun _ => ?_)
theorem laws_FnReplaced.mono : ∀ a0 k, LeO (laws_FnReplaced.f k a0) (laws_FnReplaced.f (k + 1) a0) := by
 intro a0 k
 have ih0 := laws_FnReplaced.mono_l k
 unfold laws_FnReplaced.f
 repeat' first
   | (with_reducible exact ih0 _ _ _ _ _ _ _ _ _)
   | (with_reducible exact impl_ApplyOp.mono _ _ _)
   | (with_reducible exact impl_ReplaceAll.mono _ _ _ _)
   | (with_reducible exact impl_ReplaceOp.mono _ _ _ _)
   | (with_reducible exact laws_sameOps.mono _ _ _)
   | (with_reducible exact spec_DrawReplaceAll.mono _ _)
   | (with_reducible exact spec_ReplaceAll.mono _ _ _ _)
   | (with_reducible exact spec_ReplaceOp.mono _ _ _ _)
   | (with_reducible exact LeO.refl _)
   | (with_reducible exact LeO.none _)
   | (with_reducible refine LeO.ite ?_ ?_)
   | (with_reducible refine LeO.bind ?_ (fun _ => ?_))
   | exact ih0 _ _ _ _ _ _ _ _ _
   | exact impl_ApplyOp.mono _ _ _
   | exact impl_ReplaceAll.mono _ _ _ _
   | exact impl_ReplaceOp.mono _ _ _ _
   | exact laws_sameOps.mono _ _ _
   | exact spec_DrawReplaceAll.mono _ _
   | exact spec_ReplaceAll.mono _ _ _ _
   | exact spec_ReplaceOp.mono _ _ _ _
   | exact LeO.none _
   | refine LeO.ite ?_ ?_
   | refine LeO.bind ?_ (fun _ => ?_)
set_option maxHeartbeats 8000000 in
set_option maxRecDepth 100000 in
theorem laws_FnReplaced.calls (k : Nat) (A0 : Option Addr) (c0 : Nat) (l0 : List Int) (r : Bool) (HRT : Aside0 (r = true)) (w : World) (hr0 : Kd.C (Kd.int .u8) w A0 l0.length l0) (hc0 : l0.length ≤ c0) (h : laws_FnReplaced.f k l0 = some r) :
  Calls Try.prog 7 #[.slice A0 l0.length c0] w fun e w' => e = .returned (.bool r) ∧ Below w.heap.size w w' := by
 have HR0 := Aside0.mk hr0
 have HC0 := Aside0.mk hc0
 clear hr0 hc0
 have HB := Aside0.mk (Below.refl w.heap.size w)
 have H : (if (l0.length : Int) > 1048576 then (some true) else ((spec_DrawReplaceAll.f k l0).bind fun bt444 => ((impl_ReplaceAll.f k bt444.1 bt444.2.1 bt444.2.2).bind fun bt447 => ((spec_ReplaceAll.f k bt444.1 bt444.2.1 bt444.2.2).bind fun bt450 => ((impl_ReplaceOp.f k bt444.1 bt444.2.1 bt444.2.2).bind fun bt453 => ((spec_ReplaceOp.f k bt444.1 bt444.2.1 bt444.2.2).bind fun bt457 => (if (bt447.2.2 != bt450.2.2) = true then (laws_FnReplaced.j0 k bt444.1 bt444.2.1 bt444.2.2 bt447.1 bt447.2.1 bt447.2.2 bt453.1 bt453.2 true) else (if bt447.1.toList = bt450.1.toList then (if bt447.2.1 = bt450.2.1 then (if (bt453.2 != bt457.2) = true then (laws_FnReplaced.j0 k bt444.1 bt444.2.1 bt444.2.2 bt447.1 bt447.2.1 bt447.2.2 bt453.1 bt453.2 true) else ((laws_sameOps.f k bt453.1 bt457.1).bind fun t461 => (laws_FnReplaced.j0 k bt444.1 bt444.2.1 bt444.2.2 bt447.1 bt447.2.1 bt447.2.2 bt453.1 bt453.2 (!t461)))) else (laws_FnReplaced.j0 k bt444.1 bt444.2.1 bt444.2.2 bt447.1 bt447.2.1 bt447.2.2 bt453.1 bt453.2 true)) else (laws_FnReplaced.j0 k bt444.1 bt444.2.1 bt444.2.2 bt447.1 bt447.2.1 bt447.2.2 bt453.1 bt453.2 true))))))))) = some r := h
 clear h
 by_cases c2 : (l0.length : Int) > 1048576
 ·rw [if_pos c2] at H
  have c2b0 : decide (1048576 < (l0.length : Int)) = true := decide_eq_true c2
  have c2b1 : decide (1048576 < l0.length) = true := decide_eq_true (by omega)
  clear c2
  first | (cases H.trans (congrArg some HRT.out); done) | skip
  all_goals
   obtain rfl := Option.some.inj H
   go_enter Try.func7, Try.ntmps7
   go_wp2
   go_ret
   exact ⟨by first | rfl | (simp [errW_none, errW_some] <;> rfl) | (simp [*, errW_none, errW_some] <;> rfl), by repeat (first | (with_reducible first | exact HB.out | apply below_alloc | apply pw_below_drewN | apply below_drew1) | exact HB.out)⟩
 ·rw [if_neg c2] at H
  have c2b0 : decide (1048576 < (l0.length : Int)) = false := decide_eq_false c2
  have c2b1 : decide (1048576 < l0.length) = false := decide_eq_false (by omega)
  clear c2
  replace H := Option.bind_eq_some_iff.mp H
  obtain ⟨⟨t444, t445, t446⟩, A30, H⟩ := H
  try dsimp only at H
  have A3 := Aside0.mk A30
  clear A30
  replace H := Option.bind_eq_some_iff.mp H
  obtain ⟨⟨t447, t448, t449⟩, A40, H⟩ := H
  try dsimp only at H
  have A4 := Aside0.mk A40
  clear A40
  replace H := Option.bind_eq_some_iff.mp H
  obtain ⟨⟨t450, t451, t452⟩, A50, H⟩ := H
  try dsimp only at H
  have A5 := Aside0.mk A50
  clear A50
  replace H := Option.bind_eq_some_iff.mp H
  obtain ⟨⟨t453, t454⟩, A60, H⟩ := H
  try dsimp only at H
  have A6 := Aside0.mk A60
  clear A60
  replace H := Option.bind_eq_some_iff.mp H
  obtain ⟨⟨t457, t458⟩, A70, H⟩ := H
  try dsimp only at H
  have A7 := Aside0.mk A70
  clear A70
  have HC8 := Aside0.mk H
  clear H
  go_enter Try.func7, Try.ntmps7
  go_upto_region 8 with (first | ((with_reducible refine gate_callee (f := 27) rfl ?_); refine goesL_ (some 26) rfl rfl Try.func27 z0 rfl #[.slice A0 l0.length c0] rfl z5 ?_; (with_reducible refine (spec_DrawReplaceAll.calls k _ _ l0 t444 t445 t446 _ ?side1 ?side2 A3.out).mono ?_); (case side1 => repeat (first | exact HR0.out | (with_reducible refine Kd.C_alloc ?_ _) | (with_reducible refine Kd.C_drewN ?_ _) | (with_reducible refine Kd.C_drew ?_))); (case side2 => exact HC0.out); rintro e w9 ⟨rfl, hb⟩; refine ⟨_, rfl, ?_⟩; have n0_ := Aside0.mk (below_step z4 hb); clear HB; have HB := n0_; clear n0_; (try clear hb); (try clear hb2); (try clear hk); (try clear hi)) | ((with_reducible refine gate_callee (f := 28) rfl ?_); refine goesL_ (some 34) rfl rfl Try.func28 z0 rfl #[.string t444, .string t445, .string t446] rfl z5 ?_; (with_reducible refine (impl_ReplaceAll.calls k t444 t445 t446 t447 t448 t449 _ A4.out).mono ?_); rintro e w10 ⟨rfl, hb⟩; refine ⟨_, rfl, ?_⟩; have n0_ := Aside0.mk (below_step z4 hb); clear HB; have HB := n0_; clear n0_; (try clear hb); (try clear hb2); (try clear hk); (try clear hi)) | ((with_reducible refine gate_callee (f := 29) rfl ?_); refine goesL_ (some 42) rfl rfl Try.func29 z0 rfl #[.string t444, .string t445, .string t446] rfl z5 ?_; (with_reducible refine (spec_ReplaceAll.calls k t444 t445 t446 t450 t451 t452 _ A5.out).mono ?_); rintro e w11 ⟨rfl, hb⟩; refine ⟨_, rfl, ?_⟩; have n0_ := Aside0.mk (below_step z4 hb); clear HB; have HB := n0_; clear n0_; (try clear hb); (try clear hb2); (try clear hk); (try clear hi)) | ((with_reducible refine gate_callee (f := 26) rfl ?_); refine goesL_ (some 50) rfl rfl Try.func26 z0 rfl #[.string t444, .string t445, .string t446] rfl z5 ?_; (with_reducible refine (impl_ReplaceOp.calls k t444 t445 t446 t453 t454 _ A6.out).mono ?_); rintro e w12 ⟨v455, rfl, ho0, hb⟩; refine ⟨_, rfl, ?_⟩; have n0_ := Aside0.mk (Kd.R_lower ho0 (below_size z4)); have n1_ := Aside0.mk (below_step z4 hb); clear HB; have HO456 := n0_; have HB := n1_; clear n0_ n1_; (try clear hb); (try clear hb2); (try clear hk); (try clear hi); (try clear ho0)) | ((with_reducible refine gate_callee (f := 25) rfl ?_); refine goesL_ (some 57) rfl rfl Try.func25 z0 rfl #[.string t444, .string t445, .string t446] rfl z5 ?_; (with_reducible refine (spec_ReplaceOp.calls k t444 t445 t446 t457 t458 _ A7.out).mono ?_); rintro e w13 ⟨v459, rfl, ho0, hb⟩; refine ⟨_, rfl, ?_⟩; have n0_ := Aside0.mk (Kd.R_elder' (by (with_reducible repeat (first | apply Kd.R_alloc | apply Kd.R_drewN | apply Kd.R_drew)); exact HO456.out) (Kd.R_base ho0) hb); have n1_ := Aside0.mk (Kd.R_lower (Kd.R_new' ho0 (Kd.R_lt (by (with_reducible repeat (first | apply Kd.R_alloc | apply Kd.R_drewN | apply Kd.R_drew)); exact HO456.out))) (below_size z4)); have n2_ := Aside0.mk (below_step z4 hb); clear HO456; clear HB; have HO456 := n0_; have HO460 := n1_; have HB := n2_; clear n0_ n1_ n2_; (try clear hb); (try clear hb2); (try clear hk); (try clear hi); (try clear ho0)))
  (try simp only [Act.put, List.setIfInBounds_toArray, List.set_cons_zero, List.set_cons_succ])
  go_cut [83] (fun v83 wc => ∃ (kq : Nat) (x83_7 : Bool), v83 = .bool x83_7 ∧ Aside0 (laws_FnReplaced.j0 kq t444 t445 t446 t447 t448 t449 t453 t454 x83_7 = some r) ∧ Aside0 (kq ≤ k) ∧ Aside0 (Kd.R k74 74 wc w.heap.size (fun _ => True) v455 t453) ∧ Aside0 (Below w.heap.size w wc))
  case first =>
   have H := HC8.out
   clear HC8
   by_cases c14 : (t449 != t452) = true
   ·rw [if_pos c14] at H
    have c14b0 : (t449 != t452) = true := c14
    (try (have c14b1 : decide (t449 = t452) = false := by simpa using c14))
    (try (have c14b2 : (t449 == t452) = false := by simpa using c14))
    (try (have c14b3 : ¬ (t449 = t452) := by simpa using c14))
    clear c14
    (first | rw [c14b0] | (simp only [i64_w, i32_w]; rw [c14b0]) | skip)
    have H' := Aside0.mk H
    clear H
    go_wp2
    go_meet
    case rel => exact ⟨_, (true), z1, H', ⟨by first | omega | exact Nat.le_refl _⟩, ⟨by (with_reducible repeat (first | apply Kd.R_alloc | apply Kd.R_drewN | apply Kd.R_drew)); exact Kd.R_mono HO456.out (fun _ hk => trivial)⟩, ⟨by repeat (first | (with_reducible first | exact HB.out | apply below_alloc | apply pw_below_drewN | apply below_drew1) | exact HB.out)⟩⟩
   ·rw [if_neg c14] at H
    have c14b0 : (t449 != t452) = false := by simpa using c14
    (try (have c14b1 : decide (t449 = t452) = true := by simpa using c14))
    (try (have c14b2 : (t449 == t452) = true := by simpa using c14))
    clear c14
    (first | rw [c14b0] | (simp only [i64_w, i32_w]; rw [c14b0]) | skip)
    by_cases c15 : t447.toList = t450.toList
    ·rw [if_pos c15] at H
     have c15b0 : (t447.toList == t450.toList) = true := beq_iff_eq.mpr c15
     have c15b1 : (t447.toList != t450.toList) = false := bne_eq_false_iff_eq.mpr c15
     clear c15
     by_cases c16 : t448 = t451
     ·rw [if_pos c16] at H
      have c16b0 : (t448 == t451) = true := beq_iff_eq.mpr c16
      have c16b1 : (t448 != t451) = false := bne_eq_false_iff_eq.mpr c16
      clear c16
      by_cases c17 : (t454 != t458) = true
      ·rw [if_pos c17] at H
       have c17b0 : (t454 != t458) = true := c17
       (try (have c17b1 : decide (t454 = t458) = false := by simpa using c17))
       (try (have c17b2 : (t454 == t458) = false := by simpa using c17))
       (try (have c17b3 : ¬ (t454 = t458) := by simpa using c17))
       clear c17
       have H' := Aside0.mk H
       clear H
       go_wp2
       all_goals (try (exfalso; rename_i h_; rw [c15b0] at h_; cases h_; done))
       go_meet
       case rel => exact ⟨_, (true), z1, H', ⟨by first | omega | exact Nat.le_refl _⟩, ⟨by (with_reducible repeat (first | apply Kd.R_alloc | apply Kd.R_drewN | apply Kd.R_drew)); exact Kd.R_mono HO456.out (fun _ hk => trivial)⟩, ⟨by repeat (first | (with_reducible first | exact HB.out | apply below_alloc | apply pw_below_drewN | apply below_drew1) | exact HB.out)⟩⟩
      ·rw [if_neg c17] at H
       have c17b0 : (t454 != t458) = false := by simpa using c17
       (try (have c17b1 : decide (t454 = t458) = true := by simpa using c17))
       (try (have c17b2 : (t454 == t458) = true := by simpa using c17))
       clear c17
       replace H := Option.bind_eq_some_iff.mp H
       obtain ⟨t461, A180, H⟩ := H
       try dsimp only at H
       have A18 := Aside0.mk A180
       clear A180
       have H' := Aside0.mk H
       clear H
       obtain ⟨Ao19, co19, eo19⟩ := Kd.R_slice HO456.out
       subst eo19
       obtain ⟨Ao20, co20, eo20⟩ := Kd.R_slice HO460.out
       subst eo20
       go_wp2_with (first | (go_at_call 20; (with_reducible refine (laws_sameOps.calls k _ _ t453 _ _ t457 t461 _ ?side1 ?side2 ?side3 ?side4 A18.out).mono ?_); (case side1 => repeat (first | exact (Kd.R_reads' HO456.out).2.2 | (with_reducible refine Kd.C_alloc ?_ _) | (with_reducible refine Kd.C_drewN ?_ _) | (with_reducible refine Kd.C_drew ?_))); (case side2 => exact (Kd.R_reads' HO456.out).2.1); (case side3 => repeat (first | exact (Kd.R_reads' HO460.out).2.2 | (with_reducible refine Kd.C_alloc ?_ _) | (with_reducible refine Kd.C_drewN ?_ _) | (with_reducible refine Kd.C_drew ?_))); (case side4 => exact (Kd.R_reads' HO460.out).2.1); rintro e w' ⟨rfl, ⟨nd, rfl⟩⟩))
       all_goals (try (exfalso; rename_i h_; rw [c15b0] at h_; cases h_; done))
       go_meet
       case rel => exact ⟨_, (!t461), z1, H', ⟨by first | omega | exact Nat.le_refl _⟩, ⟨by (with_reducible repeat (first | apply Kd.R_alloc | apply Kd.R_drewN | apply Kd.R_drew)); exact Kd.R_mono HO456.out (fun _ hk => trivial)⟩, ⟨by repeat (first | (with_reducible first | exact HB.out | apply below_alloc | apply pw_below_drewN | apply below_drew1) | exact HB.out)⟩⟩
     ·rw [if_neg c16] at H
      have c16b0 : (t448 == t451) = false := beq_eq_false_iff_ne.mpr c16
      have c16b1 : (t448 != t451) = true := bne_iff_ne.mpr c16
      have H' := Aside0.mk H
      clear H
      go_wp2
      all_goals (try (exfalso; rename_i h_; rw [c15b0] at h_; cases h_; done))
      go_meet
      case rel => exact ⟨_, (true), z1, H', ⟨by first | omega | exact Nat.le_refl _⟩, ⟨by (with_reducible repeat (first | apply Kd.R_alloc | apply Kd.R_drewN | apply Kd.R_drew)); exact Kd.R_mono HO456.out (fun _ hk => trivial)⟩, ⟨by repeat (first | (with_reducible first | exact HB.out | apply below_alloc | apply pw_below_drewN | apply below_drew1) | exact HB.out)⟩⟩
    ·rw [if_neg c15] at H
     have c15b0 : (t447.toList == t450.toList) = false := beq_eq_false_iff_ne.mpr c15
     have c15b1 : (t447.toList != t450.toList) = true := bne_iff_ne.mpr c15
     have H' := Aside0.mk H
     clear H
     go_wp2
     all_goals (try (exfalso; rename_i h_; rw [c15b0] at h_; cases h_; done))
     go_meet
     case rel => exact ⟨_, (true), z1, H', ⟨by first | omega | exact Nat.le_refl _⟩, ⟨by (with_reducible repeat (first | apply Kd.R_alloc | apply Kd.R_drewN | apply Kd.R_drew)); exact Kd.R_mono HO456.out (fun _ hk => trivial)⟩, ⟨by repeat (first | (with_reducible first | exact HB.out | apply below_alloc | apply pw_below_drewN | apply below_drew1) | exact HB.out)⟩⟩
  case rest =>
   clear HC8
   try clear c1
   try clear c2
   try clear c2b0
   try clear c2b1
   try clear p2
   try clear c7
   try clear c14
   try clear c14b0
   try clear c14b1
   try clear c14b2
   try clear c15
   try clear c15b0
   try clear c15b1
   try clear c16
   try clear c16b0
   try clear c16b1
   try clear c17
   try clear c17b0
   try clear c17b1
   try clear c17b2
   obtain ⟨kq, x83_7, rfl, HA, HJ7, HO_12, HB⟩ := hcut
   cases kq with
   | zero => exact absurd HA.out (by simp [laws_FnReplaced.j0])
   | succ kj7 =>
    have H := HA.out
    clear HA
    simp only [laws_FnReplaced.j0] at H
    by_cases c21 : x83_7 = true
    ·subst c21
     rw [if_pos rfl] at H
     first | (cases H.trans (congrArg some HRT.out); done) | skip
     all_goals
      obtain rfl := Option.some.inj H
      go_wp2
      go_ret
      exact ⟨by first | rfl | (simp [errW_none, errW_some] <;> rfl) | (simp [*, errW_none, errW_some] <;> rfl), by repeat (first | (with_reducible first | exact HB.out | apply below_alloc | apply pw_below_drewN | apply below_drew1) | exact HB.out)⟩
    ·replace c21 := Bool.eq_false_iff.mpr c21
     subst c21
     rw [if_neg (show ¬ (false = true) by decide)] at H
     by_cases c22 : t449 = true
     ·subst c22
      rw [if_pos rfl] at H
      by_cases c23 : t454 = true
      ·subst c23
       rw [if_pos rfl] at H
       replace H := Option.bind_eq_some_iff.mp H
       obtain ⟨⟨t462, t463⟩, A240, H⟩ := H
       try dsimp only at H
       have A24 := Aside0.mk A240
       clear A240
       by_cases c25 : t463 = true
       ·subst c25
        rw [if_pos rfl] at H
        by_cases c26 : t462.toList = t447.toList
        ·rw [if_pos c26] at H
         have c26b0 : (t462.toList == t447.toList) = true := beq_iff_eq.mpr c26
         have c26b1 : (t462.toList != t447.toList) = false := bne_eq_false_iff_eq.mpr c26
         clear c26
         replace H := Option.bind_eq_some_iff.mp H
         obtain ⟨⟨t464, t465, t466⟩, A270, H⟩ := H
         try dsimp only at H
         have A27 := Aside0.mk A270
         clear A270
         by_cases c28 : (t447.size : Int) = (wrap64 ((t444.size : Int) + (wrap64 (t448 * (wrap64 ((t446.size : Int) - (t445.size : Int)))))))
         ·rw [if_pos c28] at H
          have c28b0 : ((t447.size : Int) == (wrap64 ((t444.size : Int) + (wrap64 (t448 * (wrap64 ((t446.size : Int) - (t445.size : Int)))))))) = true := beq_iff_eq.mpr c28
          have c28b1 : ((t447.size : Int) != (wrap64 ((t444.size : Int) + (wrap64 (t448 * (wrap64 ((t446.size : Int) - (t445.size : Int)))))))) = false := bne_eq_false_iff_eq.mpr c28
          clear c28
          by_cases c29 : t466 = true
          ·subst c29
           rw [if_pos rfl] at H
           by_cases c30 : t464.toList = t444.toList
           ·rw [if_pos c30] at H
            have c30b0 : (t464.toList == t444.toList) = true := beq_iff_eq.mpr c30
            have c30b1 : (t464.toList != t444.toList) = false := bne_eq_false_iff_eq.mpr c30
            clear c30
            first | (cases H.trans (congrArg some HRT.out); done) | skip
            all_goals
             obtain rfl := Option.some.inj H
             obtain ⟨Ao31, co31, eo31⟩ := Kd.R_slice HO_12.out
             subst eo31
             go_wp2_with (first | ((with_reducible refine gate_callee (f := 21) rfl ?_); refine goesL_ (some 92) rfl rfl Try.func21 z0 rfl #[.slice Ao31 t453.length co31, .string t444] rfl z5 ?_; (with_reducible refine (impl_ApplyOp.calls kj7 _ _ t453 t444 t462 true _ ?side1 ?side2 A24.out).mono ?_); (case side1 => repeat (first | exact (Kd.R_reads' HO_12.out).2.2 | (with_reducible refine Kd.C_alloc ?_ _) | (with_reducible refine Kd.C_drewN ?_ _) | (with_reducible refine Kd.C_drew ?_))); (case side2 => exact (Kd.R_reads' HO_12.out).2.1); rintro e w32 ⟨rfl, hb⟩; refine ⟨_, rfl, ?_⟩; have n0_ := Aside0.mk (Kd.R_below (by (with_reducible repeat (first | apply Kd.R_alloc | apply Kd.R_drewN | apply Kd.R_drew)); exact HO_12.out) hb); have n1_ := Aside0.mk (below_step z4 hb); clear HO_12; clear HB; have HO_12 := n0_; have HB := n1_; clear n0_ n1_; (try clear hb); (try clear hb2); (try clear hk); (try clear hi)) | ((with_reducible refine gate_callee (f := 28) rfl ?_); refine goesL_ (some 106) rfl rfl Try.func28 z0 rfl #[.string t444, .string t445, .string t445] rfl z5 ?_; (with_reducible refine (impl_ReplaceAll.calls kj7 t444 t445 t445 t464 t465 true _ A27.out).mono ?_); rintro e w33 ⟨rfl, hb⟩; refine ⟨_, rfl, ?_⟩; have n0_ := Aside0.mk (Kd.R_below (by (with_reducible repeat (first | apply Kd.R_alloc | apply Kd.R_drewN | apply Kd.R_drew)); exact HO_12.out) hb); have n1_ := Aside0.mk (below_step z4 hb); clear HO_12; clear HB; have HO_12 := n0_; have HB := n1_; clear n0_ n1_; (try clear hb); (try clear hb2); (try clear hk); (try clear hi)))
             all_goals (try (exfalso; rename_i h_; rw [c26b0] at h_; cases h_; done))
             all_goals (try (exfalso; rename_i h_; rw [c30b0] at h_; cases h_; done))
             go_ret
             exact ⟨by first | rfl | (simp [errW_none, errW_some] <;> rfl) | (simp [*, errW_none, errW_some] <;> rfl), by repeat (first | (with_reducible first | exact HB.out | apply below_alloc | apply pw_below_drewN | apply below_drew1) | exact HB.out)⟩
           ·rw [if_neg c30] at H
            have c30b0 : (t464.toList == t444.toList) = false := beq_eq_false_iff_ne.mpr c30
            have c30b1 : (t464.toList != t444.toList) = true := bne_iff_ne.mpr c30
            first | (cases H.trans (congrArg some HRT.out); done) | skip
            all_goals
             obtain rfl := Option.some.inj H
             obtain ⟨Ao34, co34, eo34⟩ := Kd.R_slice HO_12.out
             subst eo34
             go_wp2_with (first | ((with_reducible refine gate_callee (f := 21) rfl ?_); refine goesL_ (some 92) rfl rfl Try.func21 z0 rfl #[.slice Ao34 t453.length co34, .string t444] rfl z5 ?_; (with_reducible refine (impl_ApplyOp.calls kj7 _ _ t453 t444 t462 true _ ?side1 ?side2 A24.out).mono ?_); (case side1 => repeat (first | exact (Kd.R_reads' HO_12.out).2.2 | (with_reducible refine Kd.C_alloc ?_ _) | (with_reducible refine Kd.C_drewN ?_ _) | (with_reducible refine Kd.C_drew ?_))); (case side2 => exact (Kd.R_reads' HO_12.out).2.1); rintro e w35 ⟨rfl, hb⟩; refine ⟨_, rfl, ?_⟩; have n0_ := Aside0.mk (Kd.R_below (by (with_reducible repeat (first | apply Kd.R_alloc | apply Kd.R_drewN | apply Kd.R_drew)); exact HO_12.out) hb); have n1_ := Aside0.mk (below_step z4 hb); clear HO_12; clear HB; have HO_12 := n0_; have HB := n1_; clear n0_ n1_; (try clear hb); (try clear hb2); (try clear hk); (try clear hi)) | ((with_reducible refine gate_callee (f := 28) rfl ?_); refine goesL_ (some 106) rfl rfl Try.func28 z0 rfl #[.string t444, .string t445, .string t445] rfl z5 ?_; (with_reducible refine (impl_ReplaceAll.calls kj7 t444 t445 t445 t464 t465 true _ A27.out).mono ?_); rintro e w36 ⟨rfl, hb⟩; refine ⟨_, rfl, ?_⟩; have n0_ := Aside0.mk (Kd.R_below (by (with_reducible repeat (first | apply Kd.R_alloc | apply Kd.R_drewN | apply Kd.R_drew)); exact HO_12.out) hb); have n1_ := Aside0.mk (below_step z4 hb); clear HO_12; clear HB; have HO_12 := n0_; have HB := n1_; clear n0_ n1_; (try clear hb); (try clear hb2); (try clear hk); (try clear hi)))
             all_goals (try (exfalso; rename_i h_; rw [c26b0] at h_; cases h_; done))
             all_goals (try (exfalso; rename_i h_; rw [c30b0] at h_; cases h_; done))
             go_ret
             exact ⟨by first | rfl | (simp [errW_none, errW_some] <;> rfl) | (simp [*, errW_none, errW_some] <;> rfl), by repeat (first | (with_reducible first | exact HB.out | apply below_alloc | apply pw_below_drewN | apply below_drew1) | exact HB.out)⟩
          ·replace c29 := Bool.eq_false_iff.mpr c29
           subst c29
           rw [if_neg (show ¬ (false = true) by decide)] at H
           first | (cases H.trans (congrArg some HRT.out); done) | skip
           all_goals
            obtain rfl := Option.some.inj H
            obtain ⟨Ao37, co37, eo37⟩ := Kd.R_slice HO_12.out
            subst eo37
            go_wp2_with (first | ((with_reducible refine gate_callee (f := 21) rfl ?_); refine goesL_ (some 92) rfl rfl Try.func21 z0 rfl #[.slice Ao37 t453.length co37, .string t444] rfl z5 ?_; (with_reducible refine (impl_ApplyOp.calls kj7 _ _ t453 t444 t462 true _ ?side1 ?side2 A24.out).mono ?_); (case side1 => repeat (first | exact (Kd.R_reads' HO_12.out).2.2 | (with_reducible refine Kd.C_alloc ?_ _) | (with_reducible refine Kd.C_drewN ?_ _) | (with_reducible refine Kd.C_drew ?_))); (case side2 => exact (Kd.R_reads' HO_12.out).2.1); rintro e w38 ⟨rfl, hb⟩; refine ⟨_, rfl, ?_⟩; have n0_ := Aside0.mk (Kd.R_below (by (with_reducible repeat (first | apply Kd.R_alloc | apply Kd.R_drewN | apply Kd.R_drew)); exact HO_12.out) hb); have n1_ := Aside0.mk (below_step z4 hb); clear HO_12; clear HB; have HO_12 := n0_; have HB := n1_; clear n0_ n1_; (try clear hb); (try clear hb2); (try clear hk); (try clear hi)) | ((with_reducible refine gate_callee (f := 28) rfl ?_); refine goesL_ (some 106) rfl rfl Try.func28 z0 rfl #[.string t444, .string t445, .string t445] rfl z5 ?_; (with_reducible refine (impl_ReplaceAll.calls kj7 t444 t445 t445 t464 t465 false _ A27.out).mono ?_); rintro e w39 ⟨rfl, hb⟩; refine ⟨_, rfl, ?_⟩; have n0_ := Aside0.mk (Kd.R_below (by (with_reducible repeat (first | apply Kd.R_alloc | apply Kd.R_drewN | apply Kd.R_drew)); exact HO_12.out) hb); have n1_ := Aside0.mk (below_step z4 hb); clear HO_12; clear HB; have HO_12 := n0_; have HB := n1_; clear n0_ n1_; (try clear hb); (try clear hb2); (try clear hk); (try clear hi)))
            all_goals (try (exfalso; rename_i h_; rw [c26b0] at h_; cases h_; done))
            go_ret
            exact ⟨by first | rfl | (simp [errW_none, errW_some] <;> rfl) | (simp [*, errW_none, errW_some] <;> rfl), by repeat (first | (with_reducible first | exact HB.out | apply below_alloc | apply pw_below_drewN | apply below_drew1) | exact HB.out)⟩
         ·rw [if_neg c28] at H
          have c28b0 : ((t447.size : Int) == (wrap64 ((t444.size : Int) + (wrap64 (t448 * (wrap64 ((t446.size : Int) - (t445.size : Int)))))))) = false := beq_eq_false_iff_ne.mpr c28
          have c28b1 : ((t447.size : Int) != (wrap64 ((t444.size : Int) + (wrap64 (t448 * (wrap64 ((t446.size : Int) - (t445.size : Int)))))))) = true := bne_iff_ne.mpr c28
          first | (cases H.trans (congrArg some HRT.out); done) | skip
          all_goals
           obtain rfl := Option.some.inj H
           obtain ⟨Ao40, co40, eo40⟩ := Kd.R_slice HO_12.out
           subst eo40
           go_wp2_with (first | ((with_reducible refine gate_callee (f := 21) rfl ?_); refine goesL_ (some 92) rfl rfl Try.func21 z0 rfl #[.slice Ao40 t453.length co40, .string t444] rfl z5 ?_; (with_reducible refine (impl_ApplyOp.calls kj7 _ _ t453 t444 t462 true _ ?side1 ?side2 A24.out).mono ?_); (case side1 => repeat (first | exact (Kd.R_reads' HO_12.out).2.2 | (with_reducible refine Kd.C_alloc ?_ _) | (with_reducible refine Kd.C_drewN ?_ _) | (with_reducible refine Kd.C_drew ?_))); (case side2 => exact (Kd.R_reads' HO_12.out).2.1); rintro e w41 ⟨rfl, hb⟩; refine ⟨_, rfl, ?_⟩; have n0_ := Aside0.mk (Kd.R_below (by (with_reducible repeat (first | apply Kd.R_alloc | apply Kd.R_drewN | apply Kd.R_drew)); exact HO_12.out) hb); have n1_ := Aside0.mk (below_step z4 hb); clear HO_12; clear HB; have HO_12 := n0_; have HB := n1_; clear n0_ n1_; (try clear hb); (try clear hb2); (try clear hk); (try clear hi)) | ((with_reducible refine gate_callee (f := 28) rfl ?_); refine goesL_ (some 106) rfl rfl Try.func28 z0 rfl #[.string t444, .string t445, .string t445] rfl z5 ?_; (with_reducible refine (impl_ReplaceAll.calls kj7 t444 t445 t445 t464 t465 t466 _ A27.out).mono ?_); rintro e w42 ⟨rfl, hb⟩; refine ⟨_, rfl, ?_⟩; have n0_ := Aside0.mk (Kd.R_below (by (with_reducible repeat (first | apply Kd.R_alloc | apply Kd.R_drewN | apply Kd.R_drew)); exact HO_12.out) hb); have n1_ := Aside0.mk (below_step z4 hb); clear HO_12; clear HB; have HO_12 := n0_; have HB := n1_; clear n0_ n1_; (try clear hb); (try clear hb2); (try clear hk); (try clear hi)))
           all_goals (try (exfalso; rename_i h_; rw [c26b0] at h_; cases h_; done))
           go_ret
           exact ⟨by first | rfl | (simp [errW_none, errW_some] <;> rfl) | (simp [*, errW_none, errW_some] <;> rfl), by repeat (first | (with_reducible first | exact HB.out | apply below_alloc | apply pw_below_drewN | apply below_drew1) | exact HB.out)⟩
        ·rw [if_neg c26] at H
         have c26b0 : (t462.toList == t447.toList) = false := beq_eq_false_iff_ne.mpr c26
         have c26b1 : (t462.toList != t447.toList) = true := bne_iff_ne.mpr c26
         first | (cases H.trans (congrArg some HRT.out); done) | skip
         all_goals
          obtain rfl := Option.some.inj H
          obtain ⟨Ao43, co43, eo43⟩ := Kd.R_slice HO_12.out
          subst eo43
          go_wp2_with (first | ((with_reducible refine gate_callee (f := 21) rfl ?_); refine goesL_ (some 92) rfl rfl Try.func21 z0 rfl #[.slice Ao43 t453.length co43, .string t444] rfl z5 ?_; (with_reducible refine (impl_ApplyOp.calls kj7 _ _ t453 t444 t462 true _ ?side1 ?side2 A24.out).mono ?_); (case side1 => repeat (first | exact (Kd.R_reads' HO_12.out).2.2 | (with_reducible refine Kd.C_alloc ?_ _) | (with_reducible refine Kd.C_drewN ?_ _) | (with_reducible refine Kd.C_drew ?_))); (case side2 => exact (Kd.R_reads' HO_12.out).2.1); rintro e w44 ⟨rfl, hb⟩; refine ⟨_, rfl, ?_⟩; have n0_ := Aside0.mk (Kd.R_below (by (with_reducible repeat (first | apply Kd.R_alloc | apply Kd.R_drewN | apply Kd.R_drew)); exact HO_12.out) hb); have n1_ := Aside0.mk (below_step z4 hb); clear HO_12; clear HB; have HO_12 := n0_; have HB := n1_; clear n0_ n1_; (try clear hb); (try clear hb2); (try clear hk); (try clear hi)))
          all_goals (try (exfalso; rename_i h_; rw [c26b0] at h_; cases h_; done))
          go_ret
          exact ⟨by first | rfl | (simp [errW_none, errW_some] <;> rfl) | (simp [*, errW_none, errW_some] <;> rfl), by repeat (first | (with_reducible first | exact HB.out | apply below_alloc | apply pw_below_drewN | apply below_drew1) | exact HB.out)⟩
       ·replace c25 := Bool.eq_false_iff.mpr c25
        subst c25
        rw [if_neg (show ¬ (false = true) by decide)] at H
        first | (cases H.trans (congrArg some HRT.out); done) | skip
        all_goals
         obtain rfl := Option.some.inj H
         obtain ⟨Ao45, co45, eo45⟩ := Kd.R_slice HO_12.out
         subst eo45
         go_wp2_with (first | ((with_reducible refine gate_callee (f := 21) rfl ?_); refine goesL_ (some 92) rfl rfl Try.func21 z0 rfl #[.slice Ao45 t453.length co45, .string t444] rfl z5 ?_; (with_reducible refine (impl_ApplyOp.calls kj7 _ _ t453 t444 t462 false _ ?side1 ?side2 A24.out).mono ?_); (case side1 => repeat (first | exact (Kd.R_reads' HO_12.out).2.2 | (with_reducible refine Kd.C_alloc ?_ _) | (with_reducible refine Kd.C_drewN ?_ _) | (with_reducible refine Kd.C_drew ?_))); (case side2 => exact (Kd.R_reads' HO_12.out).2.1); rintro e w46 ⟨rfl, hb⟩; refine ⟨_, rfl, ?_⟩; have n0_ := Aside0.mk (Kd.R_below (by (with_reducible repeat (first | apply Kd.R_alloc | apply Kd.R_drewN | apply Kd.R_drew)); exact HO_12.out) hb); have n1_ := Aside0.mk (below_step z4 hb); clear HO_12; clear HB; have HO_12 := n0_; have HB := n1_; clear n0_ n1_; (try clear hb); (try clear hb2); (try clear hk); (try clear hi)))
         go_ret
         exact ⟨by first | rfl | (simp [errW_none, errW_some] <;> rfl) | (simp [*, errW_none, errW_some] <;> rfl), by repeat (first | (with_reducible first | exact HB.out | apply below_alloc | apply pw_below_drewN | apply below_drew1) | exact HB.out)⟩
      ·replace c23 := Bool.eq_false_iff.mpr c23
       subst c23
       rw [if_neg (show ¬ (false = true) by decide)] at H
       replace H := Option.bind_eq_some_iff.mp H
       obtain ⟨⟨t467, t468, t469⟩, A470, H⟩ := H
       try dsimp only at H
       have A47 := Aside0.mk A470
       clear A470
       by_cases c48 : (t447.size : Int) = (wrap64 ((t444.size : Int) + (wrap64 (t448 * (wrap64 ((t446.size : Int) - (t445.size : Int)))))))
       ·rw [if_pos c48] at H
        have c48b0 : ((t447.size : Int) == (wrap64 ((t444.size : Int) + (wrap64 (t448 * (wrap64 ((t446.size : Int) - (t445.size : Int)))))))) = true := beq_iff_eq.mpr c48
        have c48b1 : ((t447.size : Int) != (wrap64 ((t444.size : Int) + (wrap64 (t448 * (wrap64 ((t446.size : Int) - (t445.size : Int)))))))) = false := bne_eq_false_iff_eq.mpr c48
        clear c48
        by_cases c49 : t469 = true
        ·subst c49
         rw [if_pos rfl] at H
         by_cases c50 : t467.toList = t444.toList
         ·rw [if_pos c50] at H
          have c50b0 : (t467.toList == t444.toList) = true := beq_iff_eq.mpr c50
          have c50b1 : (t467.toList != t444.toList) = false := bne_eq_false_iff_eq.mpr c50
          clear c50
          first | (cases H.trans (congrArg some HRT.out); done) | skip
          all_goals
           obtain rfl := Option.some.inj H
           go_wp2_with (first | ((with_reducible refine gate_callee (f := 28) rfl ?_); refine goesL_ (some 106) rfl rfl Try.func28 z0 rfl #[.string t444, .string t445, .string t445] rfl z5 ?_; (with_reducible refine (impl_ReplaceAll.calls kj7 t444 t445 t445 t467 t468 true _ A47.out).mono ?_); rintro e w51 ⟨rfl, hb⟩; refine ⟨_, rfl, ?_⟩; have n0_ := Aside0.mk (Kd.R_below (by (with_reducible repeat (first | apply Kd.R_alloc | apply Kd.R_drewN | apply Kd.R_drew)); exact HO_12.out) hb); have n1_ := Aside0.mk (below_step z4 hb); clear HO_12; clear HB; have HO_12 := n0_; have HB := n1_; clear n0_ n1_; (try clear hb); (try clear hb2); (try clear hk); (try clear hi)))
           all_goals (try (exfalso; rename_i h_; rw [c50b0] at h_; cases h_; done))
           go_ret
           exact ⟨by first | rfl | (simp [errW_none, errW_some] <;> rfl) | (simp [*, errW_none, errW_some] <;> rfl), by repeat (first | (with_reducible first | exact HB.out | apply below_alloc | apply pw_below_drewN | apply below_drew1) | exact HB.out)⟩
         ·rw [if_neg c50] at H
          have c50b0 : (t467.toList == t444.toList) = false := beq_eq_false_iff_ne.mpr c50
          have c50b1 : (t467.toList != t444.toList) = true := bne_iff_ne.mpr c50
          first | (cases H.trans (congrArg some HRT.out); done) | skip
          all_goals
           obtain rfl := Option.some.inj H
           go_wp2_with (first | ((with_reducible refine gate_callee (f := 28) rfl ?_); refine goesL_ (some 106) rfl rfl Try.func28 z0 rfl #[.string t444, .string t445, .string t445] rfl z5 ?_; (with_reducible refine (impl_ReplaceAll.calls kj7 t444 t445 t445 t467 t468 true _ A47.out).mono ?_); rintro e w52 ⟨rfl, hb⟩; refine ⟨_, rfl, ?_⟩; have n0_ := Aside0.mk (Kd.R_below (by (with_reducible repeat (first | apply Kd.R_alloc | apply Kd.R_drewN | apply Kd.R_drew)); exact HO_12.out) hb); have n1_ := Aside0.mk (below_step z4 hb); clear HO_12; clear HB; have HO_12 := n0_; have HB := n1_; clear n0_ n1_; (try clear hb); (try clear hb2); (try clear hk); (try clear hi)))
           all_goals (try (exfalso; rename_i h_; rw [c50b0] at h_; cases h_; done))
           go_ret
           exact ⟨by first | rfl | (simp [errW_none, errW_some] <;> rfl) | (simp [*, errW_none, errW_some] <;> rfl), by repeat (first | (with_reducible first | exact HB.out | apply below_alloc | apply pw_below_drewN | apply below_drew1) | exact HB.out)⟩
        ·replace c49 := Bool.eq_false_iff.mpr c49
         subst c49
         rw [if_neg (show ¬ (false = true) by decide)] at H
         first | (cases H.trans (congrArg some HRT.out); done) | skip
         all_goals
          obtain rfl := Option.some.inj H
          go_wp2_with (first | ((with_reducible refine gate_callee (f := 28) rfl ?_); refine goesL_ (some 106) rfl rfl Try.func28 z0 rfl #[.string t444, .string t445, .string t445] rfl z5 ?_; (with_reducible refine (impl_ReplaceAll.calls kj7 t444 t445 t445 t467 t468 false _ A47.out).mono ?_); rintro e w53 ⟨rfl, hb⟩; refine ⟨_, rfl, ?_⟩; have n0_ := Aside0.mk (Kd.R_below (by (with_reducible repeat (first | apply Kd.R_alloc | apply Kd.R_drewN | apply Kd.R_drew)); exact HO_12.out) hb); have n1_ := Aside0.mk (below_step z4 hb); clear HO_12; clear HB; have HO_12 := n0_; have HB := n1_; clear n0_ n1_; (try clear hb); (try clear hb2); (try clear hk); (try clear hi)))
          go_ret
          exact ⟨by first | rfl | (simp [errW_none, errW_some] <;> rfl) | (simp [*, errW_none, errW_some] <;> rfl), by repeat (first | (with_reducible first | exact HB.out | apply below_alloc | apply pw_below_drewN | apply below_drew1) | exact HB.out)⟩
       ·rw [if_neg c48] at H
        have c48b0 : ((t447.size : Int) == (wrap64 ((t444.size : Int) + (wrap64 (t448 * (wrap64 ((t446.size : Int) - (t445.size : Int)))))))) = false := beq_eq_false_iff_ne.mpr c48
        have c48b1 : ((t447.size : Int) != (wrap64 ((t444.size : Int) + (wrap64 (t448 * (wrap64 ((t446.size : Int) - (t445.size : Int)))))))) = true := bne_iff_ne.mpr c48
        first | (cases H.trans (congrArg some HRT.out); done) | skip
        all_goals
         obtain rfl := Option.some.inj H
         go_wp2_with (first | ((with_reducible refine gate_callee (f := 28) rfl ?_); refine goesL_ (some 106) rfl rfl Try.func28 z0 rfl #[.string t444, .string t445, .string t445] rfl z5 ?_; (with_reducible refine (impl_ReplaceAll.calls kj7 t444 t445 t445 t467 t468 t469 _ A47.out).mono ?_); rintro e w54 ⟨rfl, hb⟩; refine ⟨_, rfl, ?_⟩; have n0_ := Aside0.mk (Kd.R_below (by (with_reducible repeat (first | apply Kd.R_alloc | apply Kd.R_drewN | apply Kd.R_drew)); exact HO_12.out) hb); have n1_ := Aside0.mk (below_step z4 hb); clear HO_12; clear HB; have HO_12 := n0_; have HB := n1_; clear n0_ n1_; (try clear hb); (try clear hb2); (try clear hk); (try clear hi)))
         go_ret
         exact ⟨by first | rfl | (simp [errW_none, errW_some] <;> rfl) | (simp [*, errW_none, errW_some] <;> rfl), by repeat (first | (with_reducible first | exact HB.out | apply below_alloc | apply pw_below_drewN | apply below_drew1) | exact HB.out)⟩
     ·replace c22 := Bool.eq_false_iff.mpr c22
      subst c22
      rw [if_neg (show ¬ (false = true) by decide)] at H
      first | (cases H.trans (congrArg some HRT.out); done) | skip
      all_goals
       obtain rfl := Option.some.inj H
       go_wp2
       go_ret
       exact ⟨by first | rfl | (simp [errW_none, errW_some] <;> rfl) | (simp [*, errW_none, errW_some] <;> rfl), by repeat (first | (with_reducible first | exact HB.out | apply below_alloc | apply pw_below_drewN | apply below_drew1) | exact HB.out)⟩

/-- THE ONE PURE STATEMENT of laws_FnReplaced: yours. -/
def laws_FnReplaced.Pure : Prop := ∀ (l0 : List Int), l0.length ≤ maxLen → l0.length * 1 ≤ 140737488351232 → (∀ x ∈ l0, (Lit.int .u8 x).wf = true) → ∃ k, laws_FnReplaced.f k l0 = some true
theorem laws_FnReplaced.walk (P : laws_FnReplaced.Pure) (a0 : Option Addr) (len0 cap0 : Nat) (z0 : List Int) (w : World) (w0 : (a0 = none ∧ len0 = 0 ∧ cap0 = 0 ∧ z0 = []) ∨ ∃ x, a0 = some x ∧ len0 ≤ cap0 ∧ cap0 ≤ maxLen ∧ z0.length = cap0 ∧ (∀ i, i < z0.length → w.cell? (x.add i) = some (.int .u8 (z0.getD i 0))) ∧ ∀ n ∈ z0, (Lit.int .u8 n).wf = true) (y0 : len0 * 1 ≤ 140737488351232) :
  Calls Try.prog 7 #[.slice a0 len0 cap0] w fun e w' => e = .returned (.bool true) ∧ Below w.heap.size w w' := by
 obtain ⟨l0, rfl, hr0, hm0, hw0, hc0⟩ := ReadsInt.ofRowC w0
 obtain ⟨k, h⟩ := P l0 hm0 y0 hw0
 refine (laws_FnReplaced.calls k _ _ l0 true ⟨rfl⟩ w (Kd.C_of_reads (d := (0 : Int)) (h1 := fun _ => rfl) hr0) hc0 h).mono ?_
 rintro e w' ⟨rfl, hd⟩
 exact ⟨rfl, hd⟩

end Go.Proofs.Ytpbelbckinpinaa.AFnReplaced
