-- this session's own text: written by wip/tools/ownprint.py over the kit's print
import Derived.Test.YtmigfgcpdelnfaaAFnExactReachOfx0
import Derived.Test.YtmigfgcpdelnfaaAFnExactReachOfx6
namespace Go.Proofs.Ytmigfgcpdelnfaa.AFnExactReachOf
open Go.RowKit Go.Proofs.YtmigfgcpdelnfaaW.PrintWords Go.Proofs.YtmigfgcpdelnfaaW.PrintLast Go.Proofs.YtmigfgcpdelnfaaW.PrintMore
attribute [local go_sem] max2_int min2_int max_two min_two max_three min_three max_four min_four   -- for this text's walks alone
set_option linter.unusedVariables false
set_option linter.unusedSimpArgs false

/-! ### spec_ReachOf: function 15 -/
def spec_ReachOf.f (k : Nat) (a0 : ByteArray) (a1_0 : Int) (a1_1 : Int) (a1_2 : Int) (a1_3 : ByteArray) : Option (Int × Int × Bool) := (spec_DoCommand.f k a0 a1_0 a1_1 a1_2 a1_3).bind fun bt238 => (if bt238.2 = true then ((spec_l8Common.f k a0 bt238.1).bind fun bt240 => (some (bt240.1, bt240.2, true))) else (some (0, 0, false)))
theorem spec_ReachOf.mono : ∀ a0 a1 a2 a3 a4 k, LeO (spec_ReachOf.f k a0 a1 a2 a3 a4) (spec_ReachOf.f (k + 1) a0 a1 a2 a3 a4) := by
 intro a0 a1 a2 a3 a4 k
 unfold spec_ReachOf.f
 repeat' first
   | (with_reducible exact spec_DoCommand.mono _ _ _ _ _ _)
   | (with_reducible exact spec_l8Common.mono _ _ _)
   | (with_reducible exact LeO.refl _)
   | (with_reducible exact LeO.none _)
   | (with_reducible refine LeO.ite ?_ ?_)
   | (with_reducible refine LeO.bind ?_ (fun _ => ?_))
   | exact spec_DoCommand.mono _ _ _ _ _ _
   | exact spec_l8Common.mono _ _ _
   | exact LeO.none _
   | refine LeO.ite ?_ ?_
   | refine LeO.bind ?_ (fun _ => ?_)
set_option maxHeartbeats 8000000 in
set_option maxRecDepth 100000 in
theorem spec_ReachOf.calls (k : Nat) (a0 : ByteArray) (a1_0 : Int) (a1_1 : Int) (a1_2 : Int) (a1_3 : ByteArray) (r1 : Int) (r2 : Int) (r3 : Bool) (w : World) (h : spec_ReachOf.f k a0 a1_0 a1_1 a1_2 a1_3 = some (r1, r2, r3)) :
  Calls Try.prog 15 #[.string a0, .agg #[.int .i64 a1_0, .int .i64 a1_1, .int .i64 a1_2, .string a1_3]] w fun e w' => e = .returned (.tuple #[.int .i64 r1, .int .i64 r2, .bool r3]) ∧ Below w.heap.size w w' := by
 have hu29 := Try.underlying29
 have HB := Aside0.mk (Below.refl w.heap.size w)
 have H : ((spec_DoCommand.f k a0 a1_0 a1_1 a1_2 a1_3).bind fun bt238 => (if bt238.2 = true then ((spec_l8Common.f k a0 bt238.1).bind fun bt240 => (some (bt240.1, bt240.2, true))) else (some (0, 0, false)))) = some (r1, r2, r3) := h
 clear h
 replace H := Option.bind_eq_some_iff.mp H
 obtain ⟨⟨t238, t239⟩, A30, H⟩ := H
 try dsimp only at H
 have A3 := Aside0.mk A30
 clear A30
 by_cases c4 : t239 = true
 ·subst c4
  rw [if_pos rfl] at H
  replace H := Option.bind_eq_some_iff.mp H
  obtain ⟨⟨t240, t241⟩, A50, H⟩ := H
  try dsimp only at H
  have A5 := Aside0.mk A50
  clear A50
  simp only [Option.some.injEq, Prod.mk.injEq] at H
  obtain ⟨rfl, rfl, rfl⟩ := H
  go_enter Try.func15, Try.ntmps15
  go_wp2_with (first | ((with_reducible refine gate_dst (N := 3) rfl ?_); refine box_event ?hg (N := 3) ?hd (cs := #[.int .i64 a1_0, .int .i64 a1_1, .int .i64 a1_2, .string a1_3]) (t := 29) ?hr ?_; (case hd => rfl); (case hg => rfl); (case hr => first | (go_simp; done) | (go_simp; rfl)); intro gb237 hg w6 hbox hb; have n0_ := Aside0.mk (below_step z11 hb); have n1_ := Aside0.mk (hbox); have n2_ := Aside0.mk ((by rw [hg]; exact (below_size z11) : w.heap.size ≤ gb237)); have n3_ := Aside0.mk ((by rw [hg]; exact (below_size z11) : w.heap.size ≤ gb237)); clear HB; have HB := n0_; have BK237 := n1_; have GW237 := n2_; have GE237 := n3_; clear n0_ n1_ n2_ n3_; clear hb hbox hg; have hcz7_0 : w6.cell? ⟨gb237, 0, none⟩ = some (.int .i64 a1_0) := (blk_cell BK237.out 0).trans rfl; have hcz7_1 : w6.cell? ⟨gb237, 1, none⟩ = some (.int .i64 a1_1) := (blk_cell BK237.out 1).trans rfl; have hcz7_2 : w6.cell? ⟨gb237, 2, none⟩ = some (.int .i64 a1_2) := (blk_cell BK237.out 2).trans rfl; have hcz7_3 : w6.cell? ⟨gb237, 3, none⟩ = some (.string a1_3) := (blk_cell BK237.out 3).trans rfl; have hfz7_0 := blk_frozen BK237.out 0; have hfz7_1 := blk_frozen BK237.out 1; have hfz7_2 := blk_frozen BK237.out 2; have hfz7_3 := blk_frozen BK237.out 3) | ((with_reducible refine gate_callee (f := 12) rfl ?_); refine goesL_ (some 14) rfl rfl Try.func12 z0 rfl #[.string a0, .agg #[.int .i64 a1_0, .int .i64 a1_1, .int .i64 a1_2, .string a1_3]] rfl z12 ?_; (with_reducible refine (spec_DoCommand.calls k a0 a1_0 a1_1 a1_2 a1_3 t238 true _ A3.out).mono ?_); rintro e w8 ⟨rfl, hb⟩; refine ⟨_, rfl, ?_⟩; have n0_ := Aside0.mk (blk_below (g := gb237) (o := .cells #[.int .i64 a1_0, .int .i64 a1_1, .int .i64 a1_2, .string a1_3] 29 (0, 0)) (by (with_reducible repeat (first | refine blk_drewN ?_ _ | refine blk_drew ?_ | refine blk_alloc ?_ _)); exact BK237.out) hb); have n1_ := Aside0.mk (below_step (by repeat (first | (with_reducible first | exact HB.out | apply below_alloc | apply pw_below_drewN | apply below_drew1 | refine below_set ?_ GE237.out) | exact HB.out)) hb); clear BK237; clear HB; have BK237 := n0_; have HB := n1_; clear n0_ n1_; (try clear hb); (try clear hb2); (try clear hk); (try clear hi)) | ((with_reducible refine gate_callee (f := 36) rfl ?_); refine goesL_ (some 22) rfl rfl Try.func36 z0 rfl #[.string a0, .string t238] rfl z12 ?_; (with_reducible refine (spec_l8Common.calls k a0 t238 t240 t241 _ A5.out).mono ?_); rintro e w' ⟨rfl, ⟨nd, rfl⟩⟩; refine ⟨_, rfl, ?_⟩))
  go_ret3
  exact ⟨by first | rfl | (simp [errW_none, errW_some] <;> rfl) | (simp [*, errW_none, errW_some] <;> rfl), by repeat (first | (with_reducible first | exact HB.out | apply below_alloc | apply pw_below_drewN | apply below_drew1 | refine below_set ?_ GE237.out) | exact HB.out)⟩
 ·replace c4 := Bool.eq_false_iff.mpr c4
  subst c4
  rw [if_neg (show ¬ (false = true) by decide)] at H
  simp only [Option.some.injEq, Prod.mk.injEq] at H
  obtain ⟨rfl, rfl, rfl⟩ := H
  go_enter Try.func15, Try.ntmps15
  go_wp2_with (first | ((with_reducible refine gate_dst (N := 3) rfl ?_); refine box_event ?hg (N := 3) ?hd (cs := #[.int .i64 a1_0, .int .i64 a1_1, .int .i64 a1_2, .string a1_3]) (t := 29) ?hr ?_; (case hd => rfl); (case hg => rfl); (case hr => first | (go_simp; done) | (go_simp; rfl)); intro gb237 hg w9 hbox hb; have n0_ := Aside0.mk (below_step z11 hb); have n1_ := Aside0.mk (hbox); have n2_ := Aside0.mk ((by rw [hg]; exact (below_size z11) : w.heap.size ≤ gb237)); have n3_ := Aside0.mk ((by rw [hg]; exact (below_size z11) : w.heap.size ≤ gb237)); clear HB; have HB := n0_; have BK237 := n1_; have GW237 := n2_; have GE237 := n3_; clear n0_ n1_ n2_ n3_; clear hb hbox hg; have hcz10_0 : w9.cell? ⟨gb237, 0, none⟩ = some (.int .i64 a1_0) := (blk_cell BK237.out 0).trans rfl; have hcz10_1 : w9.cell? ⟨gb237, 1, none⟩ = some (.int .i64 a1_1) := (blk_cell BK237.out 1).trans rfl; have hcz10_2 : w9.cell? ⟨gb237, 2, none⟩ = some (.int .i64 a1_2) := (blk_cell BK237.out 2).trans rfl; have hcz10_3 : w9.cell? ⟨gb237, 3, none⟩ = some (.string a1_3) := (blk_cell BK237.out 3).trans rfl; have hfz10_0 := blk_frozen BK237.out 0; have hfz10_1 := blk_frozen BK237.out 1; have hfz10_2 := blk_frozen BK237.out 2; have hfz10_3 := blk_frozen BK237.out 3) | ((with_reducible refine gate_callee (f := 12) rfl ?_); refine goesL_ (some 14) rfl rfl Try.func12 z0 rfl #[.string a0, .agg #[.int .i64 a1_0, .int .i64 a1_1, .int .i64 a1_2, .string a1_3]] rfl z12 ?_; (with_reducible refine (spec_DoCommand.calls k a0 a1_0 a1_1 a1_2 a1_3 t238 false _ A3.out).mono ?_); rintro e w11 ⟨rfl, hb⟩; refine ⟨_, rfl, ?_⟩; have n0_ := Aside0.mk (blk_below (g := gb237) (o := .cells #[.int .i64 a1_0, .int .i64 a1_1, .int .i64 a1_2, .string a1_3] 29 (0, 0)) (by (with_reducible repeat (first | refine blk_drewN ?_ _ | refine blk_drew ?_ | refine blk_alloc ?_ _)); exact BK237.out) hb); have n1_ := Aside0.mk (below_step (by repeat (first | (with_reducible first | exact HB.out | apply below_alloc | apply pw_below_drewN | apply below_drew1 | refine below_set ?_ GE237.out) | exact HB.out)) hb); clear BK237; clear HB; have BK237 := n0_; have HB := n1_; clear n0_ n1_; (try clear hb); (try clear hb2); (try clear hk); (try clear hi)))
  go_ret3
  exact ⟨by first | rfl | (simp [errW_none, errW_some] <;> rfl) | (simp [*, errW_none, errW_some] <;> rfl), by repeat (first | (with_reducible first | exact HB.out | apply below_alloc | apply pw_below_drewN | apply below_drew1 | refine below_set ?_ GE237.out) | exact HB.out)⟩

/-! ### impl_isName: function 50 -/
def impl_isName.f (a0 : Int) : Option (Bool) := if a0 ≥ 65 then (some (decide (a0 ≤ 70))) else (some false)
set_option maxHeartbeats 8000000 in
set_option maxRecDepth 100000 in
theorem impl_isName.calls (a0 : Int) (r : Bool) (w : World) (h : impl_isName.f a0 = some r) :
  Calls Try.prog 50 #[.int .u8 a0] w fun e w' => e = .returned (.bool r) ∧ Drawn0 w w' := by
 have H : (if a0 ≥ 65 then (some (decide (a0 ≤ 70))) else (some false)) = some r := h
 clear h
 by_cases c2 : a0 ≥ 65
 ·rw [if_pos c2] at H
  have c2b0 : decide (65 ≤ a0) = true := decide_eq_true c2
  clear c2
  obtain rfl := Option.some.inj H
  go_enter Try.func50, Try.ntmps50
  go_wp2
  go_ret
  exact ⟨by first | rfl | (simp; done) | (simp [*]; done), by repeat (first | exact Drawn0.refl _ | apply Drawn0.step)⟩
 ·rw [if_neg c2] at H
  have c2b0 : decide (65 ≤ a0) = false := decide_eq_false c2
  clear c2
  obtain rfl := Option.some.inj H
  go_enter Try.func50, Try.ntmps50
  go_wp2
  go_ret
  exact ⟨by first | rfl | (simp; done) | (simp [*]; done), by repeat (first | exact Drawn0.refl _ | apply Drawn0.step)⟩

/-! ### impl_isPlain: function 51 -/
def impl_isPlain.f (a0 : Int) : Option (Bool) := if a0 ≥ 97 then (if a0 ≤ 122 then (some true) else (if a0 ≥ 48 then (if a0 ≤ 57 then (some true) else (if a0 = 32 then (some true) else (if a0 = 46 then (some true) else (some (a0 == 44))))) else (if a0 = 32 then (some true) else (if a0 = 46 then (some true) else (some (a0 == 44)))))) else (if a0 ≥ 48 then (if a0 ≤ 57 then (some true) else (if a0 = 32 then (some true) else (if a0 = 46 then (some true) else (some (a0 == 44))))) else (if a0 = 32 then (some true) else (if a0 = 46 then (some true) else (some (a0 == 44)))))
set_option maxHeartbeats 8000000 in
set_option maxRecDepth 100000 in
theorem impl_isPlain.calls (a0 : Int) (r : Bool) (w : World) (h : impl_isPlain.f a0 = some r) :
  Calls Try.prog 51 #[.int .u8 a0] w fun e w' => e = .returned (.bool r) ∧ Drawn0 w w' := by
 have H : (if a0 ≥ 97 then (if a0 ≤ 122 then (some true) else (if a0 ≥ 48 then (if a0 ≤ 57 then (some true) else (if a0 = 32 then (some true) else (if a0 = 46 then (some true) else (some (a0 == 44))))) else (if a0 = 32 then (some true) else (if a0 = 46 then (some true) else (some (a0 == 44)))))) else (if a0 ≥ 48 then (if a0 ≤ 57 then (some true) else (if a0 = 32 then (some true) else (if a0 = 46 then (some true) else (some (a0 == 44))))) else (if a0 = 32 then (some true) else (if a0 = 46 then (some true) else (some (a0 == 44)))))) = some r := h
 clear h
 by_cases c2 : a0 ≥ 97
 ·rw [if_pos c2] at H
  have c2b0 : decide (97 ≤ a0) = true := decide_eq_true c2
  clear c2
  by_cases c3 : a0 ≤ 122
  ·rw [if_pos c3] at H
   have c3b0 : decide (a0 ≤ 122) = true := decide_eq_true c3
   clear c3
   obtain rfl := Option.some.inj H
   go_enter Try.func51, Try.ntmps51
   go_wp2
   go_ret
   exact ⟨by first | rfl | (simp; done) | (simp [*]; done), by repeat (first | exact Drawn0.refl _ | apply Drawn0.step)⟩
  ·rw [if_neg c3] at H
   have c3b0 : decide (a0 ≤ 122) = false := decide_eq_false c3
   clear c3
   by_cases c4 : a0 ≥ 48
   ·rw [if_pos c4] at H
    have c4b0 : decide (48 ≤ a0) = true := decide_eq_true c4
    clear c4
    by_cases c5 : a0 ≤ 57
    ·rw [if_pos c5] at H
     have c5b0 : decide (a0 ≤ 57) = true := decide_eq_true c5
     clear c5
     obtain rfl := Option.some.inj H
     go_enter Try.func51, Try.ntmps51
     go_wp2
     go_ret
     exact ⟨by first | rfl | (simp; done) | (simp [*]; done), by repeat (first | exact Drawn0.refl _ | apply Drawn0.step)⟩
    ·rw [if_neg c5] at H
     have c5b0 : decide (a0 ≤ 57) = false := decide_eq_false c5
     clear c5
     by_cases c6 : a0 = 32
     ·rw [if_pos c6] at H
      have c6b0 : (a0 == 32) = true := beq_iff_eq.mpr c6
      have c6b1 : (a0 != 32) = false := bne_eq_false_iff_eq.mpr c6
      clear c6
      obtain rfl := Option.some.inj H
      go_enter Try.func51, Try.ntmps51
      go_wp2
      go_ret
      exact ⟨by first | rfl | (simp; done) | (simp [*]; done), by repeat (first | exact Drawn0.refl _ | apply Drawn0.step)⟩
     ·rw [if_neg c6] at H
      have c6b0 : (a0 == 32) = false := beq_eq_false_iff_ne.mpr c6
      have c6b1 : (a0 != 32) = true := bne_iff_ne.mpr c6
      by_cases c7 : a0 = 46
      ·rw [if_pos c7] at H
       have c7b0 : (a0 == 46) = true := beq_iff_eq.mpr c7
       have c7b1 : (a0 != 46) = false := bne_eq_false_iff_eq.mpr c7
       clear c7
       obtain rfl := Option.some.inj H
       go_enter Try.func51, Try.ntmps51
       go_wp2
       go_ret
       exact ⟨by first | rfl | (simp; done) | (simp [*]; done), by repeat (first | exact Drawn0.refl _ | apply Drawn0.step)⟩
      ·rw [if_neg c7] at H
       have c7b0 : (a0 == 46) = false := beq_eq_false_iff_ne.mpr c7
       have c7b1 : (a0 != 46) = true := bne_iff_ne.mpr c7
       obtain rfl := Option.some.inj H
       go_enter Try.func51, Try.ntmps51
       go_wp2
       go_ret
       exact ⟨by first | rfl | (simp; done) | (simp [*]; done), by repeat (first | exact Drawn0.refl _ | apply Drawn0.step)⟩
   ·rw [if_neg c4] at H
    have c4b0 : decide (48 ≤ a0) = false := decide_eq_false c4
    clear c4
    by_cases c8 : a0 = 32
    ·rw [if_pos c8] at H
     have c8b0 : (a0 == 32) = true := beq_iff_eq.mpr c8
     have c8b1 : (a0 != 32) = false := bne_eq_false_iff_eq.mpr c8
     clear c8
     obtain rfl := Option.some.inj H
     go_enter Try.func51, Try.ntmps51
     go_wp2
     go_ret
     exact ⟨by first | rfl | (simp; done) | (simp [*]; done), by repeat (first | exact Drawn0.refl _ | apply Drawn0.step)⟩
    ·rw [if_neg c8] at H
     have c8b0 : (a0 == 32) = false := beq_eq_false_iff_ne.mpr c8
     have c8b1 : (a0 != 32) = true := bne_iff_ne.mpr c8
     by_cases c9 : a0 = 46
     ·rw [if_pos c9] at H
      have c9b0 : (a0 == 46) = true := beq_iff_eq.mpr c9
      have c9b1 : (a0 != 46) = false := bne_eq_false_iff_eq.mpr c9
      clear c9
      obtain rfl := Option.some.inj H
      go_enter Try.func51, Try.ntmps51
      go_wp2
      go_ret
      exact ⟨by first | rfl | (simp; done) | (simp [*]; done), by repeat (first | exact Drawn0.refl _ | apply Drawn0.step)⟩
     ·rw [if_neg c9] at H
      have c9b0 : (a0 == 46) = false := beq_eq_false_iff_ne.mpr c9
      have c9b1 : (a0 != 46) = true := bne_iff_ne.mpr c9
      obtain rfl := Option.some.inj H
      go_enter Try.func51, Try.ntmps51
      go_wp2
      go_ret
      exact ⟨by first | rfl | (simp; done) | (simp [*]; done), by repeat (first | exact Drawn0.refl _ | apply Drawn0.step)⟩
 ·rw [if_neg c2] at H
  have c2b0 : decide (97 ≤ a0) = false := decide_eq_false c2
  clear c2
  by_cases c10 : a0 ≥ 48
  ·rw [if_pos c10] at H
   have c10b0 : decide (48 ≤ a0) = true := decide_eq_true c10
   clear c10
   by_cases c11 : a0 ≤ 57
   ·rw [if_pos c11] at H
    have c11b0 : decide (a0 ≤ 57) = true := decide_eq_true c11
    clear c11
    obtain rfl := Option.some.inj H
    go_enter Try.func51, Try.ntmps51
    go_wp2
    go_ret
    exact ⟨by first | rfl | (simp; done) | (simp [*]; done), by repeat (first | exact Drawn0.refl _ | apply Drawn0.step)⟩
   ·rw [if_neg c11] at H
    have c11b0 : decide (a0 ≤ 57) = false := decide_eq_false c11
    clear c11
    by_cases c12 : a0 = 32
    ·rw [if_pos c12] at H
     have c12b0 : (a0 == 32) = true := beq_iff_eq.mpr c12
     have c12b1 : (a0 != 32) = false := bne_eq_false_iff_eq.mpr c12
     clear c12
     obtain rfl := Option.some.inj H
     go_enter Try.func51, Try.ntmps51
     go_wp2
     go_ret
     exact ⟨by first | rfl | (simp; done) | (simp [*]; done), by repeat (first | exact Drawn0.refl _ | apply Drawn0.step)⟩
    ·rw [if_neg c12] at H
     have c12b0 : (a0 == 32) = false := beq_eq_false_iff_ne.mpr c12
     have c12b1 : (a0 != 32) = true := bne_iff_ne.mpr c12
     by_cases c13 : a0 = 46
     ·rw [if_pos c13] at H
      have c13b0 : (a0 == 46) = true := beq_iff_eq.mpr c13
      have c13b1 : (a0 != 46) = false := bne_eq_false_iff_eq.mpr c13
      clear c13
      obtain rfl := Option.some.inj H
      go_enter Try.func51, Try.ntmps51
      go_wp2
      go_ret
      exact ⟨by first | rfl | (simp; done) | (simp [*]; done), by repeat (first | exact Drawn0.refl _ | apply Drawn0.step)⟩
     ·rw [if_neg c13] at H
      have c13b0 : (a0 == 46) = false := beq_eq_false_iff_ne.mpr c13
      have c13b1 : (a0 != 46) = true := bne_iff_ne.mpr c13
      obtain rfl := Option.some.inj H
      go_enter Try.func51, Try.ntmps51
      go_wp2
      go_ret
      exact ⟨by first | rfl | (simp; done) | (simp [*]; done), by repeat (first | exact Drawn0.refl _ | apply Drawn0.step)⟩
  ·rw [if_neg c10] at H
   have c10b0 : decide (48 ≤ a0) = false := decide_eq_false c10
   clear c10
   by_cases c14 : a0 = 32
   ·rw [if_pos c14] at H
    have c14b0 : (a0 == 32) = true := beq_iff_eq.mpr c14
    have c14b1 : (a0 != 32) = false := bne_eq_false_iff_eq.mpr c14
    clear c14
    obtain rfl := Option.some.inj H
    go_enter Try.func51, Try.ntmps51
    go_wp2
    go_ret
    exact ⟨by first | rfl | (simp; done) | (simp [*]; done), by repeat (first | exact Drawn0.refl _ | apply Drawn0.step)⟩
   ·rw [if_neg c14] at H
    have c14b0 : (a0 == 32) = false := beq_eq_false_iff_ne.mpr c14
    have c14b1 : (a0 != 32) = true := bne_iff_ne.mpr c14
    by_cases c15 : a0 = 46
    ·rw [if_pos c15] at H
     have c15b0 : (a0 == 46) = true := beq_iff_eq.mpr c15
     have c15b1 : (a0 != 46) = false := bne_eq_false_iff_eq.mpr c15
     clear c15
     obtain rfl := Option.some.inj H
     go_enter Try.func51, Try.ntmps51
     go_wp2
     go_ret
     exact ⟨by first | rfl | (simp; done) | (simp [*]; done), by repeat (first | exact Drawn0.refl _ | apply Drawn0.step)⟩
    ·rw [if_neg c15] at H
     have c15b0 : (a0 == 46) = false := beq_eq_false_iff_ne.mpr c15
     have c15b1 : (a0 != 46) = true := bne_iff_ne.mpr c15
     obtain rfl := Option.some.inj H
     go_enter Try.func51, Try.ntmps51
     go_wp2
     go_ret
     exact ⟨by first | rfl | (simp; done) | (simp [*]; done), by repeat (first | exact Drawn0.refl _ | apply Drawn0.step)⟩

/-! ### impl_GoodText: function 45 -/
def impl_GoodText.l0 : Nat → ByteArray → Int → Int → Option (Bool)
 | 0, _, _, _ => none
 | k + 1, x0, x5, x6 => if x6 < x5 then (if 0 ≤ x6 then (if x6 < (x0.size : Int) then ((impl_isName.f (bt x0 x6)).bind fun t242 => (if t242 = true then (impl_GoodText.l0 k x0 x5 (wrap64 (x6 + 1))) else ((impl_isPlain.f (bt x0 x6)).bind fun t243 => (if t243 = true then (impl_GoodText.l0 k x0 x5 (wrap64 (x6 + 1))) else (if (bt x0 x6) = 47 then (impl_GoodText.l0 k x0 x5 (wrap64 (x6 + 1))) else (some false)))))) else (none)) else (none)) else (some (decide ((x0.size : Int) ≤ 300)))
def impl_GoodText.f (k : Nat) (a0 : ByteArray) : Option (Bool) := impl_GoodText.l0 k a0 (a0.size : Int) 0
theorem impl_GoodText.mono_l : ∀ k, (∀ y0 y1 y2, LeO (impl_GoodText.l0 k y0 y1 y2) (impl_GoodText.l0 (k + 1) y0 y1 y2))
 | 0 => fun _ _ _ r h => by simp [impl_GoodText.l0] at h
 | k + 1 => by
  have ih0 := impl_GoodText.mono_l k
  ·intro y0 y1 y2
   unfold impl_GoodText.l0
   repeat' first
   | (with_reducible exact ih0 _ _ _)
   | (with_reducible exact LeO.refl _)
   | (with_reducible exact LeO.none _)
   | (with_reducible refine LeO.ite ?_ ?_)
   | (with_reducible refine LeO.bind ?_ (fun _ => ?_))
   | exact ih0 _ _ _
   | exact LeO.none _
   | refine LeO.ite ?_ ?_
   | refine LeO.bind ?_ (fun _ => ?_)
theorem impl_GoodText.mono : ∀ a0 k, LeO (impl_GoodText.f k a0) (impl_GoodText.f (k + 1) a0) := by
 intro a0 k
 have ih0 := impl_GoodText.mono_l k
 unfold impl_GoodText.f
 repeat' first
   | (with_reducible exact ih0 _ _ _)
   | (with_reducible exact LeO.refl _)
   | (with_reducible exact LeO.none _)
   | (with_reducible refine LeO.ite ?_ ?_)
   | (with_reducible refine LeO.bind ?_ (fun _ => ?_))
   | exact ih0 _ _ _
   | exact LeO.none _
   | refine LeO.ite ?_ ?_
   | refine LeO.bind ?_ (fun _ => ?_)
set_option maxHeartbeats 8000000 in
set_option maxRecDepth 100000 in
theorem impl_GoodText.calls (k : Nat) (a0 : ByteArray) (r : Bool) (w : World) (h : impl_GoodText.f k a0 = some r) :
  Calls Try.prog 45 #[.string a0] w fun e w' => e = .returned (.bool r) ∧ Drawn0 w w' := by
 have H : (impl_GoodText.l0 k a0 (a0.size : Int) 0) = some r := h
 clear h
 have H' := Aside0.mk H
 clear H
 go_enter Try.func45, Try.ntmps45
 go_wp2
 go_loopg [6] k (fun kq v6 w' => ∃ (x6_1 : Int), v6 = .int .i64 x6_1 ∧ Aside0 (impl_GoodText.l0 kq a0 (a0.size : Int) x6_1 = some r) ∧ Aside0 (kq ≤ k) ∧ Drawn0 w w')
 case atStart => exact ⟨(0), z1, H', ⟨Nat.le_refl _⟩, by repeat (first | exact Drawn0.refl _ | apply Drawn0.step)⟩
 case round =>
  clear H'
  obtain ⟨x6_1, rfl, HA, HK1, ⟨m1, rfl⟩⟩ := hrel
  cases gk with
  | zero => exact absurd HA.out (by simp [impl_GoodText.l0])
  | succ k1 =>
   have H := HA.out
   clear HA
   simp only [impl_GoodText.l0] at H
   by_cases c2 : x6_1 < (a0.size : Int)
   ·rw [if_pos c2] at H
    have c2b0 : decide (x6_1 < (a0.size : Int)) = true := decide_eq_true c2
    clear c2
    by_cases c3 : 0 ≤ x6_1
    ·rw [if_pos c3] at H
     have c3b0 : decide (0 ≤ x6_1) = true := decide_eq_true c3
     clear c3
     by_cases c4 : x6_1 < (a0.size : Int)
     ·rw [if_pos c4] at H
      have c4b0 : decide (x6_1 < (a0.size : Int)) = true := decide_eq_true c4
      clear c4
      replace H := Option.bind_eq_some_iff.mp H
      obtain ⟨t242, A60, H⟩ := H
      try dsimp only at H
      have A6 := Aside0.mk A60
      clear A60
      by_cases c7 : t242 = true
      ·subst c7
       rw [if_pos rfl] at H
       have H' := Aside0.mk H
       clear H
       have p5 : 0 ≤ (x6_1 : Int) := of_decide_eq_true z2
       have q5 : x6_1 < (a0.size : Int) := of_decide_eq_true z2
       have hx5 := bt_at a0 x6_1
       replace p5 := eq_true p5
       replace q5 := eq_true q5
       go_wp2_with (first | ((with_reducible refine gate_callee (f := 50) rfl ?_); refine goesL_ (some 12) rfl rfl Try.func50 z0 rfl #[.int .u8 (bt a0 x6_1)] rfl z12 ?_; (with_reducible refine (impl_isName.calls (bt a0 x6_1) true _ A6.out).mono ?_); rintro e w' ⟨rfl, ⟨nd, rfl⟩⟩; refine ⟨_, rfl, ?_⟩))
       go_roundg k1
       case measure => have := HK1.out; omega
       case rel => exact ⟨(wrap64 (x6_1 + 1)), z1, H', ⟨by have := HK1.out; omega⟩, by repeat (first | exact Drawn0.refl _ | apply Drawn0.step)⟩
      ·replace c7 := Bool.eq_false_iff.mpr c7
       subst c7
       rw [if_neg (show ¬ (false = true) by decide)] at H
       replace H := Option.bind_eq_some_iff.mp H
       obtain ⟨t243, A90, H⟩ := H
       try dsimp only at H
       have A9 := Aside0.mk A90
       clear A90
       by_cases c10 : t243 = true
       ·subst c10
        rw [if_pos rfl] at H
        have H' := Aside0.mk H
        clear H
        have p5 : 0 ≤ (x6_1 : Int) := of_decide_eq_true z2
        have q5 : x6_1 < (a0.size : Int) := of_decide_eq_true z2
        have hx5 := bt_at a0 x6_1
        replace p5 := eq_true p5
        replace q5 := eq_true q5
        go_wp2_with (first | ((with_reducible refine gate_callee (f := 50) rfl ?_); refine goesL_ (some 12) rfl rfl Try.func50 z0 rfl #[.int .u8 (bt a0 x6_1)] rfl z12 ?_; (with_reducible refine (impl_isName.calls (bt a0 x6_1) false _ A6.out).mono ?_); rintro e w' ⟨rfl, ⟨nd, rfl⟩⟩; refine ⟨_, rfl, ?_⟩; have p8 : 0 ≤ (x6_1 : Int) := of_decide_eq_true z2; have q8 : x6_1 < (a0.size : Int) := of_decide_eq_true z2; have hx8 := bt_at a0 x6_1; replace p8 := eq_true p8; replace q8 := eq_true q8) | (go_at_call 51; (with_reducible refine (impl_isPlain.calls (bt a0 x6_1) true _ A9.out).mono ?_); rintro e w' ⟨rfl, ⟨nd, rfl⟩⟩))
        go_roundg k1
        case measure => have := HK1.out; omega
        case rel => exact ⟨(wrap64 (x6_1 + 1)), z1, H', ⟨by have := HK1.out; omega⟩, by repeat (first | exact Drawn0.refl _ | apply Drawn0.step)⟩
       ·replace c10 := Bool.eq_false_iff.mpr c10
        subst c10
        rw [if_neg (show ¬ (false = true) by decide)] at H
        by_cases c12 : (bt a0 x6_1) = 47
        ·rw [if_pos c12] at H
         have c12b0 : ((bt a0 x6_1) == 47) = true := beq_iff_eq.mpr c12
         have c12b1 : ((bt a0 x6_1) != 47) = false := bne_eq_false_iff_eq.mpr c12
         clear c12
         have H' := Aside0.mk H
         clear H
         have p5 : 0 ≤ (x6_1 : Int) := of_decide_eq_true z2
         have q5 : x6_1 < (a0.size : Int) := of_decide_eq_true z2
         have hx5 := bt_at a0 x6_1
         replace p5 := eq_true p5
         replace q5 := eq_true q5
         go_wp2_with (first | ((with_reducible refine gate_callee (f := 50) rfl ?_); refine goesL_ (some 12) rfl rfl Try.func50 z0 rfl #[.int .u8 (bt a0 x6_1)] rfl z12 ?_; (with_reducible refine (impl_isName.calls (bt a0 x6_1) false _ A6.out).mono ?_); rintro e w' ⟨rfl, ⟨nd, rfl⟩⟩; refine ⟨_, rfl, ?_⟩; have p8 : 0 ≤ (x6_1 : Int) := of_decide_eq_true z2; have q8 : x6_1 < (a0.size : Int) := of_decide_eq_true z2; have hx8 := bt_at a0 x6_1; replace p8 := eq_true p8; replace q8 := eq_true q8) | (go_at_call 51; (with_reducible refine (impl_isPlain.calls (bt a0 x6_1) false _ A9.out).mono ?_); rintro e w' ⟨rfl, ⟨nd, rfl⟩⟩; have p11 : 0 ≤ (x6_1 : Int) := of_decide_eq_true z2; have q11 : x6_1 < (a0.size : Int) := of_decide_eq_true z2; have hx11 := bt_at a0 x6_1; replace p11 := eq_true p11; replace q11 := eq_true q11))
         go_roundg k1
         case measure => have := HK1.out; omega
         case rel => exact ⟨(wrap64 (x6_1 + 1)), z1, H', ⟨by have := HK1.out; omega⟩, by repeat (first | exact Drawn0.refl _ | apply Drawn0.step)⟩
        ·rw [if_neg c12] at H
         have c12b0 : ((bt a0 x6_1) == 47) = false := beq_eq_false_iff_ne.mpr c12
         have c12b1 : ((bt a0 x6_1) != 47) = true := bne_iff_ne.mpr c12
         obtain rfl := Option.some.inj H
         have p5 : 0 ≤ (x6_1 : Int) := of_decide_eq_true z2
         have q5 : x6_1 < (a0.size : Int) := of_decide_eq_true z2
         have hx5 := bt_at a0 x6_1
         replace p5 := eq_true p5
         replace q5 := eq_true q5
         go_wp2_with (first | ((with_reducible refine gate_callee (f := 50) rfl ?_); refine goesL_ (some 12) rfl rfl Try.func50 z0 rfl #[.int .u8 (bt a0 x6_1)] rfl z12 ?_; (with_reducible refine (impl_isName.calls (bt a0 x6_1) false _ A6.out).mono ?_); rintro e w' ⟨rfl, ⟨nd, rfl⟩⟩; refine ⟨_, rfl, ?_⟩; have p8 : 0 ≤ (x6_1 : Int) := of_decide_eq_true z2; have q8 : x6_1 < (a0.size : Int) := of_decide_eq_true z2; have hx8 := bt_at a0 x6_1; replace p8 := eq_true p8; replace q8 := eq_true q8) | (go_at_call 51; (with_reducible refine (impl_isPlain.calls (bt a0 x6_1) false _ A9.out).mono ?_); rintro e w' ⟨rfl, ⟨nd, rfl⟩⟩; have p11 : 0 ≤ (x6_1 : Int) := of_decide_eq_true z2; have q11 : x6_1 < (a0.size : Int) := of_decide_eq_true z2; have hx11 := bt_at a0 x6_1; replace p11 := eq_true p11; replace q11 := eq_true q11))
         go_ret
         exact ⟨by first | rfl | (simp; done) | (simp [*]; done), by repeat (first | exact Drawn0.refl _ | apply Drawn0.step)⟩
     ·rw [if_neg c4] at H
      exact absurd H (by simp)
    ·rw [if_neg c3] at H
     exact absurd H (by simp)
   ·rw [if_neg c2] at H
    have c2b0 : decide (x6_1 < (a0.size : Int)) = false := decide_eq_false c2
    clear c2
    obtain rfl := Option.some.inj H
    go_wp2
    go_ret
    exact ⟨by first | rfl | (simp; done) | (simp [*]; done), by repeat (first | exact Drawn0.refl _ | apply Drawn0.step)⟩

/-! ### impl_matches: function 37, by hand -/
/-- The association list that stands for the map: the last store first. -/
def mD (m : List (Int × Int)) : DataW Unit := m.foldr (fun p D => D.put (.int .i64 p.1) (.lit (.int .i64 p.2))) (.map [])
def lk : List (Int × Int) → Int → Option Int
 | [], _ => none
 | p :: m, a => if p.1 = a then some p.2 else lk m a
theorem mD_isMap (m : List (Int × Int)) : Maps.IsMap (mD m) := by
 induction m with
 | nil => exact Maps.isMap_empty
 | cons p m ih => exact ih.put _ _
theorem wf64 {a : Int} (h0 : 0 ≤ a) (h1 : a ≤ 300) : (Lit.int .i64 a).wf = true := WalkArith.wf_i64 (by omega)
theorem mD_has (m : List (Int × Int)) (a : Int) : Maps.has (mD m) (.int .i64 a) = (lk m a).isSome := by
 induction m with
 | nil => rfl
 | cons p m ih =>
  show Maps.has ((mD m).put _ _) _ = _
  unfold lk
  by_cases h : p.1 = a
  ·rw [if_pos h, h, Maps.has_put_same (mD_isMap m) (by trivial)]; rfl
  ·rw [if_neg h, Maps.has_put_other (fun e => h (by injection e with _ e; exact e.symm)), ih]
theorem mD_at (m : List (Int × Int)) (a z : Int) : (mD m).atKey (.int .i64 a) (.lit (.int .i64 z)) = .lit (.int .i64 ((lk m a).getD z)) := by
 induction m with
 | nil => rfl
 | cons p m ih =>
  show ((mD m).put _ _).atKey _ _ = _
  unfold lk
  by_cases h : p.1 = a
  ·rw [if_pos h, h, Maps.atKey_put_same (mD_isMap m) (by trivial)]; rfl
  ·rw [if_neg h, Maps.atKey_put_other (fun e => h (by injection e with _ e; exact e.symm)), ih]
def nmH (c : Int) : Bool := (impl_isName.f c).getD false
theorem nmH_eq (c : Int) : impl_isName.f c = some (nmH c) := by
 unfold nmH impl_isName.f; split <;> rfl
def mtc (s : ByteArray) : Nat → Nat → List Int → List (Int × Int) → List (Int × Int) × Bool
 | 0, _, st, m => (m, decide (st.length = 0))
 | d + 1, i, st, m =>
  if nmH (bt s i) = true then (if 12 < st.length + 1 then ([], false) else mtc s d (i + 1) (st ++ [(i : Int)]) m)
  else if bt s i = 47 then (if st.length = 0 then ([], false) else mtc s d (i + 1) (st.take (st.length - 1)) ((rd st ((st.length : Int) - 1), (i : Int)) :: ((i : Int), rd st ((st.length : Int) - 1)) :: m))
  else mtc s d (i + 1) st m
def impl_matches.f (k : Nat) (a0 : ByteArray) : Option (List (Int × Int) × Bool) :=
 (impl_GoodText.f k a0).bind fun g => if g = true then (if a0.size ≤ 300 then some (mtc a0 a0.size 0 [] []) else none) else some ([], false)
theorem impl_matches.mono : ∀ a0 k, LeO (impl_matches.f k a0) (impl_matches.f (k + 1) a0) := by
 intro a0 k
 unfold impl_matches.f
 repeat' first
   | (with_reducible exact impl_GoodText.mono _ _)
   | (with_reducible exact LeO.refl _)
   | (with_reducible exact LeO.none _)
   | (with_reducible refine LeO.ite ?_ ?_)
   | (with_reducible refine LeO.bind ?_ (fun _ => ?_))
/-- What 'matches' hands back. -/
def IsMt (w : World) (v : Value) (m : List (Int × Int)) (ok : Bool) : Prop :=
 (∃ b, v = .map b) ∧ (ok = true → ∃ B, v = .map (some B) ∧ w.ownsMap Try.prog 3 (plainElem (H := Unit) Try.prog 3) B m.length (mD m))
theorem own_drewN {w : World} {R : Value → Option (DataW Unit × List MemPlace)} {b n : Nat} {D : DataW Unit} (h : w.ownsMap Try.prog 3 R b n D) (m : Nat) : (w.drewN m).ownsMap Try.prog 3 R b n D := h
def MtAt (w : World) (a0 : ByteArray) (r : List (Int × Int) × Bool) (d : Nat) (v5 v14 : Value) (w' : World) : Prop :=
 ∃ (i : Nat) (x : Int) (st : List Int) (m : List (Int × Int)), v14 = .int .i64 x ∧ x = (i : Int) ∧ i + d = a0.size ∧ Kd.R (Kd.int .i64) 3 w' (w.heap.size + 1) (fun _ => True) v5 st ∧
  w'.ownsMap Try.prog 3 (plainElem (H := Unit) Try.prog 3) w.heap.size m.length (mD m) ∧ m.length ≤ 2 * i ∧ (∀ x ∈ st, 0 ≤ x ∧ x ≤ 300) ∧ st.length ≤ 12 ∧ mtc a0 d i st m = r ∧ Below w.heap.size w w' ∧ w.heap.size < w'.heap.size
theorem rd_mem_bd {st : List Int} (h : ∀ x ∈ st, 0 ≤ x ∧ x ≤ 300) (i : Int) : 0 ≤ rd st i ∧ rd st i ≤ 300 := by
 unfold rd
 rw [List.getD_eq_getElem?_getD]
 cases e : st[i.toNat]? with
 | none => simp
 | some y => exact h y (List.mem_of_getElem? e)
theorem belowR {w wr w1 : World} {v : Value} {st : List Int} (hb : Below w.heap.size w wr) (hw : w.heap.size < wr.heap.size) (hr : Kd.R (Kd.int .i64) 3 wr (w.heap.size + 1) (fun _ => True) v st) (hg : wr.grownBy w1 v.ownBlock) : Below w.heap.size w w1 :=
 hb.grown hg (Nat.le_of_lt hw) (fun k hk => by have := Kd.R_base hr k hk; omega)
theorem mapNe {w wr : World} {v : Value} {st : List Int} (hr : Kd.R (Kd.int .i64) 3 wr (w.heap.size + 1) (fun _ => True) v st) : some w.heap.size ≠ v.ownBlock := fun e => by have := Kd.R_base hr _ e.symm; omega
theorem ends_nil {a0 : ByteArray} {i : Nat} {st : List Int} {m : List (Int × Int)} {r : List (Int × Int) × Bool} (h : mtc a0 0 i st m = r) : r = (m, decide (st.length = 0)) := h.symm
theorem mt_law : Go.Maps.Keyed Try.prog 3 := Go.Maps.int_keyed Try.underlying3
theorem mt_zero (w : World) : (zeroValue 3).run Try.prog w = .ok (.int .i64 0) w := by kernel_rfl
set_option maxHeartbeats 2000000 in
set_option maxRecDepth 100000 in
theorem impl_matches.calls (k : Nat) (a0 : ByteArray) (m : List (Int × Int)) (ok : Bool) (w : World) (h : impl_matches.f k a0 = some (m, ok)) :
  Calls Try.prog 37 #[.string a0] w fun e w' => ∃ v : Value, e = .returned (.tuple #[v, .bool ok]) ∧ IsMt w' v m ok ∧ Below w.heap.size w w' := by
 have hmm := @run_makeMap Try.prog
 have HB := Aside0.mk (Below.refl w.heap.size w)
 have H : ((impl_GoodText.f k a0).bind fun g => if g = true then (if a0.size ≤ 300 then some (mtc a0 a0.size 0 [] []) else none) else some ([], false)) = some (m, ok) := h
 clear h
 replace H := Option.bind_eq_some_iff.mp H
 obtain ⟨g, A1, H⟩ := H
 cases g with
 | false =>
  rw [if_neg (by simp)] at H
  obtain ⟨rfl, rfl⟩ := Prod.mk.inj (Option.some.inj H)
  clear H
  have A2 := Aside0.mk A1
  clear A1
  go_enter Try.func37, Try.ntmps37
  go_wp2_with (first | (go_at_call 45; refine (impl_GoodText.calls k a0 false _ A2.out).mono ?_; rintro e w' ⟨rfl, ⟨nd, rfl⟩⟩))
  go_ret2
  exact ⟨_, rfl, ⟨⟨none, rfl⟩, fun h => by cases h⟩, pw_below_drewN HB.out _⟩
 | true =>
  rw [if_pos rfl] at H
  by_cases hsz : a0.size ≤ 300
  ·rw [if_pos hsz] at H
   have HS := Aside0.mk hsz
   have A2 := Aside0.mk A1
   clear A1
   have H2 : Aside0 (mtc a0 a0.size 0 [] [] = (m, ok)) := ⟨Option.some.inj H⟩
   clear H
   go_enter Try.func37, Try.ntmps37
   go_wp2_with (first | (go_at_call 45; refine (impl_GoodText.calls k a0 true _ A2.out).mono ?_; rintro e w' ⟨rfl, ⟨nd, rfl⟩⟩))
   go_loopg [5, 14] a0.size (fun d v5 v14 w' => MtAt w a0 (m, ok) d v5 v14 w')
   case atStart => exact ⟨0, 0, [], [], rfl, rfl, by omega, Kd.R_nil _ _ _ _ _, World.ownsMap_made _ _ _ _, Nat.zero_le _, fun _ h => (by cases h), by simp, H2.out, below_alloc (pw_below_drewN HB.out _) _, by simp⟩
   case round =>
    clear HB H2
    obtain ⟨i, x, st, mm, rfl, hxi, hid, hr, hown, hml, hst, hsl, hm, hb, hws⟩ := hrel
    have HR := Aside0.mk hr
    have HO := Aside0.mk hown
    have HL := Aside0.mk hml
    have HT := Aside0.mk hst
    have HE := Aside0.mk hsl
    have HB := Aside0.mk hb
    have HW := Aside0.mk hws
    have HX := Aside0.mk hxi
    cases gk with
    | zero =>
     have hil : i = a0.size := by omega
     have hxn : decide (x < (a0.size : Int)) = false := decide_eq_false (by omega)
     unfold mtc at hm
     obtain ⟨rfl, hok⟩ := Prod.mk.inj hm
     obtain ⟨A5, c5, rfl⟩ := Kd.R_slice hr
     have hok' : (((st.length : Nat) : Int) == 0) = ok := by rw [← hok, Bool.eq_iff_iff]; simp
     clear hr hown hml hst hsl hb hws hm hid hok hxi hil
     go_wp2
     go_ret2
     exact ⟨_, rfl, ⟨⟨_, rfl⟩, fun _ => ⟨_, rfl, HO.out⟩⟩, HB.out⟩
    | succ k1 =>
     have hil : i < a0.size := by omega
     have HI : Aside0 (i + 1 + k1 = a0.size) := ⟨by omega⟩
     have P5 : Aside0 ((0 ≤ x) = True) := ⟨eq_true (by omega)⟩
     have Q5 : Aside0 ((x < (a0.size : Int)) = True) := ⟨eq_true (by omega)⟩
     have p5 := P5.out
     have q5 := Q5.out
     have hx0 : 0 ≤ x := by omega
     have hx3 : x ≤ 300 := by have := HS.out; omega
     have c2b0 : decide (x < (a0.size : Int)) = true := decide_eq_true (by omega)
     have hx5 := bt_at a0 x
     have HXN : Aside0 (x + 1 = ((i + 1 : Nat) : Int)) := ⟨by omega⟩
     unfold mtc at hm
     rw [← hxi] at hm
     by_cases c3 : nmH (bt a0 x) = true
     ·rw [if_pos c3] at hm
      have A7 : Aside0 (impl_isName.f (bt a0 x) = some true) := ⟨by rw [nmH_eq, c3]⟩
      clear c3
      by_cases c4 : 12 < st.length + 1
      ·rw [if_pos c4] at hm
       obtain ⟨rfl, rfl⟩ := Prod.mk.inj hm
       have c4b : decide (12 < ((st.length : Int) + 1)) = true := decide_eq_true (by omega)
       have c4c : decide (12 < st.length + 1) = true := decide_eq_true c4
       clear hm hr hown hml hst hsl hb hws hid hxi hil c4
       go_wp2_with (first | ((with_reducible refine gate_callee (f := 50) rfl ?_); refine goesL_ (some 21) rfl rfl Try.func50 z0 rfl #[.int .u8 (bt a0 x)] rfl z12 ?_; (with_reducible refine (impl_isName.calls (bt a0 x) true _ A7.out).mono ?_); rintro e w' ⟨rfl, ⟨nd2, rfl⟩⟩; refine ⟨_, rfl, ?_⟩) | ((with_reducible refine gate_builtin (b := .append) (xs := #[.tmp 22, .tmp 24]) rfl ?_); at_builtin; refine Kd.R_append (Kd.int .i64) (w0 := wr.drewN nd2) (w.heap.size + 1) rfl (.tmp 22) (.tmp 24) 74 3 (.int .i64 0) 8 rfl Try.underlying74 info3 rfl (by decide) (by omega) u5 st x [.int .i64 x] (fun _ => True) (fun _ => False) rfl rfl ?aP (fun _ hk => hk.elim) (fun _ _ => trivial) ?aO ?aB ?aS ?aL ?_; (case aP => exact rfl); (case aB => exact Below.refl _ _); (case aO => exact Kd.R_drewN HR.out _); (case aS => exact HW.out); (case aL => have := HE.out; omega); intro v25 w10 ho hb1 hg hat; have HR1 := Aside0.mk ho; have HG1 : Aside0 (wr.grownBy w10 u5.ownBlock) := Aside0.mk ⟨hg.os, hg.tape, hg.output, hg.size, hg.block⟩; clear hg hb1; obtain ⟨A25, c25, eo25⟩ := Kd.R_slice ho; rw [List.length_append, List.length_singleton] at eo25; subst eo25; clear ho hat))
       go_ret2
       exact ⟨_, rfl, ⟨⟨none, rfl⟩, fun h => by cases h⟩, belowR HB.out HW.out HR.out HG1.out⟩
      ·rw [if_neg c4] at hm
       have c4c : decide (12 < st.length + 1) = false := decide_eq_false c4
       have c4b : decide (12 < ((st.length : Int) + 1)) = false := decide_eq_false (by omega)
       have HM := Aside0.mk hm
       have HE2 : Aside0 (st.length + 1 ≤ 12) := ⟨by omega⟩
       clear hm hr hown hml hst hsl hb hws hid hxi hil c4
       go_wp2_with (first | ((with_reducible refine gate_callee (f := 50) rfl ?_); refine goesL_ (some 21) rfl rfl Try.func50 z0 rfl #[.int .u8 (bt a0 x)] rfl z12 ?_; (with_reducible refine (impl_isName.calls (bt a0 x) true _ A7.out).mono ?_); rintro e w' ⟨rfl, ⟨nd2, rfl⟩⟩; refine ⟨_, rfl, ?_⟩) | ((with_reducible refine gate_builtin (b := .append) (xs := #[.tmp 22, .tmp 24]) rfl ?_); at_builtin; refine Kd.R_append (Kd.int .i64) (w0 := wr.drewN nd2) (w.heap.size + 1) rfl (.tmp 22) (.tmp 24) 74 3 (.int .i64 0) 8 rfl Try.underlying74 info3 rfl (by decide) (by omega) u5 st x [.int .i64 x] (fun _ => True) (fun _ => False) rfl rfl ?aP (fun _ hk => hk.elim) (fun _ _ => trivial) ?aO ?aB ?aS ?aL ?_; (case aP => exact rfl); (case aB => exact Below.refl _ _); (case aO => exact Kd.R_drewN HR.out _); (case aS => exact HW.out); (case aL => have := HE.out; omega); intro v25 w10 ho hb1 hg hat; have HR1 := Aside0.mk ho; have HG1 : Aside0 (wr.grownBy w10 u5.ownBlock) := Aside0.mk ⟨hg.os, hg.tape, hg.output, hg.size, hg.block⟩; clear hg hb1; obtain ⟨A25, c25, eo25⟩ := Kd.R_slice ho; rw [List.length_append, List.length_singleton] at eo25; subst eo25; clear ho hat))
       go_roundg k1
       case measure => omega
       case rel => exact ⟨i + 1, x + 1, _, mm, rfl, HXN.out, HI.out, HR1.out, HO.out.kept HG1.out (mapNe HR.out), by have := HL.out; omega, (by intro y hy; rcases List.mem_append.1 hy with hy | hy; exact HT.out y hy; obtain rfl := List.mem_singleton.1 hy; exact ⟨hx0, hx3⟩), by rw [List.length_append, List.length_singleton]; exact HE2.out, HM.out, belowR HB.out HW.out HR.out HG1.out, Nat.lt_of_lt_of_le HW.out HG1.out.size⟩
     ·rw [if_neg c3] at hm
      have A7 : Aside0 (impl_isName.f (bt a0 x) = some false) := ⟨by rw [nmH_eq, Bool.eq_false_iff.mpr c3]⟩
      clear c3
      by_cases c4 : bt a0 x = 47
      ·rw [if_pos c4] at hm
       have c12b0 : (bt a0 x == 47) = true := beq_iff_eq.mpr c4
       clear c4
       by_cases c5 : st.length = 0
       ·rw [if_pos c5] at hm
        obtain ⟨rfl, rfl⟩ := Prod.mk.inj hm
        obtain ⟨A5, cc5, rfl⟩ := Kd.R_slice hr
        have c5b : ((st.length : Int) == 0) = true := by simp [c5]
        clear hm hr hown hml hst hsl hb hws hid hxi hil c5
        go_wp2_with (first | ((with_reducible refine gate_callee (f := 50) rfl ?_); refine goesL_ (some 21) rfl rfl Try.func50 z0 rfl #[.int .u8 (bt a0 x)] rfl z12 ?_; (with_reducible refine (impl_isName.calls (bt a0 x) false _ A7.out).mono ?_); rintro e w' ⟨rfl, ⟨nd2, rfl⟩⟩; refine ⟨_, rfl, ?_⟩; have p32 : (0 ≤ x) = True := P5.out; have q32 : (x < (a0.size : Int)) = True := Q5.out; have hx32 := bt_at a0 x))
        go_ret2
        exact ⟨_, rfl, ⟨⟨none, rfl⟩, fun h => by cases h⟩, pw_below_drewN HB.out _⟩
       ·rw [if_neg c5] at hm
        obtain ⟨g, cc5, rfl, hg1, hg2, cells, hg3⟩ := Kd.R_form hr (by omega)
        have c5b : ((st.length : Int) == 0) = false := by simp [c5]
        obtain ⟨j, hj⟩ : ∃ j : Int, j = (st.length : Int) - 1 := ⟨_, rfl⟩
        have hjw : IntKind.i64.wrap ((st.length : Int) - 1) = j := by rw [hj]; exact IntWalk.i64_in _ (by omega)
        rw [← hj] at hm
        obtain ⟨y, hy⟩ : ∃ y : Int, y = rd st j := ⟨_, rfl⟩
        rw [← hy] at hm
        have hyb := rd_mem_bd hst j
        rw [← hy] at hyb
        have HJ := Aside0.mk hj
        have HM := Aside0.mk hm
        have hcell := Kd.R_cell (0 : Int) hr j (by omega) (by omega)
        have e1 : wr.cell? ⟨g, j.toNat, none⟩ = some (.int .i64 y) := by rw [hcell.1, hy]; rfl
        have e2 := hcell.2
        have j0 : (0 ≤ j) = True := eq_true (by omega)
        have j1 : (j < (st.length : Int)) = True := eq_true (by omega)
        have j2 : (j ≤ (st.length : Int)) = True := eq_true (by omega)
        have j3 : decide (0 ≤ j) = true := decide_eq_true (by omega)
        have j4 : decide (j < (st.length : Int)) = true := decide_eq_true (by omega)
        have j5 : decide (j ≤ (st.length : Int)) = true := decide_eq_true (by omega)
        obtain ⟨i0, hi0, _, hsz0, _⟩ := info_parts info3
        have hcut := cut_to (P := Try.prog) 74 3 .i64 Try.underlying74 hi0 (some ⟨g, 0, none⟩) st.length cc5 j (by omega) (by omega) (Kd.R_reads' hr).2.1
        have hrt := Kd.R_take (m := j.toNat) hr (by omega)
        have hjn : j.toNat = st.length - 1 := by omega
        have HT1 : Aside0 (Kd.R (Kd.int .i64) 3 wr (w.heap.size + 1) (fun _ => True) (.slice (some ⟨g, 0, none⟩) j.toNat cc5) (st.take (st.length - 1))) := ⟨by rw [← hjn]; exact hrt⟩
        have hkx : keyOf Try.prog 3 (.int .i64 x) = some (.int .i64 x) := Go.Maps.keyOf_int_mk Try.underlying3 (wf64 hx0 hx3)
        have hky : keyOf Try.prog 3 (.int .i64 y) = some (.int .i64 y) := Go.Maps.keyOf_int_mk Try.underlying3 (wf64 hyb.1 hyb.2)
        have hpx := plainElem_int (H := Unit) Try.underlying3 (wf64 hx0 hx3)
        have hpy := plainElem_int (H := Unit) Try.underlying3 (wf64 hyb.1 hyb.2)
        have HPX := Aside0.mk hpx
        have HPY := Aside0.mk hpy
        have HKX := Aside0.mk hkx
        have HKY := Aside0.mk hky
        have HSB : Aside0 (∀ z ∈ st.take (st.length - 1), 0 ≤ z ∧ z ≤ 300) := ⟨fun z hz => hst z (List.mem_of_mem_take hz)⟩
        have HSL : Aside0 ((st.take (st.length - 1)).length ≤ 12) := ⟨by rw [List.length_take]; omega⟩
        have HML : Aside0 (mm.length + 1 < maxLen) := ⟨by unfold maxLen; omega⟩
        clear hm hr hown hml hst hsl hb hws hid hxi hil c5 hj hy hcell hi0 hsz0 hrt hjn hkx hky hpx hpy hg1 hg2 hg3
        go_wp2_with (first | ((with_reducible refine gate_callee (f := 50) rfl ?_); refine goesL_ (some 21) rfl rfl Try.func50 z0 rfl #[.int .u8 (bt a0 x)] rfl z12 ?_; (with_reducible refine (impl_isName.calls (bt a0 x) false _ A7.out).mono ?_); rintro e w' ⟨rfl, ⟨nd2, rfl⟩⟩; refine ⟨_, rfl, ?_⟩; have p32 : (0 ≤ x) = True := P5.out; have q32 : (x < (a0.size : Int)) = True := Q5.out; have hx32 := bt_at a0 x) | (at_mapUpdate; refine wpList_mapUpdate_own _ rfl (.tmp 48) (.tmp 49) (.tmp 52) 55 rfl 3 3 mt_law Try.underlying55 _ w.heap.size _ _ rfl (own_drewN HO.out _) (by have := HML.out; omega) (.int .i64 x) (.int .i64 y) (.int .i64 x) rfl rfl HKX.out _ [] HPY.out ?_; intro w1 hown1 hgrow1; have HO1 := Aside0.mk hown1; have HG1 := Aside0.mk hgrow1; clear hown1 hgrow1) | (at_mapUpdate; refine wpList_mapUpdate_own _ rfl (.tmp 50) (.tmp 51) (.tmp 53) 55 rfl 3 3 mt_law Try.underlying55 _ w.heap.size _ _ rfl HO1.out HML.out (.int .i64 y) (.int .i64 x) (.int .i64 y) rfl rfl HKY.out _ [] HPX.out ?_; intro w2 hown2 hgrow2; have HO2 := Aside0.mk hown2; have HG2 := Aside0.mk hgrow2; clear hown2 hgrow2))
        have hb2 : Below w.heap.size w w2 := ((pw_below_drewN HB.out nd2).grown HG1.out (Nat.le_of_lt HW.out) (fun k hk => by injection hk with hk; omega)).grown HG2.out (Nat.le_trans (Nat.le_of_lt HW.out) HG1.out.size) (fun k hk => by injection hk with hk; omega)
        have hr2 : Kd.R (Kd.int .i64) 3 w2 (w.heap.size + 1) (fun _ => True) (.slice (some ⟨g, 0, none⟩) j.toNat cc5) (st.take (st.length - 1)) := Kd.R_grown1 (Kd.R_grown1 (Kd.R_drewN HT1.out nd2) rfl HG1.out (mapNe HT1.out)) rfl HG2.out (mapNe HT1.out)
        have hw2 : w.heap.size < w2.heap.size := Nat.lt_of_lt_of_le HW.out (Nat.le_trans HG1.out.size HG2.out.size)
        have HB2 := Aside0.mk hb2
        have HR2 := Aside0.mk hr2
        have HW2 := Aside0.mk hw2
        clear hb2 hr2 hw2
        go_roundg k1
        case measure => omega
        case rel => exact ⟨i + 1, x + 1, st.take (st.length - 1), (y, x) :: (x, y) :: mm, rfl, HXN.out, HI.out, HR2.out, HO2.out, by have := HL.out; simp only [List.length_cons]; omega, HSB.out, HSL.out, HM.out, HB2.out, HW2.out⟩
      ·rw [if_neg c4] at hm
       have c12b0 : (bt a0 x == 47) = false := beq_eq_false_iff_ne.mpr c4
       have HM := Aside0.mk hm
       clear hm hr hown hml hst hsl hb hws hid hxi hil c4
       go_wp2_with (first | ((with_reducible refine gate_callee (f := 50) rfl ?_); refine goesL_ (some 21) rfl rfl Try.func50 z0 rfl #[.int .u8 (bt a0 x)] rfl z12 ?_; (with_reducible refine (impl_isName.calls (bt a0 x) false _ A7.out).mono ?_); rintro e w' ⟨rfl, ⟨nd2, rfl⟩⟩; refine ⟨_, rfl, ?_⟩; have p32 : (0 ≤ x) = True := P5.out; have q32 : (x < (a0.size : Int)) = True := Q5.out; have hx32 := bt_at a0 x))
       go_roundg k1
       case measure => omega
       case rel => exact ⟨i + 1, x + 1, st, mm, rfl, HXN.out, HI.out, Kd.R_drewN HR.out _, own_drewN HO.out _, by have := HL.out; omega, HT.out, HE.out, HM.out, pw_below_drewN HB.out _, HW.out⟩
  ·rw [if_neg hsz] at H
   cases H


/-! ### impl_GoodDoc: function 18, by hand -/
/-! ### impl_GoodDoc: by hand -/
def impl_GoodDoc.f (k : Nat) (a0 : ByteArray) : Option Bool := (impl_matches.f k a0).bind fun p => some p.2
theorem impl_GoodDoc.mono : ∀ a0 k, LeO (impl_GoodDoc.f k a0) (impl_GoodDoc.f (k + 1) a0) := by
 intro a0 k
 unfold impl_GoodDoc.f
 repeat' first
   | (with_reducible exact impl_matches.mono _ _)
   | (with_reducible exact LeO.refl _)
   | (with_reducible exact LeO.none _)
   | (with_reducible refine LeO.ite ?_ ?_)
   | (with_reducible refine LeO.bind ?_ (fun _ => ?_))
theorem impl_GoodDoc.calls (k : Nat) (a0 : ByteArray) (r : Bool) (w : World) (h : impl_GoodDoc.f k a0 = some r) :
  Calls Try.prog 18 #[.string a0] w fun e w' => e = .returned (.bool r) ∧ Below w.heap.size w w' := by
 have H : ((impl_matches.f k a0).bind fun p => some p.2) = some r := h
 clear h
 replace H := Option.bind_eq_some_iff.mp H
 obtain ⟨⟨m, ok⟩, A1, H⟩ := H
 obtain rfl := Option.some.inj H
 have A2 := Aside0.mk A1
 clear A1 H
 go_enter Try.func18, Try.ntmps18
 go_wp2_with (first | (go_at_call 37; refine (impl_matches.calls k a0 m ok _ A2.out).mono ?_; rintro e w' ⟨v, rfl, hv, hb⟩; have HB := Aside0.mk hb; clear hv hb))
 go_ret
 exact ⟨rfl, HB.out⟩


/-! ### impl_maker_end: function 84, by hand -/

/-! ### impl_maker_keep: function 83, by hand -/

/-! ### impl_maker_take: function 67, by hand -/

end Go.Proofs.Ytmigfgcpdelnfaa.AFnExactReachOf
