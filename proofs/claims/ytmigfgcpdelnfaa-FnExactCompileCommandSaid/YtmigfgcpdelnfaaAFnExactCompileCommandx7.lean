-- this session's own text: written by wip/tools/ownprint.py over the kit's print
import Derived.Test.YtmigfgcpdelnfaaAFnExactCompileCommandx0
import Derived.Test.YtmigfgcpdelnfaaAFnExactCompileCommandx1
import Derived.Test.YtmigfgcpdelnfaaAFnExactCompileCommandx6
namespace Go.Proofs.Ytmigfgcpdelnfaa.AFnExactCompileCommand
open Go.RowKit Go.Proofs.YtmigfgcpdelnfaaW.PrintWords Go.Proofs.YtmigfgcpdelnfaaW.PrintLast Go.Proofs.YtmigfgcpdelnfaaW.PrintMore
attribute [local go_sem] max2_int min2_int max_two min_two max_three min_three max_four min_four   -- for this text's walks alone
set_option linter.unusedVariables false
set_option linter.unusedSimpArgs false

/-! ### spec_CompileCommand: function 19 -/
def spec_CompileCommand.f (k : Nat) (a0 : ByteArray) (a1_0 : Int) (a1_1 : Int) (a1_2 : Int) (a1_3 : ByteArray) : Option ((List (S61)) × Bool) := (spec_GoodDoc.f k a0).bind fun t242 => (if t242 = true then ((spec_l8Do.f k a0 a1_0 a1_1 a1_2 a1_3).bind fun bt243 => (if bt243.2.2 = true then ((spec_GoodOp.f k bt243.1).bind fun t248 => (if t248 = true then (some (bt243.1, true)) else (some (([] : List (S61)), false)))) else (some (([] : List (S61)), false)))) else (some (([] : List (S61)), false)))
theorem spec_CompileCommand.mono : ∀ a0 a1 a2 a3 a4 k, LeO (spec_CompileCommand.f k a0 a1 a2 a3 a4) (spec_CompileCommand.f (k + 1) a0 a1 a2 a3 a4) := by
 intro a0 a1 a2 a3 a4 k
 unfold spec_CompileCommand.f
 repeat' first
   | (with_reducible exact spec_GoodDoc.mono _ _)
   | (with_reducible exact spec_GoodOp.mono _ _)
   | (with_reducible exact spec_l8Do.mono _ _ _ _ _ _)
   | (with_reducible exact LeO.refl _)
   | (with_reducible exact LeO.none _)
   | (with_reducible refine LeO.ite ?_ ?_)
   | (with_reducible refine LeO.bind ?_ (fun _ => ?_))
   | exact spec_GoodDoc.mono _ _
   | exact spec_GoodOp.mono _ _
   | exact spec_l8Do.mono _ _ _ _ _ _
   | exact LeO.none _
   | refine LeO.ite ?_ ?_
   | refine LeO.bind ?_ (fun _ => ?_)
set_option maxHeartbeats 8000000 in
set_option maxRecDepth 100000 in
theorem spec_CompileCommand.calls (k : Nat) (a0 : ByteArray) (a1_0 : Int) (a1_1 : Int) (a1_2 : Int) (a1_3 : ByteArray) (r1 : List (S61)) (r2 : Bool) (w : World) (h : spec_CompileCommand.f k a0 a1_0 a1_1 a1_2 a1_3 = some (r1, r2)) :
  Calls Try.prog 19 #[.string a0, .agg #[.int .i64 a1_0, .int .i64 a1_1, .int .i64 a1_2, .string a1_3]] w fun e w' => ∃ v0_ : Value, e = .returned (.tuple #[v0_, .bool r2]) ∧ Kd.R k61 61 w' w.heap.size (fun _ => True) v0_ r1 ∧ Below w.heap.size w w' := by
 have hu29 := Try.underlying29
 have HB := aM (Below.refl w.heap.size w)
 have H : ((spec_GoodDoc.f k a0).bind fun t242 => (if t242 = true then ((spec_l8Do.f k a0 a1_0 a1_1 a1_2 a1_3).bind fun bt243 => (if bt243.2.2 = true then ((spec_GoodOp.f k bt243.1).bind fun t248 => (if t248 = true then (some (bt243.1, true)) else (some (([] : List (S61)), false)))) else (some (([] : List (S61)), false)))) else (some (([] : List (S61)), false)))) = some (r1, r2) := h
 clear h
 replace H := oB H
 obtain ⟨t242, A30, H⟩ := H
 try dsimp only at H
 have A3 := aM A30
 clear A30
 by_cases c4 : t242 = true
 ·subst c4
  rw [if_pos rfl] at H
  replace H := oB H
  obtain ⟨⟨t243, t246, t247⟩, A50, H⟩ := H
  try dsimp only at H
  have A5 := aM A50
  clear A50
  by_cases c6 : t247 = true
  ·subst c6
   rw [if_pos rfl] at H
   replace H := oB H
   obtain ⟨t248, A70, H⟩ := H
   try dsimp only at H
   have A7 := aM A70
   clear A70
   by_cases c8 : t248 = true
   ·subst c8
    rw [if_pos rfl] at H
    simp only [Option.some.injEq, Prod.mk.injEq] at H
    obtain ⟨rfl, rfl⟩ := H
    go_enter Try.func19, Try.ntmps19
    go_wp2_with (first | ((with_reducible refine gate_dst (N := 3) rfl ?_); refine box_event ?hg (N := 3) ?hd (cs := #[.int .i64 a1_0, .int .i64 a1_1, .int .i64 a1_2, .string a1_3]) (t := 29) ?hr ?_; (case hd => rfl); (case hg => rfl); (case hr => first | (go_simp; done) | (go_simp; rfl)); intro gb241 hg w9 hbox hb; have n0_ := aM (below_step z11 hb); have n1_ := aM (hbox); have n2_ := aM ((by rw [hg]; exact (below_size z11) : w.heap.size ≤ gb241)); have n3_ := aM ((by rw [hg]; exact (below_size z11) : w.heap.size ≤ gb241)); clear HB; have HB := n0_; have BK241 := n1_; have GW241 := n2_; have GE241 := n3_; clear n0_ n1_ n2_ n3_; clear hb hbox hg) | ((with_reducible refine gate_callee (f := 28) rfl ?_); refine goesL_ (some 10) rfl rfl Try.func28 z0 rfl #[.string a0] rfl z12 ?_; (with_reducible refine (spec_GoodDoc.calls k a0 true _ A3.out).mono ?_); rintro e w' ⟨rfl, ⟨nd, rfl⟩⟩; refine ⟨_, rfl, ?_⟩; have hcz10_0 : w9.cell? ⟨gb241, 0, none⟩ = some (.int .i64 a1_0) := (bC BK241.out 0).trans rfl; have hcz10_1 : w9.cell? ⟨gb241, 1, none⟩ = some (.int .i64 a1_1) := (bC BK241.out 1).trans rfl; have hcz10_2 : w9.cell? ⟨gb241, 2, none⟩ = some (.int .i64 a1_2) := (bC BK241.out 2).trans rfl; have hcz10_3 : w9.cell? ⟨gb241, 3, none⟩ = some (.string a1_3) := (bC BK241.out 3).trans rfl; have hfz10_0 := bF BK241.out 0; have hfz10_1 := bF BK241.out 1; have hfz10_2 := bF BK241.out 2; have hfz10_3 := bF BK241.out 3) | ((with_reducible refine gate_callee (f := 34) rfl ?_); refine goesL_ (some 15) rfl rfl Try.func34 z0 rfl #[.string a0, .agg #[.int .i64 a1_0, .int .i64 a1_1, .int .i64 a1_2, .string a1_3]] rfl z12 ?_; (with_reducible refine (spec_l8Do.calls k a0 a1_0 a1_1 a1_2 a1_3 t243 t246 true _ A5.out).mono ?_); rintro e w11 ⟨v244, rfl, ho0, hb⟩; refine ⟨_, rfl, ?_⟩; have n0_ := aM (Kd.R_lower ho0 (below_size (by repeat (first | (with_reducible first | exact HB.out | apply bA | apply pD | apply bD | refine below_set ?_ GE241.out) | exact HB.out)))); have n1_ := aM (blk_below (g := gb241) (o := .cells #[.int .i64 a1_0, .int .i64 a1_1, .int .i64 a1_2, .string a1_3] 29 (0, 0)) (by (with_reducible repeat (first | refine blk_drewN ?_ _ | refine blk_drew ?_ | refine blk_alloc ?_ _)); exact BK241.out) hb); have n2_ := aM (below_step (by repeat (first | (with_reducible first | exact HB.out | apply bA | apply pD | apply bD | refine below_set ?_ GE241.out) | exact HB.out)) hb); clear BK241; clear HB; have HO245 := n0_; have BK241 := n1_; have HB := n2_; clear n0_ n1_ n2_; (try clear hb); (try clear hb2); (try clear hk); (try clear hi); (try clear ho0); obtain ⟨Ao12, co12, eo12⟩ := Kd.R_slice HO245.out; subst eo12) | (go_at_call 38; (with_reducible refine (spec_GoodOp.calls k _ _ t243 true _ ?side1 ?side2 A7.out).mono ?_); (case side1 => repeat (first | exact (Kd.R_reads' HO245.out).2.2 | (with_reducible refine Kd.C_alloc ?_ _) | (with_reducible refine Kd.C_drewN ?_ _) | (with_reducible refine Kd.C_drew ?_))); (case side2 => exact (Kd.R_reads' HO245.out).2.1); rintro e w13 ⟨rfl, hb⟩; have n0_ := aM (Kd.R_below (by (with_reducible repeat (first | apply Kd.R_alloc | apply Kd.R_drewN | apply Kd.R_drew)); exact HO245.out) hb); have n1_ := aM (blk_below (g := gb241) (o := .cells #[.int .i64 a1_0, .int .i64 a1_1, .int .i64 a1_2, .string a1_3] 29 (0, 0)) (by (with_reducible repeat (first | refine blk_drewN ?_ _ | refine blk_drew ?_ | refine blk_alloc ?_ _)); exact BK241.out) hb); have n2_ := aM (below_step (by repeat (first | (with_reducible first | exact HB.out | apply bA | apply pD | apply bD | refine below_set ?_ GE241.out) | exact HB.out)) hb); clear HO245; clear BK241; clear HB; have HO245 := n0_; have BK241 := n1_; have HB := n2_; clear n0_ n1_ n2_; (try clear hb); (try clear hb2); (try clear hk); (try clear hi)))
    go_ret2
    exact ⟨_, y3, by (with_reducible repeat (first | apply Kd.R_alloc | apply Kd.R_drewN | apply Kd.R_drew)); exact HO245.out, by repeat (first | (with_reducible first | exact HB.out | apply bA | apply pD | apply bD | refine below_set ?_ GE241.out) | exact HB.out)⟩
   ·replace c8 := Bool.eq_false_iff.mpr c8
    subst c8
    rw [if_neg (show ¬ (false = true) by decide)] at H
    simp only [Option.some.injEq, Prod.mk.injEq] at H
    obtain ⟨rfl, rfl⟩ := H
    go_enter Try.func19, Try.ntmps19
    go_wp2_with (first | ((with_reducible refine gate_dst (N := 3) rfl ?_); refine box_event ?hg (N := 3) ?hd (cs := #[.int .i64 a1_0, .int .i64 a1_1, .int .i64 a1_2, .string a1_3]) (t := 29) ?hr ?_; (case hd => rfl); (case hg => rfl); (case hr => first | (go_simp; done) | (go_simp; rfl)); intro gb241 hg w14 hbox hb; have n0_ := aM (below_step z11 hb); have n1_ := aM (hbox); have n2_ := aM ((by rw [hg]; exact (below_size z11) : w.heap.size ≤ gb241)); have n3_ := aM ((by rw [hg]; exact (below_size z11) : w.heap.size ≤ gb241)); clear HB; have HB := n0_; have BK241 := n1_; have GW241 := n2_; have GE241 := n3_; clear n0_ n1_ n2_ n3_; clear hb hbox hg) | ((with_reducible refine gate_callee (f := 28) rfl ?_); refine goesL_ (some 10) rfl rfl Try.func28 z0 rfl #[.string a0] rfl z12 ?_; (with_reducible refine (spec_GoodDoc.calls k a0 true _ A3.out).mono ?_); rintro e w' ⟨rfl, ⟨nd, rfl⟩⟩; refine ⟨_, rfl, ?_⟩; have hcz15_0 : w14.cell? ⟨gb241, 0, none⟩ = some (.int .i64 a1_0) := (bC BK241.out 0).trans rfl; have hcz15_1 : w14.cell? ⟨gb241, 1, none⟩ = some (.int .i64 a1_1) := (bC BK241.out 1).trans rfl; have hcz15_2 : w14.cell? ⟨gb241, 2, none⟩ = some (.int .i64 a1_2) := (bC BK241.out 2).trans rfl; have hcz15_3 : w14.cell? ⟨gb241, 3, none⟩ = some (.string a1_3) := (bC BK241.out 3).trans rfl; have hfz15_0 := bF BK241.out 0; have hfz15_1 := bF BK241.out 1; have hfz15_2 := bF BK241.out 2; have hfz15_3 := bF BK241.out 3) | ((with_reducible refine gate_callee (f := 34) rfl ?_); refine goesL_ (some 15) rfl rfl Try.func34 z0 rfl #[.string a0, .agg #[.int .i64 a1_0, .int .i64 a1_1, .int .i64 a1_2, .string a1_3]] rfl z12 ?_; (with_reducible refine (spec_l8Do.calls k a0 a1_0 a1_1 a1_2 a1_3 t243 t246 true _ A5.out).mono ?_); rintro e w16 ⟨v244, rfl, ho0, hb⟩; refine ⟨_, rfl, ?_⟩; have n0_ := aM (Kd.R_lower ho0 (below_size (by repeat (first | (with_reducible first | exact HB.out | apply bA | apply pD | apply bD | refine below_set ?_ GE241.out) | exact HB.out)))); have n1_ := aM (blk_below (g := gb241) (o := .cells #[.int .i64 a1_0, .int .i64 a1_1, .int .i64 a1_2, .string a1_3] 29 (0, 0)) (by (with_reducible repeat (first | refine blk_drewN ?_ _ | refine blk_drew ?_ | refine blk_alloc ?_ _)); exact BK241.out) hb); have n2_ := aM (below_step (by repeat (first | (with_reducible first | exact HB.out | apply bA | apply pD | apply bD | refine below_set ?_ GE241.out) | exact HB.out)) hb); clear BK241; clear HB; have HO245 := n0_; have BK241 := n1_; have HB := n2_; clear n0_ n1_ n2_; (try clear hb); (try clear hb2); (try clear hk); (try clear hi); (try clear ho0); obtain ⟨Ao17, co17, eo17⟩ := Kd.R_slice HO245.out; subst eo17) | (go_at_call 38; (with_reducible refine (spec_GoodOp.calls k _ _ t243 false _ ?side1 ?side2 A7.out).mono ?_); (case side1 => repeat (first | exact (Kd.R_reads' HO245.out).2.2 | (with_reducible refine Kd.C_alloc ?_ _) | (with_reducible refine Kd.C_drewN ?_ _) | (with_reducible refine Kd.C_drew ?_))); (case side2 => exact (Kd.R_reads' HO245.out).2.1); rintro e w18 ⟨rfl, hb⟩; have n0_ := aM (Kd.R_below (by (with_reducible repeat (first | apply Kd.R_alloc | apply Kd.R_drewN | apply Kd.R_drew)); exact HO245.out) hb); have n1_ := aM (blk_below (g := gb241) (o := .cells #[.int .i64 a1_0, .int .i64 a1_1, .int .i64 a1_2, .string a1_3] 29 (0, 0)) (by (with_reducible repeat (first | refine blk_drewN ?_ _ | refine blk_drew ?_ | refine blk_alloc ?_ _)); exact BK241.out) hb); have n2_ := aM (below_step (by repeat (first | (with_reducible first | exact HB.out | apply bA | apply pD | apply bD | refine below_set ?_ GE241.out) | exact HB.out)) hb); clear HO245; clear BK241; clear HB; have HO245 := n0_; have BK241 := n1_; have HB := n2_; clear n0_ n1_ n2_; (try clear hb); (try clear hb2); (try clear hk); (try clear hi)))
    go_ret2
    exact ⟨_, y3, y21, by repeat (first | (with_reducible first | exact HB.out | apply bA | apply pD | apply bD | refine below_set ?_ GE241.out) | exact HB.out)⟩
  ·replace c6 := Bool.eq_false_iff.mpr c6
   subst c6
   rw [if_neg (show ¬ (false = true) by decide)] at H
   simp only [Option.some.injEq, Prod.mk.injEq] at H
   obtain ⟨rfl, rfl⟩ := H
   go_enter Try.func19, Try.ntmps19
   go_wp2_with (first | ((with_reducible refine gate_dst (N := 3) rfl ?_); refine box_event ?hg (N := 3) ?hd (cs := #[.int .i64 a1_0, .int .i64 a1_1, .int .i64 a1_2, .string a1_3]) (t := 29) ?hr ?_; (case hd => rfl); (case hg => rfl); (case hr => first | (go_simp; done) | (go_simp; rfl)); intro gb241 hg w19 hbox hb; have n0_ := aM (below_step z11 hb); have n1_ := aM (hbox); have n2_ := aM ((by rw [hg]; exact (below_size z11) : w.heap.size ≤ gb241)); have n3_ := aM ((by rw [hg]; exact (below_size z11) : w.heap.size ≤ gb241)); clear HB; have HB := n0_; have BK241 := n1_; have GW241 := n2_; have GE241 := n3_; clear n0_ n1_ n2_ n3_; clear hb hbox hg) | ((with_reducible refine gate_callee (f := 28) rfl ?_); refine goesL_ (some 10) rfl rfl Try.func28 z0 rfl #[.string a0] rfl z12 ?_; (with_reducible refine (spec_GoodDoc.calls k a0 true _ A3.out).mono ?_); rintro e w' ⟨rfl, ⟨nd, rfl⟩⟩; refine ⟨_, rfl, ?_⟩; have hcz20_0 : w19.cell? ⟨gb241, 0, none⟩ = some (.int .i64 a1_0) := (bC BK241.out 0).trans rfl; have hcz20_1 : w19.cell? ⟨gb241, 1, none⟩ = some (.int .i64 a1_1) := (bC BK241.out 1).trans rfl; have hcz20_2 : w19.cell? ⟨gb241, 2, none⟩ = some (.int .i64 a1_2) := (bC BK241.out 2).trans rfl; have hcz20_3 : w19.cell? ⟨gb241, 3, none⟩ = some (.string a1_3) := (bC BK241.out 3).trans rfl; have hfz20_0 := bF BK241.out 0; have hfz20_1 := bF BK241.out 1; have hfz20_2 := bF BK241.out 2; have hfz20_3 := bF BK241.out 3) | ((with_reducible refine gate_callee (f := 34) rfl ?_); refine goesL_ (some 15) rfl rfl Try.func34 z0 rfl #[.string a0, .agg #[.int .i64 a1_0, .int .i64 a1_1, .int .i64 a1_2, .string a1_3]] rfl z12 ?_; (with_reducible refine (spec_l8Do.calls k a0 a1_0 a1_1 a1_2 a1_3 t243 t246 false _ A5.out).mono ?_); rintro e w21 ⟨v244, rfl, ho0, hb⟩; refine ⟨_, rfl, ?_⟩; have n0_ := aM (Kd.R_lower ho0 (below_size (by repeat (first | (with_reducible first | exact HB.out | apply bA | apply pD | apply bD | refine below_set ?_ GE241.out) | exact HB.out)))); have n1_ := aM (blk_below (g := gb241) (o := .cells #[.int .i64 a1_0, .int .i64 a1_1, .int .i64 a1_2, .string a1_3] 29 (0, 0)) (by (with_reducible repeat (first | refine blk_drewN ?_ _ | refine blk_drew ?_ | refine blk_alloc ?_ _)); exact BK241.out) hb); have n2_ := aM (below_step (by repeat (first | (with_reducible first | exact HB.out | apply bA | apply pD | apply bD | refine below_set ?_ GE241.out) | exact HB.out)) hb); clear BK241; clear HB; have HO245 := n0_; have BK241 := n1_; have HB := n2_; clear n0_ n1_ n2_; (try clear hb); (try clear hb2); (try clear hk); (try clear hi); (try clear ho0)))
   go_ret2
   exact ⟨_, y3, y21, by repeat (first | (with_reducible first | exact HB.out | apply bA | apply pD | apply bD | refine below_set ?_ GE241.out) | exact HB.out)⟩
 ·replace c4 := Bool.eq_false_iff.mpr c4
  subst c4
  rw [if_neg (show ¬ (false = true) by decide)] at H
  simp only [Option.some.injEq, Prod.mk.injEq] at H
  obtain ⟨rfl, rfl⟩ := H
  go_enter Try.func19, Try.ntmps19
  go_wp2_with (first | ((with_reducible refine gate_dst (N := 3) rfl ?_); refine box_event ?hg (N := 3) ?hd (cs := #[.int .i64 a1_0, .int .i64 a1_1, .int .i64 a1_2, .string a1_3]) (t := 29) ?hr ?_; (case hd => rfl); (case hg => rfl); (case hr => first | (go_simp; done) | (go_simp; rfl)); intro gb241 hg w22 hbox hb; have n0_ := aM (below_step z11 hb); have n1_ := aM (hbox); have n2_ := aM ((by rw [hg]; exact (below_size z11) : w.heap.size ≤ gb241)); have n3_ := aM ((by rw [hg]; exact (below_size z11) : w.heap.size ≤ gb241)); clear HB; have HB := n0_; have BK241 := n1_; have GW241 := n2_; have GE241 := n3_; clear n0_ n1_ n2_ n3_; clear hb hbox hg) | ((with_reducible refine gate_callee (f := 28) rfl ?_); refine goesL_ (some 10) rfl rfl Try.func28 z0 rfl #[.string a0] rfl z12 ?_; (with_reducible refine (spec_GoodDoc.calls k a0 false _ A3.out).mono ?_); rintro e w' ⟨rfl, ⟨nd, rfl⟩⟩; refine ⟨_, rfl, ?_⟩))
  go_ret2
  exact ⟨_, y3, y21, by repeat (first | (with_reducible first | exact HB.out | apply bA | apply pD | apply bD | refine below_set ?_ GE241.out) | exact HB.out)⟩

/-! ### impl_isName: function 50 -/
def impl_isName.f (a0 : Int) : Option (Bool) := if a0 ≥ 65 then (some (decide (a0 ≤ 70))) else (some false)
set_option maxHeartbeats 8000000 in
set_option maxRecDepth 100000 in
theorem impl_isName.calls (a0 : Int) (r : Bool) (w : World) (h : impl_isName.f a0 = some r) :
  Calls Try.prog 50 #[.int .u8 a0] w fun e w' => e = .returned (.bool r) ∧ Drawn0 w w' := by
 have H : (if a0 ≥ 65 then (some (decide (a0 ≤ 70))) else (some false)) = some r := h
 clear h
 by_cases c2 : a0 ≥ 65
 ·rw [if_pos c2] at H
  have c2b0 : decide (65 ≤ a0) = true := dT c2
  clear c2
  obtain rfl := sI H
  go_enter Try.func50, Try.ntmps50
  go_wp2
  go_ret
  exact ⟨y1, y2⟩
 ·rw [if_neg c2] at H
  have c2b0 : decide (65 ≤ a0) = false := dF c2
  clear c2
  obtain rfl := sI H
  go_enter Try.func50, Try.ntmps50
  go_wp2
  go_ret
  exact ⟨y1, y2⟩

/-! ### impl_isPlain: function 51 -/
def impl_isPlain.f (a0 : Int) : Option (Bool) := if a0 ≥ 97 then (if a0 ≤ 122 then (some true) else (if a0 ≥ 48 then (if a0 ≤ 57 then (some true) else (if a0 = 32 then (some true) else (if a0 = 46 then (some true) else (some (a0 == 44))))) else (if a0 = 32 then (some true) else (if a0 = 46 then (some true) else (some (a0 == 44)))))) else (if a0 ≥ 48 then (if a0 ≤ 57 then (some true) else (if a0 = 32 then (some true) else (if a0 = 46 then (some true) else (some (a0 == 44))))) else (if a0 = 32 then (some true) else (if a0 = 46 then (some true) else (some (a0 == 44)))))
set_option maxHeartbeats 8000000 in
set_option maxRecDepth 100000 in
theorem impl_isPlain.calls (a0 : Int) (r : Bool) (w : World) (h : impl_isPlain.f a0 = some r) :
  Calls Try.prog 51 #[.int .u8 a0] w fun e w' => e = .returned (.bool r) ∧ Drawn0 w w' := by
 have H : (if a0 ≥ 97 then (if a0 ≤ 122 then (some true) else (if a0 ≥ 48 then (if a0 ≤ 57 then (some true) else (if a0 = 32 then (some true) else (if a0 = 46 then (some true) else (some (a0 == 44))))) else (if a0 = 32 then (some true) else (if a0 = 46 then (some true) else (some (a0 == 44)))))) else (if a0 ≥ 48 then (if a0 ≤ 57 then (some true) else (if a0 = 32 then (some true) else (if a0 = 46 then (some true) else (some (a0 == 44))))) else (if a0 = 32 then (some true) else (if a0 = 46 then (some true) else (some (a0 == 44)))))) = some r := h
 clear h
 by_cases c2 : a0 ≥ 97
 ·rw [if_pos c2] at H
  have c2b0 : decide (97 ≤ a0) = true := dT c2
  clear c2
  by_cases c3 : a0 ≤ 122
  ·rw [if_pos c3] at H
   have c3b0 : decide (a0 ≤ 122) = true := dT c3
   clear c3
   obtain rfl := sI H
   go_enter Try.func51, Try.ntmps51
   go_wp2
   go_ret
   exact ⟨y1, y2⟩
  ·rw [if_neg c3] at H
   have c3b0 : decide (a0 ≤ 122) = false := dF c3
   clear c3
   by_cases c4 : a0 ≥ 48
   ·rw [if_pos c4] at H
    have c4b0 : decide (48 ≤ a0) = true := dT c4
    clear c4
    by_cases c5 : a0 ≤ 57
    ·rw [if_pos c5] at H
     have c5b0 : decide (a0 ≤ 57) = true := dT c5
     clear c5
     obtain rfl := sI H
     go_enter Try.func51, Try.ntmps51
     go_wp2
     go_ret
     exact ⟨y1, y2⟩
    ·rw [if_neg c5] at H
     have c5b0 : decide (a0 ≤ 57) = false := dF c5
     clear c5
     by_cases c6 : a0 = 32
     ·rw [if_pos c6] at H
      have c6b0 : (a0 == 32) = true := qT c6
      have c6b1 : (a0 != 32) = false := nF c6
      clear c6
      obtain rfl := sI H
      go_enter Try.func51, Try.ntmps51
      go_wp2
      go_ret
      exact ⟨y1, y2⟩
     ·rw [if_neg c6] at H
      have c6b0 : (a0 == 32) = false := qF c6
      have c6b1 : (a0 != 32) = true := nT c6
      by_cases c7 : a0 = 46
      ·rw [if_pos c7] at H
       have c7b0 : (a0 == 46) = true := qT c7
       have c7b1 : (a0 != 46) = false := nF c7
       clear c7
       obtain rfl := sI H
       go_enter Try.func51, Try.ntmps51
       go_wp2
       go_ret
       exact ⟨y1, y2⟩
      ·rw [if_neg c7] at H
       have c7b0 : (a0 == 46) = false := qF c7
       have c7b1 : (a0 != 46) = true := nT c7
       obtain rfl := sI H
       go_enter Try.func51, Try.ntmps51
       go_wp2
       go_ret
       exact ⟨y1, y2⟩
   ·rw [if_neg c4] at H
    have c4b0 : decide (48 ≤ a0) = false := dF c4
    clear c4
    by_cases c8 : a0 = 32
    ·rw [if_pos c8] at H
     have c8b0 : (a0 == 32) = true := qT c8
     have c8b1 : (a0 != 32) = false := nF c8
     clear c8
     obtain rfl := sI H
     go_enter Try.func51, Try.ntmps51
     go_wp2
     go_ret
     exact ⟨y1, y2⟩
    ·rw [if_neg c8] at H
     have c8b0 : (a0 == 32) = false := qF c8
     have c8b1 : (a0 != 32) = true := nT c8
     by_cases c9 : a0 = 46
     ·rw [if_pos c9] at H
      have c9b0 : (a0 == 46) = true := qT c9
      have c9b1 : (a0 != 46) = false := nF c9
      clear c9
      obtain rfl := sI H
      go_enter Try.func51, Try.ntmps51
      go_wp2
      go_ret
      exact ⟨y1, y2⟩
     ·rw [if_neg c9] at H
      have c9b0 : (a0 == 46) = false := qF c9
      have c9b1 : (a0 != 46) = true := nT c9
      obtain rfl := sI H
      go_enter Try.func51, Try.ntmps51
      go_wp2
      go_ret
      exact ⟨y1, y2⟩
 ·rw [if_neg c2] at H
  have c2b0 : decide (97 ≤ a0) = false := dF c2
  clear c2
  by_cases c10 : a0 ≥ 48
  ·rw [if_pos c10] at H
   have c10b0 : decide (48 ≤ a0) = true := dT c10
   clear c10
   by_cases c11 : a0 ≤ 57
   ·rw [if_pos c11] at H
    have c11b0 : decide (a0 ≤ 57) = true := dT c11
    clear c11
    obtain rfl := sI H
    go_enter Try.func51, Try.ntmps51
    go_wp2
    go_ret
    exact ⟨y1, y2⟩
   ·rw [if_neg c11] at H
    have c11b0 : decide (a0 ≤ 57) = false := dF c11
    clear c11
    by_cases c12 : a0 = 32
    ·rw [if_pos c12] at H
     have c12b0 : (a0 == 32) = true := qT c12
     have c12b1 : (a0 != 32) = false := nF c12
     clear c12
     obtain rfl := sI H
     go_enter Try.func51, Try.ntmps51
     go_wp2
     go_ret
     exact ⟨y1, y2⟩
    ·rw [if_neg c12] at H
     have c12b0 : (a0 == 32) = false := qF c12
     have c12b1 : (a0 != 32) = true := nT c12
     by_cases c13 : a0 = 46
     ·rw [if_pos c13] at H
      have c13b0 : (a0 == 46) = true := qT c13
      have c13b1 : (a0 != 46) = false := nF c13
      clear c13
      obtain rfl := sI H
      go_enter Try.func51, Try.ntmps51
      go_wp2
      go_ret
      exact ⟨y1, y2⟩
     ·rw [if_neg c13] at H
      have c13b0 : (a0 == 46) = false := qF c13
      have c13b1 : (a0 != 46) = true := nT c13
      obtain rfl := sI H
      go_enter Try.func51, Try.ntmps51
      go_wp2
      go_ret
      exact ⟨y1, y2⟩
  ·rw [if_neg c10] at H
   have c10b0 : decide (48 ≤ a0) = false := dF c10
   clear c10
   by_cases c14 : a0 = 32
   ·rw [if_pos c14] at H
    have c14b0 : (a0 == 32) = true := qT c14
    have c14b1 : (a0 != 32) = false := nF c14
    clear c14
    obtain rfl := sI H
    go_enter Try.func51, Try.ntmps51
    go_wp2
    go_ret
    exact ⟨y1, y2⟩
   ·rw [if_neg c14] at H
    have c14b0 : (a0 == 32) = false := qF c14
    have c14b1 : (a0 != 32) = true := nT c14
    by_cases c15 : a0 = 46
    ·rw [if_pos c15] at H
     have c15b0 : (a0 == 46) = true := qT c15
     have c15b1 : (a0 != 46) = false := nF c15
     clear c15
     obtain rfl := sI H
     go_enter Try.func51, Try.ntmps51
     go_wp2
     go_ret
     exact ⟨y1, y2⟩
    ·rw [if_neg c15] at H
     have c15b0 : (a0 == 46) = false := qF c15
     have c15b1 : (a0 != 46) = true := nT c15
     obtain rfl := sI H
     go_enter Try.func51, Try.ntmps51
     go_wp2
     go_ret
     exact ⟨y1, y2⟩

/-! ### impl_GoodText: function 45 -/
def impl_GoodText.l0 : Nat → ByteArray → Int → Int → Option (Bool)
 | 0, _, _, _ => none
 | k + 1, x0, x5, x6 => if x6 < x5 then (if 0 ≤ x6 then (if x6 < (x0.size : Int) then ((impl_isName.f (bt x0 x6)).bind fun t249 => (if t249 = true then (impl_GoodText.l0 k x0 x5 (wrap64 (x6 + 1))) else ((impl_isPlain.f (bt x0 x6)).bind fun t250 => (if t250 = true then (impl_GoodText.l0 k x0 x5 (wrap64 (x6 + 1))) else (if (bt x0 x6) = 47 then (impl_GoodText.l0 k x0 x5 (wrap64 (x6 + 1))) else (some false)))))) else (none)) else (none)) else (some (decide ((x0.size : Int) ≤ 300)))
def impl_GoodText.f (k : Nat) (a0 : ByteArray) : Option (Bool) := impl_GoodText.l0 k a0 (a0.size : Int) 0
theorem impl_GoodText.mono_l : ∀ k, (∀ y0 y1 y2, LeO (impl_GoodText.l0 k y0 y1 y2) (impl_GoodText.l0 (k + 1) y0 y1 y2))
 | 0 => fun _ _ _ r h => by simp [impl_GoodText.l0] at h
 | k + 1 => by
  have ih0 := impl_GoodText.mono_l k
  ·intro y0 y1 y2
   unfold impl_GoodText.l0
   repeat' first
   | (with_reducible exact ih0 _ _ _)
   | (with_reducible exact LeO.refl _)
   | (with_reducible exact LeO.none _)
   | (with_reducible refine LeO.ite ?_ ?_)
   | (with_reducible refine LeO.bind ?_ (fun _ => ?_))
   | exact ih0 _ _ _
   | exact LeO.none _
   | refine LeO.ite ?_ ?_
   | refine LeO.bind ?_ (fun _ => ?_)
theorem impl_GoodText.mono : ∀ a0 k, LeO (impl_GoodText.f k a0) (impl_GoodText.f (k + 1) a0) := by
 intro a0 k
 have ih0 := impl_GoodText.mono_l k
 unfold impl_GoodText.f
 repeat' first
   | (with_reducible exact ih0 _ _ _)
   | (with_reducible exact LeO.refl _)
   | (with_reducible exact LeO.none _)
   | (with_reducible refine LeO.ite ?_ ?_)
   | (with_reducible refine LeO.bind ?_ (fun _ => ?_))
   | exact ih0 _ _ _
   | exact LeO.none _
   | refine LeO.ite ?_ ?_
   | refine LeO.bind ?_ (fun _ => ?_)
set_option maxHeartbeats 8000000 in
set_option maxRecDepth 100000 in
theorem impl_GoodText.calls (k : Nat) (a0 : ByteArray) (r : Bool) (w : World) (h : impl_GoodText.f k a0 = some r) :
  Calls Try.prog 45 #[.string a0] w fun e w' => e = .returned (.bool r) ∧ Drawn0 w w' := by
 have H : (impl_GoodText.l0 k a0 (a0.size : Int) 0) = some r := h
 clear h
 have H' := aM H
 clear H
 go_enter Try.func45, Try.ntmps45
 go_wp2
 go_loopg [6] k (fun kq v6 w' => ∃ (x6_1 : Int), v6 = .int .i64 x6_1 ∧ Aside0 (impl_GoodText.l0 kq a0 (a0.size : Int) x6_1 = some r) ∧ Aside0 (kq ≤ k) ∧ Drawn0 w w')
 case atStart => exact ⟨(0), z1, H', ⟨Nat.le_refl _⟩, y2⟩
 case round =>
  clear H'
  obtain ⟨x6_1, rfl, HA, HK1, ⟨m1, rfl⟩⟩ := hrel
  cases gk with
  | zero => exact absurd HA.out (by simp [impl_GoodText.l0])
  | succ k1 =>
   have H := HA.out
   clear HA
   simp only [impl_GoodText.l0] at H
   by_cases c2 : x6_1 < (a0.size : Int)
   ·rw [if_pos c2] at H
    have c2b0 : decide (x6_1 < (a0.size : Int)) = true := dT c2
    clear c2
    by_cases c3 : 0 ≤ x6_1
    ·rw [if_pos c3] at H
     have c3b0 : decide (0 ≤ x6_1) = true := dT c3
     clear c3
     by_cases c4 : x6_1 < (a0.size : Int)
     ·rw [if_pos c4] at H
      have c4b0 : decide (x6_1 < (a0.size : Int)) = true := dT c4
      clear c4
      replace H := oB H
      obtain ⟨t249, A60, H⟩ := H
      try dsimp only at H
      have A6 := aM A60
      clear A60
      by_cases c7 : t249 = true
      ·subst c7
       rw [if_pos rfl] at H
       have H' := aM H
       clear H
       have p5 : 0 ≤ (x6_1 : Int) := oD z2
       have q5 : x6_1 < (a0.size : Int) := oD z2
       have hx5 := bt_at a0 x6_1
       replace p5 := eq_true p5
       replace q5 := eq_true q5
       go_wp2_with (first | ((with_reducible refine gate_callee (f := 50) rfl ?_); refine goesL_ (some 12) rfl rfl Try.func50 z0 rfl #[.int .u8 (bt a0 x6_1)] rfl z12 ?_; (with_reducible refine (impl_isName.calls (bt a0 x6_1) true _ A6.out).mono ?_); rintro e w' ⟨rfl, ⟨nd, rfl⟩⟩; refine ⟨_, rfl, ?_⟩))
       go_roundg k1
       case measure => have := HK1.out; omega
       case rel => exact ⟨(wrap64 (x6_1 + 1)), z1, H', ⟨by have := HK1.out; omega⟩, y2⟩
      ·replace c7 := Bool.eq_false_iff.mpr c7
       subst c7
       rw [if_neg (show ¬ (false = true) by decide)] at H
       replace H := oB H
       obtain ⟨t250, A90, H⟩ := H
       try dsimp only at H
       have A9 := aM A90
       clear A90
       by_cases c10 : t250 = true
       ·subst c10
        rw [if_pos rfl] at H
        have H' := aM H
        clear H
        have p5 : 0 ≤ (x6_1 : Int) := oD z2
        have q5 : x6_1 < (a0.size : Int) := oD z2
        have hx5 := bt_at a0 x6_1
        replace p5 := eq_true p5
        replace q5 := eq_true q5
        go_wp2_with (first | ((with_reducible refine gate_callee (f := 50) rfl ?_); refine goesL_ (some 12) rfl rfl Try.func50 z0 rfl #[.int .u8 (bt a0 x6_1)] rfl z12 ?_; (with_reducible refine (impl_isName.calls (bt a0 x6_1) false _ A6.out).mono ?_); rintro e w' ⟨rfl, ⟨nd, rfl⟩⟩; refine ⟨_, rfl, ?_⟩; have p8 : 0 ≤ (x6_1 : Int) := oD z2; have q8 : x6_1 < (a0.size : Int) := oD z2; have hx8 := bt_at a0 x6_1; replace p8 := eq_true p8; replace q8 := eq_true q8) | (go_at_call 51; (with_reducible refine (impl_isPlain.calls (bt a0 x6_1) true _ A9.out).mono ?_); rintro e w' ⟨rfl, ⟨nd, rfl⟩⟩))
        go_roundg k1
        case measure => have := HK1.out; omega
        case rel => exact ⟨(wrap64 (x6_1 + 1)), z1, H', ⟨by have := HK1.out; omega⟩, y2⟩
       ·replace c10 := Bool.eq_false_iff.mpr c10
        subst c10
        rw [if_neg (show ¬ (false = true) by decide)] at H
        by_cases c12 : (bt a0 x6_1) = 47
        ·rw [if_pos c12] at H
         have c12b0 : ((bt a0 x6_1) == 47) = true := qT c12
         have c12b1 : ((bt a0 x6_1) != 47) = false := nF c12
         clear c12
         have H' := aM H
         clear H
         have p5 : 0 ≤ (x6_1 : Int) := oD z2
         have q5 : x6_1 < (a0.size : Int) := oD z2
         have hx5 := bt_at a0 x6_1
         replace p5 := eq_true p5
         replace q5 := eq_true q5
         go_wp2_with (first | ((with_reducible refine gate_callee (f := 50) rfl ?_); refine goesL_ (some 12) rfl rfl Try.func50 z0 rfl #[.int .u8 (bt a0 x6_1)] rfl z12 ?_; (with_reducible refine (impl_isName.calls (bt a0 x6_1) false _ A6.out).mono ?_); rintro e w' ⟨rfl, ⟨nd, rfl⟩⟩; refine ⟨_, rfl, ?_⟩; have p8 : 0 ≤ (x6_1 : Int) := oD z2; have q8 : x6_1 < (a0.size : Int) := oD z2; have hx8 := bt_at a0 x6_1; replace p8 := eq_true p8; replace q8 := eq_true q8) | (go_at_call 51; (with_reducible refine (impl_isPlain.calls (bt a0 x6_1) false _ A9.out).mono ?_); rintro e w' ⟨rfl, ⟨nd, rfl⟩⟩; have p11 : 0 ≤ (x6_1 : Int) := oD z2; have q11 : x6_1 < (a0.size : Int) := oD z2; have hx11 := bt_at a0 x6_1; replace p11 := eq_true p11; replace q11 := eq_true q11))
         go_roundg k1
         case measure => have := HK1.out; omega
         case rel => exact ⟨(wrap64 (x6_1 + 1)), z1, H', ⟨by have := HK1.out; omega⟩, y2⟩
        ·rw [if_neg c12] at H
         have c12b0 : ((bt a0 x6_1) == 47) = false := qF c12
         have c12b1 : ((bt a0 x6_1) != 47) = true := nT c12
         obtain rfl := sI H
         have p5 : 0 ≤ (x6_1 : Int) := oD z2
         have q5 : x6_1 < (a0.size : Int) := oD z2
         have hx5 := bt_at a0 x6_1
         replace p5 := eq_true p5
         replace q5 := eq_true q5
         go_wp2_with (first | ((with_reducible refine gate_callee (f := 50) rfl ?_); refine goesL_ (some 12) rfl rfl Try.func50 z0 rfl #[.int .u8 (bt a0 x6_1)] rfl z12 ?_; (with_reducible refine (impl_isName.calls (bt a0 x6_1) false _ A6.out).mono ?_); rintro e w' ⟨rfl, ⟨nd, rfl⟩⟩; refine ⟨_, rfl, ?_⟩; have p8 : 0 ≤ (x6_1 : Int) := oD z2; have q8 : x6_1 < (a0.size : Int) := oD z2; have hx8 := bt_at a0 x6_1; replace p8 := eq_true p8; replace q8 := eq_true q8) | (go_at_call 51; (with_reducible refine (impl_isPlain.calls (bt a0 x6_1) false _ A9.out).mono ?_); rintro e w' ⟨rfl, ⟨nd, rfl⟩⟩; have p11 : 0 ≤ (x6_1 : Int) := oD z2; have q11 : x6_1 < (a0.size : Int) := oD z2; have hx11 := bt_at a0 x6_1; replace p11 := eq_true p11; replace q11 := eq_true q11))
         go_ret
         exact ⟨y1, y2⟩
     ·rw [if_neg c4] at H
      exact absurd H (by simp)
    ·rw [if_neg c3] at H
     exact absurd H (by simp)
   ·rw [if_neg c2] at H
    have c2b0 : decide (x6_1 < (a0.size : Int)) = false := dF c2
    clear c2
    obtain rfl := sI H
    go_wp2
    go_ret
    exact ⟨y1, y2⟩

/-! ### impl_matches: function 37, by hand -/
/-- The association list that stands for the map: the last store first. -/
def mD (m : List (Int × Int)) : DataW Unit := m.foldr (fun p D => D.put (.int .i64 p.1) (.lit (.int .i64 p.2))) (.map [])
def lk : List (Int × Int) → Int → Option Int
 | [], _ => none
 | p :: m, a => if p.1 = a then some p.2 else lk m a
theorem mD_isMap (m : List (Int × Int)) : Maps.IsMap (mD m) := by
 induction m with
 | nil => exact Maps.isMap_empty
 | cons p m ih => exact ih.put _ _
theorem wf64 {a : Int} (h0 : 0 ≤ a) (h1 : a ≤ 300) : (Lit.int .i64 a).wf = true := WalkArith.wf_i64 (by omega)
theorem mD_has (m : List (Int × Int)) (a : Int) : Maps.has (mD m) (.int .i64 a) = (lk m a).isSome := by
 induction m with
 | nil => rfl
 | cons p m ih =>
  show Maps.has ((mD m).put _ _) _ = _
  unfold lk
  by_cases h : p.1 = a
  ·rw [if_pos h, h, Maps.has_put_same (mD_isMap m) (by trivial)]; rfl
  ·rw [if_neg h, Maps.has_put_other (fun e => h (by injection e with _ e; exact e.symm)), ih]
theorem mD_at (m : List (Int × Int)) (a z : Int) : (mD m).atKey (.int .i64 a) (.lit (.int .i64 z)) = .lit (.int .i64 ((lk m a).getD z)) := by
 induction m with
 | nil => rfl
 | cons p m ih =>
  show ((mD m).put _ _).atKey _ _ = _
  unfold lk
  by_cases h : p.1 = a
  ·rw [if_pos h, h, Maps.atKey_put_same (mD_isMap m) (by trivial)]; rfl
  ·rw [if_neg h, Maps.atKey_put_other (fun e => h (by injection e with _ e; exact e.symm)), ih]
def nmH (c : Int) : Bool := (impl_isName.f c).getD false
theorem nmH_eq (c : Int) : impl_isName.f c = some (nmH c) := by
 unfold nmH impl_isName.f; split <;> rfl
def mtc (s : ByteArray) : Nat → Nat → List Int → List (Int × Int) → List (Int × Int) × Bool
 | 0, _, st, m => (m, decide (st.length = 0))
 | d + 1, i, st, m =>
  if nmH (bt s i) = true then (if 12 < st.length + 1 then ([], false) else mtc s d (i + 1) (st ++ [(i : Int)]) m)
  else if bt s i = 47 then (if st.length = 0 then ([], false) else mtc s d (i + 1) (st.take (st.length - 1)) ((rd st ((st.length : Int) - 1), (i : Int)) :: ((i : Int), rd st ((st.length : Int) - 1)) :: m))
  else mtc s d (i + 1) st m
def impl_matches.f (k : Nat) (a0 : ByteArray) : Option (List (Int × Int) × Bool) :=
 (impl_GoodText.f k a0).bind fun g => if g = true then (if a0.size ≤ 300 then some (mtc a0 a0.size 0 [] []) else none) else some ([], false)
theorem impl_matches.mono : ∀ a0 k, LeO (impl_matches.f k a0) (impl_matches.f (k + 1) a0) := by
 intro a0 k
 unfold impl_matches.f
 repeat' first
   | (with_reducible exact impl_GoodText.mono _ _)
   | (with_reducible exact LeO.refl _)
   | (with_reducible exact LeO.none _)
   | (with_reducible refine LeO.ite ?_ ?_)
   | (with_reducible refine LeO.bind ?_ (fun _ => ?_))
/-- What 'matches' hands back. -/
def IsMt (w : World) (v : Value) (m : List (Int × Int)) (ok : Bool) : Prop :=
 (∃ b, v = .map b) ∧ (ok = true → ∃ B, v = .map (some B) ∧ w.ownsMap Try.prog 3 (plainElem (H := Unit) Try.prog 3) B m.length (mD m))
theorem own_drewN {w : World} {R : Value → Option (DataW Unit × List MemPlace)} {b n : Nat} {D : DataW Unit} (h : w.ownsMap Try.prog 3 R b n D) (m : Nat) : (w.drewN m).ownsMap Try.prog 3 R b n D := h
def MtAt (w : World) (a0 : ByteArray) (r : List (Int × Int) × Bool) (d : Nat) (v5 v14 : Value) (w' : World) : Prop :=
 ∃ (i : Nat) (x : Int) (st : List Int) (m : List (Int × Int)), v14 = .int .i64 x ∧ x = (i : Int) ∧ i + d = a0.size ∧ Kd.R (Kd.int .i64) 3 w' (w.heap.size + 1) (fun _ => True) v5 st ∧
  w'.ownsMap Try.prog 3 (plainElem (H := Unit) Try.prog 3) w.heap.size m.length (mD m) ∧ m.length ≤ 2 * i ∧ (∀ x ∈ st, 0 ≤ x ∧ x ≤ 300) ∧ st.length ≤ 12 ∧ mtc a0 d i st m = r ∧ Below w.heap.size w w' ∧ w.heap.size < w'.heap.size
theorem rd_mem_bd {st : List Int} (h : ∀ x ∈ st, 0 ≤ x ∧ x ≤ 300) (i : Int) : 0 ≤ rd st i ∧ rd st i ≤ 300 := by
 unfold rd
 rw [List.getD_eq_getElem?_getD]
 cases e : st[i.toNat]? with
 | none => simp
 | some y => exact h y (List.mem_of_getElem? e)
theorem belowR {w wr w1 : World} {v : Value} {st : List Int} (hb : Below w.heap.size w wr) (hw : w.heap.size < wr.heap.size) (hr : Kd.R (Kd.int .i64) 3 wr (w.heap.size + 1) (fun _ => True) v st) (hg : wr.grownBy w1 v.ownBlock) : Below w.heap.size w w1 :=
 hb.grown hg (Nat.le_of_lt hw) (fun k hk => by have := Kd.R_base hr k hk; omega)
theorem mapNe {w wr : World} {v : Value} {st : List Int} (hr : Kd.R (Kd.int .i64) 3 wr (w.heap.size + 1) (fun _ => True) v st) : some w.heap.size ≠ v.ownBlock := fun e => by have := Kd.R_base hr _ e.symm; omega
theorem ends_nil {a0 : ByteArray} {i : Nat} {st : List Int} {m : List (Int × Int)} {r : List (Int × Int) × Bool} (h : mtc a0 0 i st m = r) : r = (m, decide (st.length = 0)) := h.symm
theorem mt_law : Go.Maps.Keyed Try.prog 3 := Go.Maps.int_keyed Try.underlying3
theorem mt_zero (w : World) : (zeroValue 3).run Try.prog w = .ok (.int .i64 0) w := by kernel_rfl
set_option maxHeartbeats 2000000 in
set_option maxRecDepth 100000 in
theorem impl_matches.calls (k : Nat) (a0 : ByteArray) (m : List (Int × Int)) (ok : Bool) (w : World) (h : impl_matches.f k a0 = some (m, ok)) :
  Calls Try.prog 37 #[.string a0] w fun e w' => ∃ v : Value, e = .returned (.tuple #[v, .bool ok]) ∧ IsMt w' v m ok ∧ Below w.heap.size w w' := by
 have hmm := @run_makeMap Try.prog
 have HB := aM (Below.refl w.heap.size w)
 have H : ((impl_GoodText.f k a0).bind fun g => if g = true then (if a0.size ≤ 300 then some (mtc a0 a0.size 0 [] []) else none) else some ([], false)) = some (m, ok) := h
 clear h
 replace H := oB H
 obtain ⟨g, A1, H⟩ := H
 cases g with
 | false =>
  rw [if_neg (by simp)] at H
  obtain ⟨rfl, rfl⟩ := Prod.mk.inj (sI H)
  clear H
  have A2 := aM A1
  clear A1
  go_enter Try.func37, Try.ntmps37
  go_wp2_with (first | (go_at_call 45; refine (impl_GoodText.calls k a0 false _ A2.out).mono ?_; rintro e w' ⟨rfl, ⟨nd, rfl⟩⟩))
  go_ret2
  exact ⟨_, rfl, ⟨⟨none, rfl⟩, fun h => by cases h⟩, pD HB.out _⟩
 | true =>
  rw [if_pos rfl] at H
  by_cases hsz : a0.size ≤ 300
  ·rw [if_pos hsz] at H
   have HS := aM hsz
   have A2 := aM A1
   clear A1
   have H2 : Aside0 (mtc a0 a0.size 0 [] [] = (m, ok)) := ⟨sI H⟩
   clear H
   go_enter Try.func37, Try.ntmps37
   go_wp2_with (first | (go_at_call 45; refine (impl_GoodText.calls k a0 true _ A2.out).mono ?_; rintro e w' ⟨rfl, ⟨nd, rfl⟩⟩))
   go_loopg [5, 14] a0.size (fun d v5 v14 w' => MtAt w a0 (m, ok) d v5 v14 w')
   case atStart => exact ⟨0, 0, [], [], rfl, rfl, by omega, Kd.R_nil _ _ _ _ _, World.ownsMap_made _ _ _ _, Nat.zero_le _, fun _ h => (by cases h), by simp, H2.out, bA (pD HB.out _) _, by simp⟩
   case round =>
    clear HB H2
    obtain ⟨i, x, st, mm, rfl, hxi, hid, hr, hown, hml, hst, hsl, hm, hb, hws⟩ := hrel
    have HR := aM hr
    have HO := aM hown
    have HL := aM hml
    have HT := aM hst
    have HE := aM hsl
    have HB := aM hb
    have HW := aM hws
    have HX := aM hxi
    cases gk with
    | zero =>
     have hil : i = a0.size := by omega
     have hxn : decide (x < (a0.size : Int)) = false := dF (by omega)
     unfold mtc at hm
     obtain ⟨rfl, hok⟩ := Prod.mk.inj hm
     obtain ⟨A5, c5, rfl⟩ := Kd.R_slice hr
     have hok' : (((st.length : Nat) : Int) == 0) = ok := by rw [← hok, Bool.eq_iff_iff]; simp
     clear hr hown hml hst hsl hb hws hm hid hok hxi hil
     go_wp2
     go_ret2
     exact ⟨_, rfl, ⟨⟨_, rfl⟩, fun _ => ⟨_, rfl, HO.out⟩⟩, HB.out⟩
    | succ k1 =>
     have hil : i < a0.size := by omega
     have HI : Aside0 (i + 1 + k1 = a0.size) := ⟨by omega⟩
     have P5 : Aside0 ((0 ≤ x) = True) := ⟨eq_true (by omega)⟩
     have Q5 : Aside0 ((x < (a0.size : Int)) = True) := ⟨eq_true (by omega)⟩
     have p5 := P5.out
     have q5 := Q5.out
     have hx0 : 0 ≤ x := by omega
     have hx3 : x ≤ 300 := by have := HS.out; omega
     have c2b0 : decide (x < (a0.size : Int)) = true := dT (by omega)
     have hx5 := bt_at a0 x
     have HXN : Aside0 (x + 1 = ((i + 1 : Nat) : Int)) := ⟨by omega⟩
     unfold mtc at hm
     rw [← hxi] at hm
     by_cases c3 : nmH (bt a0 x) = true
     ·rw [if_pos c3] at hm
      have A7 : Aside0 (impl_isName.f (bt a0 x) = some true) := ⟨by rw [nmH_eq, c3]⟩
      clear c3
      by_cases c4 : 12 < st.length + 1
      ·rw [if_pos c4] at hm
       obtain ⟨rfl, rfl⟩ := Prod.mk.inj hm
       have c4b : decide (12 < ((st.length : Int) + 1)) = true := dT (by omega)
       have c4c : decide (12 < st.length + 1) = true := dT c4
       clear hm hr hown hml hst hsl hb hws hid hxi hil c4
       go_wp2_with (first | ((with_reducible refine gate_callee (f := 50) rfl ?_); refine goesL_ (some 21) rfl rfl Try.func50 z0 rfl #[.int .u8 (bt a0 x)] rfl z12 ?_; (with_reducible refine (impl_isName.calls (bt a0 x) true _ A7.out).mono ?_); rintro e w' ⟨rfl, ⟨nd2, rfl⟩⟩; refine ⟨_, rfl, ?_⟩) | ((with_reducible refine gate_builtin (b := .append) (xs := #[.tmp 22, .tmp 24]) rfl ?_); at_builtin; refine Kd.R_append (Kd.int .i64) (w0 := wr.drewN nd2) (w.heap.size + 1) rfl (.tmp 22) (.tmp 24) 74 3 (.int .i64 0) 8 rfl Try.underlying74 info3 rfl (by decide) (by omega) u5 st x [.int .i64 x] (fun _ => True) (fun _ => False) rfl rfl ?aP (fun _ hk => hk.elim) (fun _ _ => trivial) ?aO ?aB ?aS ?aL ?_; (case aP => exact rfl); (case aB => exact Below.refl _ _); (case aO => exact Kd.R_drewN HR.out _); (case aS => exact HW.out); (case aL => have := HE.out; omega); intro v25 w10 ho hb1 hg hat; have HR1 := aM ho; have HG1 : Aside0 (wr.grownBy w10 u5.ownBlock) := aM ⟨hg.os, hg.tape, hg.output, hg.size, hg.block⟩; clear hg hb1; obtain ⟨A25, c25, eo25⟩ := Kd.R_slice ho; rw [List.length_append, List.length_singleton] at eo25; subst eo25; clear ho hat))
       go_ret2
       exact ⟨_, rfl, ⟨⟨none, rfl⟩, fun h => by cases h⟩, belowR HB.out HW.out HR.out HG1.out⟩
      ·rw [if_neg c4] at hm
       have c4c : decide (12 < st.length + 1) = false := dF c4
       have c4b : decide (12 < ((st.length : Int) + 1)) = false := dF (by omega)
       have HM := aM hm
       have HE2 : Aside0 (st.length + 1 ≤ 12) := ⟨by omega⟩
       clear hm hr hown hml hst hsl hb hws hid hxi hil c4
       go_wp2_with (first | ((with_reducible refine gate_callee (f := 50) rfl ?_); refine goesL_ (some 21) rfl rfl Try.func50 z0 rfl #[.int .u8 (bt a0 x)] rfl z12 ?_; (with_reducible refine (impl_isName.calls (bt a0 x) true _ A7.out).mono ?_); rintro e w' ⟨rfl, ⟨nd2, rfl⟩⟩; refine ⟨_, rfl, ?_⟩) | ((with_reducible refine gate_builtin (b := .append) (xs := #[.tmp 22, .tmp 24]) rfl ?_); at_builtin; refine Kd.R_append (Kd.int .i64) (w0 := wr.drewN nd2) (w.heap.size + 1) rfl (.tmp 22) (.tmp 24) 74 3 (.int .i64 0) 8 rfl Try.underlying74 info3 rfl (by decide) (by omega) u5 st x [.int .i64 x] (fun _ => True) (fun _ => False) rfl rfl ?aP (fun _ hk => hk.elim) (fun _ _ => trivial) ?aO ?aB ?aS ?aL ?_; (case aP => exact rfl); (case aB => exact Below.refl _ _); (case aO => exact Kd.R_drewN HR.out _); (case aS => exact HW.out); (case aL => have := HE.out; omega); intro v25 w10 ho hb1 hg hat; have HR1 := aM ho; have HG1 : Aside0 (wr.grownBy w10 u5.ownBlock) := aM ⟨hg.os, hg.tape, hg.output, hg.size, hg.block⟩; clear hg hb1; obtain ⟨A25, c25, eo25⟩ := Kd.R_slice ho; rw [List.length_append, List.length_singleton] at eo25; subst eo25; clear ho hat))
       go_roundg k1
       case measure => omega
       case rel => exact ⟨i + 1, x + 1, _, mm, rfl, HXN.out, HI.out, HR1.out, HO.out.kept HG1.out (mapNe HR.out), by have := HL.out; omega, (by intro y hy; rcases List.mem_append.1 hy with hy | hy; exact HT.out y hy; obtain rfl := List.mem_singleton.1 hy; exact ⟨hx0, hx3⟩), by rw [List.length_append, List.length_singleton]; exact HE2.out, HM.out, belowR HB.out HW.out HR.out HG1.out, Nat.lt_of_lt_of_le HW.out HG1.out.size⟩
     ·rw [if_neg c3] at hm
      have A7 : Aside0 (impl_isName.f (bt a0 x) = some false) := ⟨by rw [nmH_eq, Bool.eq_false_iff.mpr c3]⟩
      clear c3
      by_cases c4 : bt a0 x = 47
      ·rw [if_pos c4] at hm
       have c12b0 : (bt a0 x == 47) = true := qT c4
       clear c4
       by_cases c5 : st.length = 0
       ·rw [if_pos c5] at hm
        obtain ⟨rfl, rfl⟩ := Prod.mk.inj hm
        obtain ⟨A5, cc5, rfl⟩ := Kd.R_slice hr
        have c5b : ((st.length : Int) == 0) = true := by simp [c5]
        clear hm hr hown hml hst hsl hb hws hid hxi hil c5
        go_wp2_with (first | ((with_reducible refine gate_callee (f := 50) rfl ?_); refine goesL_ (some 21) rfl rfl Try.func50 z0 rfl #[.int .u8 (bt a0 x)] rfl z12 ?_; (with_reducible refine (impl_isName.calls (bt a0 x) false _ A7.out).mono ?_); rintro e w' ⟨rfl, ⟨nd2, rfl⟩⟩; refine ⟨_, rfl, ?_⟩; have p32 : (0 ≤ x) = True := P5.out; have q32 : (x < (a0.size : Int)) = True := Q5.out; have hx32 := bt_at a0 x))
        go_ret2
        exact ⟨_, rfl, ⟨⟨none, rfl⟩, fun h => by cases h⟩, pD HB.out _⟩
       ·rw [if_neg c5] at hm
        obtain ⟨g, cc5, rfl, hg1, hg2, cells, hg3⟩ := Kd.R_form hr (by omega)
        have c5b : ((st.length : Int) == 0) = false := by simp [c5]
        obtain ⟨j, hj⟩ : ∃ j : Int, j = (st.length : Int) - 1 := ⟨_, rfl⟩
        have hjw : IntKind.i64.wrap ((st.length : Int) - 1) = j := by rw [hj]; exact IntWalk.i64_in _ (by omega)
        rw [← hj] at hm
        obtain ⟨y, hy⟩ : ∃ y : Int, y = rd st j := ⟨_, rfl⟩
        rw [← hy] at hm
        have hyb := rd_mem_bd hst j
        rw [← hy] at hyb
        have HJ := aM hj
        have HM := aM hm
        have hcell := Kd.R_cell (0 : Int) hr j (by omega) (by omega)
        have e1 : wr.cell? ⟨g, j.toNat, none⟩ = some (.int .i64 y) := by rw [hcell.1, hy]; rfl
        have e2 := hcell.2
        have j0 : (0 ≤ j) = True := eq_true (by omega)
        have j1 : (j < (st.length : Int)) = True := eq_true (by omega)
        have j2 : (j ≤ (st.length : Int)) = True := eq_true (by omega)
        have j3 : decide (0 ≤ j) = true := dT (by omega)
        have j4 : decide (j < (st.length : Int)) = true := dT (by omega)
        have j5 : decide (j ≤ (st.length : Int)) = true := dT (by omega)
        obtain ⟨i0, hi0, _, hsz0, _⟩ := info_parts info3
        have hcut := cut_to (P := Try.prog) 74 3 .i64 Try.underlying74 hi0 (some ⟨g, 0, none⟩) st.length cc5 j (by omega) (by omega) (Kd.R_reads' hr).2.1
        have hrt := Kd.R_take (m := j.toNat) hr (by omega)
        have hjn : j.toNat = st.length - 1 := by omega
        have HT1 : Aside0 (Kd.R (Kd.int .i64) 3 wr (w.heap.size + 1) (fun _ => True) (.slice (some ⟨g, 0, none⟩) j.toNat cc5) (st.take (st.length - 1))) := ⟨by rw [← hjn]; exact hrt⟩
        have hkx : keyOf Try.prog 3 (.int .i64 x) = some (.int .i64 x) := Go.Maps.keyOf_int_mk Try.underlying3 (wf64 hx0 hx3)
        have hky : keyOf Try.prog 3 (.int .i64 y) = some (.int .i64 y) := Go.Maps.keyOf_int_mk Try.underlying3 (wf64 hyb.1 hyb.2)
        have hpx := plainElem_int (H := Unit) Try.underlying3 (wf64 hx0 hx3)
        have hpy := plainElem_int (H := Unit) Try.underlying3 (wf64 hyb.1 hyb.2)
        have HPX := aM hpx
        have HPY := aM hpy
        have HKX := aM hkx
        have HKY := aM hky
        have HSB : Aside0 (∀ z ∈ st.take (st.length - 1), 0 ≤ z ∧ z ≤ 300) := ⟨fun z hz => hst z (List.mem_of_mem_take hz)⟩
        have HSL : Aside0 ((st.take (st.length - 1)).length ≤ 12) := ⟨by rw [List.length_take]; omega⟩
        have HML : Aside0 (mm.length + 1 < maxLen) := ⟨by unfold maxLen; omega⟩
        clear hm hr hown hml hst hsl hb hws hid hxi hil c5 hj hy hcell hi0 hsz0 hrt hjn hkx hky hpx hpy hg1 hg2 hg3
        go_wp2_with (first | ((with_reducible refine gate_callee (f := 50) rfl ?_); refine goesL_ (some 21) rfl rfl Try.func50 z0 rfl #[.int .u8 (bt a0 x)] rfl z12 ?_; (with_reducible refine (impl_isName.calls (bt a0 x) false _ A7.out).mono ?_); rintro e w' ⟨rfl, ⟨nd2, rfl⟩⟩; refine ⟨_, rfl, ?_⟩; have p32 : (0 ≤ x) = True := P5.out; have q32 : (x < (a0.size : Int)) = True := Q5.out; have hx32 := bt_at a0 x) | (at_mapUpdate; refine wpList_mapUpdate_own _ rfl (.tmp 48) (.tmp 49) (.tmp 52) 55 rfl 3 3 mt_law Try.underlying55 _ w.heap.size _ _ rfl (own_drewN HO.out _) (by have := HML.out; omega) (.int .i64 x) (.int .i64 y) (.int .i64 x) rfl rfl HKX.out _ [] HPY.out ?_; intro w1 hown1 hgrow1; have HO1 := aM hown1; have HG1 := aM hgrow1; clear hown1 hgrow1) | (at_mapUpdate; refine wpList_mapUpdate_own _ rfl (.tmp 50) (.tmp 51) (.tmp 53) 55 rfl 3 3 mt_law Try.underlying55 _ w.heap.size _ _ rfl HO1.out HML.out (.int .i64 y) (.int .i64 x) (.int .i64 y) rfl rfl HKY.out _ [] HPX.out ?_; intro w2 hown2 hgrow2; have HO2 := aM hown2; have HG2 := aM hgrow2; clear hown2 hgrow2))
        have hb2 : Below w.heap.size w w2 := ((pD HB.out nd2).grown HG1.out (Nat.le_of_lt HW.out) (fun k hk => by injection hk with hk; omega)).grown HG2.out (Nat.le_trans (Nat.le_of_lt HW.out) HG1.out.size) (fun k hk => by injection hk with hk; omega)
        have hr2 : Kd.R (Kd.int .i64) 3 w2 (w.heap.size + 1) (fun _ => True) (.slice (some ⟨g, 0, none⟩) j.toNat cc5) (st.take (st.length - 1)) := Kd.R_grown1 (Kd.R_grown1 (Kd.R_drewN HT1.out nd2) rfl HG1.out (mapNe HT1.out)) rfl HG2.out (mapNe HT1.out)
        have hw2 : w.heap.size < w2.heap.size := Nat.lt_of_lt_of_le HW.out (Nat.le_trans HG1.out.size HG2.out.size)
        have HB2 := aM hb2
        have HR2 := aM hr2
        have HW2 := aM hw2
        clear hb2 hr2 hw2
        go_roundg k1
        case measure => omega
        case rel => exact ⟨i + 1, x + 1, st.take (st.length - 1), (y, x) :: (x, y) :: mm, rfl, HXN.out, HI.out, HR2.out, HO2.out, by have := HL.out; simp only [List.length_cons]; omega, HSB.out, HSL.out, HM.out, HB2.out, HW2.out⟩
      ·rw [if_neg c4] at hm
       have c12b0 : (bt a0 x == 47) = false := qF c4
       have HM := aM hm
       clear hm hr hown hml hst hsl hb hws hid hxi hil c4
       go_wp2_with (first | ((with_reducible refine gate_callee (f := 50) rfl ?_); refine goesL_ (some 21) rfl rfl Try.func50 z0 rfl #[.int .u8 (bt a0 x)] rfl z12 ?_; (with_reducible refine (impl_isName.calls (bt a0 x) false _ A7.out).mono ?_); rintro e w' ⟨rfl, ⟨nd2, rfl⟩⟩; refine ⟨_, rfl, ?_⟩; have p32 : (0 ≤ x) = True := P5.out; have q32 : (x < (a0.size : Int)) = True := Q5.out; have hx32 := bt_at a0 x))
       go_roundg k1
       case measure => omega
       case rel => exact ⟨i + 1, x + 1, st, mm, rfl, HXN.out, HI.out, Kd.R_drewN HR.out _, own_drewN HO.out _, by have := HL.out; omega, HT.out, HE.out, HM.out, pD HB.out _, HW.out⟩
  ·rw [if_neg hsz] at H
   cases H


/-! ### impl_GoodDoc: function 18, by hand -/
/-! ### impl_GoodDoc: by hand -/
def impl_GoodDoc.f (k : Nat) (a0 : ByteArray) : Option Bool := (impl_matches.f k a0).bind fun p => some p.2
theorem impl_GoodDoc.mono : ∀ a0 k, LeO (impl_GoodDoc.f k a0) (impl_GoodDoc.f (k + 1) a0) := by
 intro a0 k
 unfold impl_GoodDoc.f
 repeat' first
   | (with_reducible exact impl_matches.mono _ _)
   | (with_reducible exact LeO.refl _)
   | (with_reducible exact LeO.none _)
   | (with_reducible refine LeO.ite ?_ ?_)
   | (with_reducible refine LeO.bind ?_ (fun _ => ?_))
theorem impl_GoodDoc.calls (k : Nat) (a0 : ByteArray) (r : Bool) (w : World) (h : impl_GoodDoc.f k a0 = some r) :
  Calls Try.prog 18 #[.string a0] w fun e w' => e = .returned (.bool r) ∧ Below w.heap.size w w' := by
 have H : ((impl_matches.f k a0).bind fun p => some p.2) = some r := h
 clear h
 replace H := oB H
 obtain ⟨⟨m, ok⟩, A1, H⟩ := H
 obtain rfl := sI H
 have A2 := aM A1
 clear A1 H
 go_enter Try.func18, Try.ntmps18
 go_wp2_with (first | (go_at_call 37; refine (impl_matches.calls k a0 m ok _ A2.out).mono ?_; rintro e w' ⟨v, rfl, hv, hb⟩; have HB := aM hb; clear hv hb))
 go_ret
 exact ⟨rfl, HB.out⟩


/-! ### impl_maker_end: function 84, by hand -/

/-! ### impl_maker_keep: function 83, by hand -/

/-! ### impl_maker_take: function 67, by hand -/

end Go.Proofs.Ytmigfgcpdelnfaa.AFnExactCompileCommand
