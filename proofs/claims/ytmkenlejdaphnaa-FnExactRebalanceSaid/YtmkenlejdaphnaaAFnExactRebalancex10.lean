-- this session's own text: written by wip/tools/ownprint.py over the kit's print
import Derived.SizedLaws
import Derived.Deep.Slices
import Derived.Deep.Fields
import Derived.ChangeSame
import Derived.Test.YtmkenlejdaphnaaAFnExactRebalancex0
import Derived.Test.YtmkenlejdaphnaaAFnExactRebalancex1
import Derived.Test.YtmkenlejdaphnaaAFnExactRebalancex2
import Derived.Test.YtmkenlejdaphnaaAFnExactRebalancex3
import Derived.Test.YtmkenlejdaphnaaAFnExactRebalancex6
import Derived.Test.YtmkenlejdaphnaaAFnExactRebalancex9
namespace Go.Proofs.Ytmkenlejdaphnaa.AFnExactRebalance
open Go.RowKit Go.Proofs.YtmkenlejdaphnaaW.PrintWords Go.Proofs.YtmkenlejdaphnaaW.PrintLast Go.Proofs.YtmkenlejdaphnaaW.PrintMore
attribute [local go_sem] max2_int min2_int max_two min_two max_three min_three max_four min_four   -- for this text's walks alone
set_option linter.unusedVariables false
set_option linter.unusedSimpArgs false

/-! ### laws_FnExactRebalance: function 10 -/
mutual
def laws_FnExactRebalance.j0 : Nat → Bool → Bool → Bool → List (S99) → List (S58) → List (S58) → List (S58) → Option (Bool)
 | 0, _, _, _, _, _, _, _ => none
 | k + 1, x5, x8, x40, x231000, x240000, x244000, x249000 => if x40 = true then (some false) else ((laws_toRope.f k x231000).bind fun t250 => ((laws_eqRope.f k x244000 t250).bind fun t253 => (if t253 = true then ((laws_markRope.f k x244000 1).bind fun bt254 => (if bt254.1 < 0 then (laws_FnExactRebalance.j1 k x5 true x231000 x240000 x249000) else ((laws_eqRope.f k x249000 x240000).bind fun t256 => (if t256 = true then (laws_FnExactRebalance.j1 k x5 (x8 != x5) x231000 x240000 x249000) else (laws_FnExactRebalance.j1 k x5 true x231000 x240000 x249000))))) else (some false))))
def laws_FnExactRebalance.j1 : Nat → Bool → Bool → List (S99) → List (S58) → List (S58) → Option (Bool)
 | 0, _, _, _, _, _ => none
 | k + 1, x5, x61, x231000, x240000, x249000 => if x61 = true then (some false) else ((laws_markRope.f k x249000 1).bind fun bt257 => ((laws_heldRope.f k bt257.2 1).bind fun t259 => (if t259 < 0 then (some false) else (if t259 = bt257.1 then ((laws_toRope.f k x231000).bind fun t260 => ((impl_Rebalance.f k t260).bind fun bt263 => ((laws_eqRope.f k bt263.1 x240000).bind fun t268 => (if t268 = true then (laws_FnExactRebalance.j2 k bt257.1 (bt263.2 != x5) bt257.2) else (laws_FnExactRebalance.j2 k bt257.1 true bt257.2))))) else (some false)))))
def laws_FnExactRebalance.j2 : Nat → Int → Bool → List (S58) → Option (Bool)
 | 0, _, _, _ => none
 | k + 1, x10, x87, x249000 => if x87 = true then (some false) else ((laws_heldRope.f k x249000 1).bind fun t269 => (if t269 < 0 then (some false) else (if t269 = x10 then (some true) else (some false))))
end
def laws_FnExactRebalance.f (k : Nat) (l0_0 : List (S99)) : Option (Bool) := (laws_szRope.f k l0_0 1048576).bind fun t231 => (if t231 < 0 then (some true) else ((laws_toRope.f k l0_0).bind fun t232 => ((spec_Rebalance.f k t232).bind fun bt235 => ((laws_toRope.f k l0_0).bind fun t240 => ((impl_Rebalance.f k t240).bind fun bt244 => ((laws_eqRope.f k bt244.1 bt235.1).bind fun t249 => (if t249 = true then (laws_FnExactRebalance.j0 k bt235.2 bt244.2 (bt244.2 != bt235.2) l0_0 bt235.1 t240 bt244.1) else (laws_FnExactRebalance.j0 k bt235.2 bt244.2 true l0_0 bt235.1 t240 bt244.1))))))))
theorem laws_FnExactRebalance.mono_l : ∀ k, (∀ y0 y1 y2 y3 y4 y5 y6, LeO (laws_FnExactRebalance.j0 k y0 y1 y2 y3 y4 y5 y6) (laws_FnExactRebalance.j0 (k + 1) y0 y1 y2 y3 y4 y5 y6)) ∧ (∀ y0 y1 y2 y3 y4, LeO (laws_FnExactRebalance.j1 k y0 y1 y2 y3 y4) (laws_FnExactRebalance.j1 (k + 1) y0 y1 y2 y3 y4)) ∧ (∀ y0 y1 y2, LeO (laws_FnExactRebalance.j2 k y0 y1 y2) (laws_FnExactRebalance.j2 (k + 1) y0 y1 y2))
 | 0 => ⟨fun _ _ _ _ _ _ _ r h => by simp [laws_FnExactRebalance.j0] at h, fun _ _ _ _ _ r h => by simp [laws_FnExactRebalance.j1] at h, fun _ _ _ r h => by simp [laws_FnExactRebalance.j2] at h⟩
 | k + 1 => by
  obtain ⟨ih0, ih1, ih2⟩ := laws_FnExactRebalance.mono_l k
  refine ⟨?_, ?_, ?_⟩
  ·intro y0 y1 y2 y3 y4 y5 y6
   unfold laws_FnExactRebalance.j0
   repeat' first
   | (with_reducible exact ih0 _ _ _ _ _ _ _)
   | (with_reducible exact ih1 _ _ _ _ _)
   | (with_reducible exact ih2 _ _ _)
   | (with_reducible exact impl_Rebalance.mono _ _)
   | (with_reducible exact laws_eqRope.mono _ _ _)
   | (with_reducible exact laws_heldRope.mono _ _ _)
   | (with_reducible exact laws_markRope.mono _ _ _)
   | (with_reducible exact laws_szRope.mono _ _ _)
   | (with_reducible exact laws_toRope.mono _ _)
   | (with_reducible exact spec_Rebalance.mono _ _)
   | (with_reducible exact LeO.refl _)
   | (with_reducible exact LeO.none _)
   | (with_reducible refine LeO.ite ?_ ?_)
   | (with_reducible refine LeO.bind ?_ (fun _ => ?_))
   | exact ih0 _ _ _ _ _ _ _
   | exact ih1 _ _ _ _ _
   | exact ih2 _ _ _
   | exact impl_Rebalance.mono _ _
   | exact laws_eqRope.mono _ _ _
   | exact laws_heldRope.mono _ _ _
   | exact laws_markRope.mono _ _ _
   | exact laws_szRope.mono _ _ _
   | exact laws_toRope.mono _ _
   | exact spec_Rebalance.mono _ _
   | exact LeO.none _
   | refine LeO.ite ?_ ?_
   | refine LeO.bind ?_ (fun _ => ?_)
  ·intro y0 y1 y2 y3 y4
   unfold laws_FnExactRebalance.j1
   repeat' first
   | (with_reducible exact ih0 _ _ _ _ _ _ _)
   | (with_reducible exact ih1 _ _ _ _ _)
   | (with_reducible exact ih2 _ _ _)
   | (with_reducible exact impl_Rebalance.mono _ _)
   | (with_reducible exact laws_eqRope.mono _ _ _)
   | (with_reducible exact laws_heldRope.mono _ _ _)
   | (with_reducible exact laws_markRope.mono _ _ _)
   | (with_reducible exact laws_szRope.mono _ _ _)
   | (with_reducible exact laws_toRope.mono _ _)
   | (with_reducible exact spec_Rebalance.mono _ _)
   | (with_reducible exact LeO.refl _)
   | (with_reducible exact LeO.none _)
   | (with_reducible refine LeO.ite ?_ ?_)
   | (with_reducible refine LeO.bind ?_ (fun _ => ?_))
   | exact ih0 _ _ _ _ _ _ _
   | exact ih1 _ _ _ _ _
   | exact ih2 _ _ _
   | exact impl_Rebalance.mono _ _
   | exact laws_eqRope.mono _ _ _
   | exact laws_heldRope.mono _ _ _
   | exact laws_markRope.mono _ _ _
   | exact laws_szRope.mono _ _ _
   | exact laws_toRope.mono _ _
   | exact spec_Rebalance.mono _ _
   | exact LeO.none _
   | refine LeO.ite ?_ ?_
   | refine LeO.bind ?_ (fun _ => ?_)
  ·intro y0 y1 y2
   unfold laws_FnExactRebalance.j2
   repeat' first
   | (with_reducible exact ih0 _ _ _ _ _ _ _)
   | (with_reducible exact ih1 _ _ _ _ _)
   | (with_reducible exact ih2 _ _ _)
   | (with_reducible exact impl_Rebalance.mono _ _)
   | (with_reducible exact laws_eqRope.mono _ _ _)
   | (with_reducible exact laws_heldRope.mono _ _ _)
   | (with_reducible exact laws_markRope.mono _ _ _)
   | (with_reducible exact laws_szRope.mono _ _ _)
   | (with_reducible exact laws_toRope.mono _ _)
   | (with_reducible exact spec_Rebalance.mono _ _)
   | (with_reducible exact LeO.refl _)
   | (with_reducible exact LeO.none _)
   | (with_reducible refine LeO.ite ?_ ?_)
   | (with_reducible refine LeO.bind ?_ (fun _ => ?_))
   | exact ih0 _ _ _ _ _ _ _
   | exact ih1 _ _ _ _ _
   | exact ih2 _ _ _
   | exact impl_Rebalance.mono _ _
   | exact laws_eqRope.mono _ _ _
   | exact laws_heldRope.mono _ _ _
   | exact laws_markRope.mono _ _ _
   | exact laws_szRope.mono _ _ _
   | exact laws_toRope.mono _ _
   | exact spec_Rebalance.mono _ _
   | exact LeO.none _
   | refine LeO.ite ?_ ?_
   | refine LeO.bind ?_ (fun _ => ?_)
theorem laws_FnExactRebalance.mono : ∀ a0 k, LeO (laws_FnExactRebalance.f k a0) (laws_FnExactRebalance.f (k + 1) a0) := by
 intro a0 k
 obtain ⟨ih0, ih1, ih2⟩ := laws_FnExactRebalance.mono_l k
 unfold laws_FnExactRebalance.f
 repeat' first
   | (with_reducible exact ih0 _ _ _ _ _ _ _)
   | (with_reducible exact ih1 _ _ _ _ _)
   | (with_reducible exact ih2 _ _ _)
   | (with_reducible exact impl_Rebalance.mono _ _)
   | (with_reducible exact laws_eqRope.mono _ _ _)
   | (with_reducible exact laws_heldRope.mono _ _ _)
   | (with_reducible exact laws_markRope.mono _ _ _)
   | (with_reducible exact laws_szRope.mono _ _ _)
   | (with_reducible exact laws_toRope.mono _ _)
   | (with_reducible exact spec_Rebalance.mono _ _)
   | (with_reducible exact LeO.refl _)
   | (with_reducible exact LeO.none _)
   | (with_reducible refine LeO.ite ?_ ?_)
   | (with_reducible refine LeO.bind ?_ (fun _ => ?_))
   | exact ih0 _ _ _ _ _ _ _
   | exact ih1 _ _ _ _ _
   | exact ih2 _ _ _
   | exact impl_Rebalance.mono _ _
   | exact laws_eqRope.mono _ _ _
   | exact laws_heldRope.mono _ _ _
   | exact laws_markRope.mono _ _ _
   | exact laws_szRope.mono _ _ _
   | exact laws_toRope.mono _ _
   | exact spec_Rebalance.mono _ _
   | exact LeO.none _
   | refine LeO.ite ?_ ?_
   | refine LeO.bind ?_ (fun _ => ?_)
set_option maxHeartbeats 8000000 in
set_option maxRecDepth 100000 in
theorem laws_FnExactRebalance.calls (k : Nat) (A0_0 : Option Addr) (c0_0 : Nat) (l0_0 : List (S99)) (r : Bool) (HRT : Aside0 (r = true)) (w : World) (hr0_0 : Kd.C k99 w A0_0 l0_0.length l0_0) (hc0_0 : l0_0.length ≤ c0_0) (h : laws_FnExactRebalance.f k l0_0 = some r) :
  Calls Try.prog 10 #[.agg #[.slice A0_0 l0_0.length c0_0]] w fun e w' => e = .returned (.bool r) ∧ Below w.heap.size w w' := by
 have hu24 := Try.underlying24
 have hu29 := Try.underlying29
 have HR0_0 := Aside0.mk hr0_0
 have HC0_0 := Aside0.mk hc0_0
 clear hr0_0 hc0_0
 have HB := Aside0.mk (Below.refl w.heap.size w)
 have H : ((laws_szRope.f k l0_0 1048576).bind fun t231 => (if t231 < 0 then (some true) else ((laws_toRope.f k l0_0).bind fun t232 => ((spec_Rebalance.f k t232).bind fun bt235 => ((laws_toRope.f k l0_0).bind fun t240 => ((impl_Rebalance.f k t240).bind fun bt244 => ((laws_eqRope.f k bt244.1 bt235.1).bind fun t249 => (if t249 = true then (laws_FnExactRebalance.j0 k bt235.2 bt244.2 (bt244.2 != bt235.2) l0_0 bt235.1 t240 bt244.1) else (laws_FnExactRebalance.j0 k bt235.2 bt244.2 true l0_0 bt235.1 t240 bt244.1))))))))) = some r := h
 clear h
 replace H := Option.bind_eq_some_iff.mp H
 obtain ⟨t231, A20, H⟩ := H
 try dsimp only at H
 have A2 := Aside0.mk A20
 clear A20
 by_cases c3 : t231 < 0
 ·rw [if_pos c3] at H
  have c3b0 : decide (t231 < 0) = true := decide_eq_true c3
  clear c3
  first | (cases H.trans (congrArg some HRT.out); done) | skip
  all_goals
   obtain rfl := Option.some.inj H
   go_enter Try.func10, Try.ntmps10
   go_wp2_with (first | ((with_reducible refine gate_dst (N := 1) rfl ?_); refine box_event ?hg (N := 1) ?hd (cs := #[.slice A0_0 l0_0.length c0_0]) (t := 24) ?hr ?_; (case hd => rfl); (case hg => rfl); (case hr => first | (go_simp; done) | (go_simp; rfl)); intro gb230 hg w4 hbox hb; have n0_ := Aside0.mk (below_step z12 hb); have n1_ := Aside0.mk (hbox); have n2_ := Aside0.mk ((by rw [hg]; exact (below_size z12) : w.heap.size ≤ gb230)); have n3_ := Aside0.mk ((by rw [hg]; exact (below_size z12) : w.heap.size ≤ gb230)); clear HB; have HB := n0_; have BK230 := n1_; have GW230 := n2_; have GE230 := n3_; clear n0_ n1_ n2_ n3_; clear hb hbox hg; have hcz5_0 : w4.cell? ⟨gb230, 0, none⟩ = some (.slice A0_0 l0_0.length c0_0) := (blk_cell BK230.out 0).trans rfl; have hfz5_0 := blk_frozen BK230.out 0) | ((with_reducible refine gate_callee (f := 14) rfl ?_); refine goesL_ (some 16) rfl rfl Try.func14 z0 rfl #[.agg #[.slice A0_0 l0_0.length c0_0], .int .i64 1048576] rfl z13 ?_; (with_reducible refine (laws_szRope.calls k _ _ l0_0 1048576 t231 _ ?side1 ?side2 A2.out).mono ?_); (case side1 => repeat (first | exact (Kd.C_below HR0_0.out HB.out) | (with_reducible refine Kd.C_alloc ?_ _) | (with_reducible refine Kd.C_drewN ?_ _) | (with_reducible refine Kd.C_drew ?_))); (case side2 => exact HC0_0.out); rintro e w6 ⟨rfl, hb⟩; refine ⟨_, rfl, ?_⟩; have n0_ := Aside0.mk (blk_below (g := gb230) (o := .cells #[.slice A0_0 l0_0.length c0_0] 24 (0, 0)) z7 hb); have n1_ := Aside0.mk (below_step (by repeat (first | (with_reducible first | exact HB.out | apply below_alloc | apply pw_below_drewN | apply below_drew1 | refine below_set ?_ GE230.out) | exact HB.out)) hb); clear BK230; clear HB; have BK230 := n0_; have HB := n1_; clear n0_ n1_; (try clear hb); (try clear hb2); (try clear hk); (try clear hi)))
   go_ret
   exact ⟨by first | rfl | (simp [errW_none, errW_some] <;> rfl) | (simp [*, errW_none, errW_some] <;> rfl), by repeat (first | (with_reducible first | exact HB.out | apply below_alloc | apply pw_below_drewN | apply below_drew1 | refine below_set ?_ GE230.out) | exact HB.out)⟩
 ·rw [if_neg c3] at H
  have c3b0 : decide (t231 < 0) = false := decide_eq_false c3
  clear c3
  replace H := Option.bind_eq_some_iff.mp H
  obtain ⟨t232, A70, H⟩ := H
  try dsimp only at H
  have A7 := Aside0.mk A70
  clear A70
  replace H := Option.bind_eq_some_iff.mp H
  obtain ⟨⟨t235, t238⟩, A80, H⟩ := H
  try dsimp only at H
  have A8 := Aside0.mk A80
  clear A80
  replace H := Option.bind_eq_some_iff.mp H
  obtain ⟨t240, A90, H⟩ := H
  try dsimp only at H
  have A9 := Aside0.mk A90
  clear A90
  replace H := Option.bind_eq_some_iff.mp H
  obtain ⟨⟨t244, t247⟩, A100, H⟩ := H
  try dsimp only at H
  have A10 := Aside0.mk A100
  clear A100
  have HC11 := Aside0.mk H
  clear H
  go_enter Try.func10, Try.ntmps10
  go_upto_region 8 with (first | ((with_reducible refine gate_dst (N := 1) rfl ?_); refine box_event ?hg (N := 1) ?hd (cs := #[.slice A0_0 l0_0.length c0_0]) (t := 24) ?hr ?_; (case hd => rfl); (case hg => rfl); (case hr => first | (go_simp; done) | (go_simp; rfl)); intro gb230 hg w12 hbox hb; have n0_ := Aside0.mk (below_step z12 hb); have n1_ := Aside0.mk (hbox); have n2_ := Aside0.mk ((by rw [hg]; exact (below_size z12) : w.heap.size ≤ gb230)); have n3_ := Aside0.mk ((by rw [hg]; exact (below_size z12) : w.heap.size ≤ gb230)); clear HB; have HB := n0_; have BK230 := n1_; have GW230 := n2_; have GE230 := n3_; clear n0_ n1_ n2_ n3_; clear hb hbox hg; have hcz13_0 : w12.cell? ⟨gb230, 0, none⟩ = some (.slice A0_0 l0_0.length c0_0) := (blk_cell BK230.out 0).trans rfl; have hfz13_0 := blk_frozen BK230.out 0) | ((with_reducible refine gate_callee (f := 14) rfl ?_); refine goesL_ (some 16) rfl rfl Try.func14 z0 rfl #[.agg #[.slice A0_0 l0_0.length c0_0], .int .i64 1048576] rfl z13 ?_; (with_reducible refine (laws_szRope.calls k _ _ l0_0 1048576 t231 _ ?side1 ?side2 A2.out).mono ?_); (case side1 => repeat (first | exact (Kd.C_below HR0_0.out HB.out) | (with_reducible refine Kd.C_alloc ?_ _) | (with_reducible refine Kd.C_drewN ?_ _) | (with_reducible refine Kd.C_drew ?_))); (case side2 => exact HC0_0.out); rintro e w14 ⟨rfl, hb⟩; refine ⟨_, rfl, ?_⟩; have n0_ := Aside0.mk (blk_below (g := gb230) (o := .cells #[.slice A0_0 l0_0.length c0_0] 24 (0, 0)) z7 hb); have n1_ := Aside0.mk (below_step (by repeat (first | (with_reducible first | exact HB.out | apply below_alloc | apply pw_below_drewN | apply below_drew1 | refine below_set ?_ GE230.out) | exact HB.out)) hb); clear BK230; clear HB; have BK230 := n0_; have HB := n1_; clear n0_ n1_; (try clear hb); (try clear hb2); (try clear hk); (try clear hi); have hcz15_0 : w14.cell? ⟨gb230, 0, none⟩ = some (.slice A0_0 l0_0.length c0_0) := (blk_cell BK230.out 0).trans rfl; have hfz15_0 := blk_frozen BK230.out 0) | ((with_reducible refine gate_callee (f := 16) rfl ?_); refine goesL_ (some 21) rfl rfl Try.func16 z0 rfl #[.agg #[.slice A0_0 l0_0.length c0_0]] rfl z13 ?_; (with_reducible refine (laws_toRope.calls k _ _ l0_0 t232 _ ?side1 ?side2 A7.out).mono ?_); (case side1 => repeat (first | exact (Kd.C_below HR0_0.out HB.out) | (with_reducible refine Kd.C_alloc ?_ _) | (with_reducible refine Kd.C_drewN ?_ _) | (with_reducible refine Kd.C_drew ?_))); (case side2 => exact HC0_0.out); rintro e w16 ⟨v233, rfl, ho0, hb⟩; refine ⟨_, rfl, ?_⟩; have n0_ := Aside0.mk (Kd.R_lower ho0 (below_size (by repeat (first | (with_reducible first | exact HB.out | apply below_alloc | apply pw_below_drewN | apply below_drew1 | refine below_set ?_ GE230.out) | exact HB.out)))); have n1_ := Aside0.mk (blk_below (g := gb230) (o := .cells #[.slice A0_0 l0_0.length c0_0] 24 (0, 0)) z7 hb); have n2_ := Aside0.mk (below_step (by repeat (first | (with_reducible first | exact HB.out | apply below_alloc | apply pw_below_drewN | apply below_drew1 | refine below_set ?_ GE230.out) | exact HB.out)) hb); clear BK230; clear HB; have HO234 := n0_; have BK230 := n1_; have HB := n2_; clear n0_ n1_ n2_; (try clear hb); (try clear hb2); (try clear hk); (try clear hi); (try clear ho0); obtain ⟨Ao17, co17, eo17⟩ := Kd.R_slice HO234.out; subst eo17) | ((with_reducible refine gate_callee (f := 36) rfl ?_); refine goesL_ (some 22) rfl rfl Try.func36 z0 rfl #[.agg #[.slice Ao17 t232.length co17]] rfl z13 ?_; (with_reducible refine (spec_Rebalance.calls k _ _ t232 t235 t238 _ ?side1 ?side2 A8.out).mono ?_); (case side1 => repeat (first | exact (Kd.R_reads' HO234.out).2.2 | (with_reducible refine Kd.C_alloc ?_ _) | (with_reducible refine Kd.C_drewN ?_ _) | (with_reducible refine Kd.C_drew ?_))); (case side2 => exact (Kd.R_reads' HO234.out).2.1); rintro e w18 ⟨v236, rfl, ho0, hb⟩; refine ⟨_, rfl, ?_⟩; have n0_ := Aside0.mk (Kd.R_elder' (by (with_reducible repeat (first | apply Kd.R_alloc | apply Kd.R_drewN | apply Kd.R_drew)); exact HO234.out) (Kd.R_base ho0) hb); have n1_ := Aside0.mk (Kd.R_lower (Kd.R_new' ho0 (Kd.R_lt (by (with_reducible repeat (first | apply Kd.R_alloc | apply Kd.R_drewN | apply Kd.R_drew)); exact HO234.out))) (below_size (by repeat (first | (with_reducible first | exact HB.out | apply below_alloc | apply pw_below_drewN | apply below_drew1 | refine below_set ?_ GE230.out) | exact HB.out)))); have n2_ := Aside0.mk (blk_below (g := gb230) (o := .cells #[.slice A0_0 l0_0.length c0_0] 24 (0, 0)) z7 hb); have n3_ := Aside0.mk (below_step (by repeat (first | (with_reducible first | exact HB.out | apply below_alloc | apply pw_below_drewN | apply below_drew1 | refine below_set ?_ GE230.out) | exact HB.out)) hb); clear HO234; clear BK230; clear HB; have HO234 := n0_; have HO237 := n1_; have BK230 := n2_; have HB := n3_; clear n0_ n1_ n2_ n3_; (try clear hb); (try clear hb2); (try clear hk); (try clear hi); (try clear ho0)) | ((with_reducible refine gate_dst (N := 4) rfl ?_); refine box_event ?hg (N := 4) ?hd (cs := #[.slice none 0 0]) (t := 29) ?hr ?_; (case hd => rfl); (case hg => rfl); (case hr => first | (go_simp; done) | (go_simp; rfl)); intro gb239 hg w19 hbox hb; have n0_ := Aside0.mk (Kd.R_below (by (with_reducible repeat (first | apply Kd.R_alloc | apply Kd.R_drewN | apply Kd.R_drew)); exact HO234.out) hb); have n1_ := Aside0.mk (Kd.R_below (by (with_reducible repeat (first | apply Kd.R_alloc | apply Kd.R_drewN | apply Kd.R_drew)); exact HO237.out) hb); have n2_ := Aside0.mk (blk_below (g := gb230) (o := .cells #[.slice A0_0 l0_0.length c0_0] 24 (0, 0)) z7 hb); have n3_ := Aside0.mk (below_step (by repeat (first | (with_reducible first | exact HB.out | apply below_alloc | apply pw_below_drewN | apply below_drew1 | refine below_set ?_ GE230.out) | exact HB.out)) hb); have n4_ := Aside0.mk (hbox); have n5_ := Aside0.mk ((by rw [hg]; exact (below_size (by repeat (first | (with_reducible first | exact HB.out | apply below_alloc | apply pw_below_drewN | apply below_drew1 | refine below_set ?_ GE230.out) | exact HB.out))) : w.heap.size ≤ gb239)); have n6_ := Aside0.mk ((by rw [hg]; exact (below_size (by repeat (first | (with_reducible first | exact HB.out | apply below_alloc | apply pw_below_drewN | apply below_drew1 | refine below_set ?_ GE230.out) | exact HB.out))) : w.heap.size ≤ gb239)); have n7_ := Aside0.mk ((by rw [hg]; exact Nat.ne_of_lt (blk_lt (g := gb230) (o := .cells #[.slice A0_0 l0_0.length c0_0] 24 (0, 0)) z7) : gb230 ≠ gb239)); have n8_ := Aside0.mk ((by rw [hg]; exact Nat.ne_of_gt (blk_lt (g := gb230) (o := .cells #[.slice A0_0 l0_0.length c0_0] 24 (0, 0)) z7) : gb239 ≠ gb230)); clear HO234; clear HO237; clear BK230; clear HB; have HO234 := n0_; have HO237 := n1_; have BK230 := n2_; have HB := n3_; have BK239 := n4_; have GW239 := n5_; have GE239 := n6_; have NB230_239 := n7_; have NB239_230 := n8_; clear n0_ n1_ n2_ n3_ n4_ n5_ n6_ n7_ n8_; clear hb hbox hg; obtain ⟨Ao20, co20, eo20⟩ := Kd.R_slice HO237.out; subst eo20; have hnb21 := NB239_230.out; have hnc21 := NB230_239.out; have hcz22_0 : w19.cell? ⟨gb239, 0, none⟩ = some (.slice none 0 0) := (blk_cell BK239.out 0).trans rfl; have hfz22_0 := blk_frozen BK239.out 0; have hcz23_0 : w19.cell? ⟨gb230, 0, none⟩ = some (.slice A0_0 l0_0.length c0_0) := (blk_cell BK230.out 0).trans rfl; have hfz23_0 := blk_frozen BK230.out 0) | ((with_reducible refine gate_callee (f := 16) rfl ?_); refine goesL_ (some 26) rfl rfl Try.func16 z0 rfl #[.agg #[.slice A0_0 l0_0.length c0_0]] rfl z13 ?_; (with_reducible refine (laws_toRope.calls k _ _ l0_0 t240 _ ?side1 ?side2 A9.out).mono ?_); (case side1 => exact Kd.C_below HR0_0.out (by repeat (first | (with_reducible first | exact HB.out | apply below_alloc | apply pw_below_drewN | apply below_drew1 | refine below_set ?_ GE230.out | refine below_set ?_ GE239.out) | exact HB.out))); (case side2 => exact HC0_0.out); rintro e w24 ⟨v241, rfl, ho0, hb⟩; refine ⟨_, rfl, ?_⟩; have n0_ := Aside0.mk (Kd.R_elder' (by (with_reducible repeat (first | apply Kd.R_alloc | apply Kd.R_drewN | apply Kd.R_drew)); exact (Kd.R_mono (Kd.R_far (p := ⟨gb239, 0, none⟩) (Kd.R_types HO234.out BK239.out (by decide)) (fun _ hk => hk.2) (.slice Ao20 t235.length co20)) (fun _ h_ => h_.1))) (Kd.R_base ho0) hb); have n1_ := Aside0.mk (Kd.R_elder' (by (with_reducible repeat (first | apply Kd.R_alloc | apply Kd.R_drewN | apply Kd.R_drew)); exact (Kd.R_mono (Kd.R_far (p := ⟨gb239, 0, none⟩) (Kd.R_types HO237.out BK239.out (by decide)) (fun _ hk => hk.2) (.slice Ao20 t235.length co20)) (fun _ h_ => h_.1))) (Kd.R_base ho0) hb); have n2_ := Aside0.mk (Kd.R_lower (Kd.R_new' (Kd.R_new' ho0 (Kd.R_lt (by (with_reducible repeat (first | apply Kd.R_alloc | apply Kd.R_drewN | apply Kd.R_drew)); exact (Kd.R_mono (Kd.R_far (p := ⟨gb239, 0, none⟩) (Kd.R_types HO234.out BK239.out (by decide)) (fun _ hk => hk.2) (.slice Ao20 t235.length co20)) (fun _ h_ => h_.1))))) (Kd.R_lt (by (with_reducible repeat (first | apply Kd.R_alloc | apply Kd.R_drewN | apply Kd.R_drew)); exact (Kd.R_mono (Kd.R_far (p := ⟨gb239, 0, none⟩) (Kd.R_types HO237.out BK239.out (by decide)) (fun _ hk => hk.2) (.slice Ao20 t235.length co20)) (fun _ h_ => h_.1))))) (below_size (by repeat (first | (with_reducible first | exact HB.out | apply below_alloc | apply pw_below_drewN | apply below_drew1 | refine below_set ?_ GE230.out | refine below_set ?_ GE239.out) | exact HB.out)))); have n3_ := Aside0.mk (blk_below (g := gb230) (o := .cells #[.slice A0_0 l0_0.length c0_0] 24 (0, 0)) (by (with_reducible repeat (first | refine blk_drewN ?_ _ | refine blk_drew ?_ | refine blk_alloc ?_ _)); refine blk_far ?_ NB230_239.out _; (with_reducible repeat (first | refine blk_drewN ?_ _ | refine blk_drew ?_ | refine blk_alloc ?_ _)); exact BK230.out) hb); have n4_ := Aside0.mk (blk_below (g := gb239) (o := .cells #[.slice Ao20 t235.length co20] 29 (0, 0)) (by (with_reducible repeat (first | refine blk_drewN ?_ _ | refine blk_drew ?_ | refine blk_alloc ?_ _)); refine blk_put (cs := #[.slice none 0 0]) ?_ 0 _ rfl; (with_reducible repeat (first | refine blk_drewN ?_ _ | refine blk_drew ?_ | refine blk_alloc ?_ _)); exact BK239.out) hb); have n5_ := Aside0.mk (below_step (by repeat (first | (with_reducible first | exact HB.out | apply below_alloc | apply pw_below_drewN | apply below_drew1 | refine below_set ?_ GE230.out | refine below_set ?_ GE239.out) | exact HB.out)) hb); clear HO234; clear HO237; clear BK230; clear BK239; clear HB; have HO234 := n0_; have HO237 := n1_; have HO242 := n2_; have BK230 := n3_; have BK239 := n4_; have HB := n5_; clear n0_ n1_ n2_ n3_ n4_ n5_; (try clear hb); (try clear hb2); (try clear hk); (try clear hi); (try clear ho0)) | ((with_reducible refine gate_dst (N := 6) rfl ?_); refine box_event ?hg (N := 6) ?hd (cs := #[.slice none 0 0]) (t := 29) ?hr ?_; (case hd => rfl); (case hg => rfl); (case hr => first | (go_simp; done) | (go_simp; rfl)); intro gb243 hg w25 hbox hb; have n0_ := Aside0.mk (Kd.R_below (by (with_reducible repeat (first | apply Kd.R_alloc | apply Kd.R_drewN | apply Kd.R_drew)); exact HO234.out) hb); have n1_ := Aside0.mk (Kd.R_below (by (with_reducible repeat (first | apply Kd.R_alloc | apply Kd.R_drewN | apply Kd.R_drew)); exact HO237.out) hb); have n2_ := Aside0.mk (Kd.R_below (by (with_reducible repeat (first | apply Kd.R_alloc | apply Kd.R_drewN | apply Kd.R_drew)); exact HO242.out) hb); have n3_ := Aside0.mk (blk_below (g := gb230) (o := .cells #[.slice A0_0 l0_0.length c0_0] 24 (0, 0)) z7 hb); have n4_ := Aside0.mk (blk_below (g := gb239) (o := .cells #[.slice Ao20 t235.length co20] 29 (0, 0)) z8 hb); have n5_ := Aside0.mk (below_step (by repeat (first | (with_reducible first | exact HB.out | apply below_alloc | apply pw_below_drewN | apply below_drew1 | refine below_set ?_ GE230.out | refine below_set ?_ GE239.out) | exact HB.out)) hb); have n6_ := Aside0.mk (hbox); have n7_ := Aside0.mk ((by rw [hg]; exact (below_size (by repeat (first | (with_reducible first | exact HB.out | apply below_alloc | apply pw_below_drewN | apply below_drew1 | refine below_set ?_ GE230.out | refine below_set ?_ GE239.out) | exact HB.out))) : w.heap.size ≤ gb243)); have n8_ := Aside0.mk ((by rw [hg]; exact (below_size (by repeat (first | (with_reducible first | exact HB.out | apply below_alloc | apply pw_below_drewN | apply below_drew1 | refine below_set ?_ GE230.out | refine below_set ?_ GE239.out) | exact HB.out))) : w.heap.size ≤ gb243)); have n9_ := Aside0.mk ((by rw [hg]; exact Nat.ne_of_lt (blk_lt (g := gb230) (o := .cells #[.slice A0_0 l0_0.length c0_0] 24 (0, 0)) z7) : gb230 ≠ gb243)); have n10_ := Aside0.mk ((by rw [hg]; exact Nat.ne_of_gt (blk_lt (g := gb230) (o := .cells #[.slice A0_0 l0_0.length c0_0] 24 (0, 0)) z7) : gb243 ≠ gb230)); have n11_ := Aside0.mk ((by rw [hg]; exact Nat.ne_of_lt (blk_lt (g := gb239) (o := .cells #[.slice Ao20 t235.length co20] 29 (0, 0)) z8) : gb239 ≠ gb243)); have n12_ := Aside0.mk ((by rw [hg]; exact Nat.ne_of_gt (blk_lt (g := gb239) (o := .cells #[.slice Ao20 t235.length co20] 29 (0, 0)) z8) : gb243 ≠ gb239)); clear HO234; clear HO237; clear HO242; clear BK230; clear BK239; clear HB; have HO234 := n0_; have HO237 := n1_; have HO242 := n2_; have BK230 := n3_; have BK239 := n4_; have HB := n5_; have BK243 := n6_; have GW243 := n7_; have GE243 := n8_; have NB230_243 := n9_; have NB243_230 := n10_; have NB239_243 := n11_; have NB243_239 := n12_; clear n0_ n1_ n2_ n3_ n4_ n5_ n6_ n7_ n8_ n9_ n10_ n11_ n12_; clear hb hbox hg; obtain ⟨Ao26, co26, eo26⟩ := Kd.R_slice HO242.out; subst eo26; have hnb27 := NB243_230.out; have hnc27 := NB230_243.out; have hnb28 := NB243_239.out; have hnc28 := NB239_243.out; have hcz29_0 : w25.cell? ⟨gb243, 0, none⟩ = some (.slice none 0 0) := (blk_cell BK243.out 0).trans rfl; have hfz29_0 := blk_frozen BK243.out 0) | ((with_reducible refine gate_callee (f := 37) rfl ?_); refine goesL_ (some 29) rfl rfl Try.func37 z0 rfl #[.agg #[.slice Ao26 t240.length co26]] rfl z13 ?_; (with_reducible refine (impl_Rebalance.calls k _ _ t240 t244 t247 _ ?side1 ?side2 A10.out).mono ?_); (case side1 => refine (Kd.R_reads' (e := 58) (base := w.heap.size) (ok := fun k_ => ((True ∧ some k_ ≠ (.slice Ao17 t232.length co17 : Value).ownBlock) ∧ some k_ ≠ (.slice Ao20 t235.length co20 : Value).ownBlock)) (n := t240.length) (c := co26) ?_).2.2; exact (by (with_reducible repeat (first | apply Kd.R_alloc | apply Kd.R_drewN | apply Kd.R_drew)); exact (Kd.R_mono (Kd.R_far (p := ⟨gb243, 0, none⟩) (Kd.R_types HO242.out BK243.out (by decide)) (fun _ hk => hk.2) (.slice Ao26 t240.length co26)) (fun _ h_ => h_.1)))); (case side2 => exact (Kd.R_reads' HO242.out).2.1); rintro e w30 ⟨v245, rfl, ho0, hb⟩; refine ⟨_, rfl, ?_⟩; have n0_ := Aside0.mk (Kd.R_elder' (by (with_reducible repeat (first | apply Kd.R_alloc | apply Kd.R_drewN | apply Kd.R_drew)); exact (Kd.R_mono (Kd.R_far (p := ⟨gb243, 0, none⟩) (Kd.R_types HO234.out BK243.out (by decide)) (fun _ hk => hk.2) (.slice Ao26 t240.length co26)) (fun _ h_ => h_.1))) (Kd.R_base ho0) hb); have n1_ := Aside0.mk (Kd.R_elder' (by (with_reducible repeat (first | apply Kd.R_alloc | apply Kd.R_drewN | apply Kd.R_drew)); exact (Kd.R_mono (Kd.R_far (p := ⟨gb243, 0, none⟩) (Kd.R_types HO237.out BK243.out (by decide)) (fun _ hk => hk.2) (.slice Ao26 t240.length co26)) (fun _ h_ => h_.1))) (Kd.R_base ho0) hb); have n2_ := Aside0.mk (Kd.R_elder' (by (with_reducible repeat (first | apply Kd.R_alloc | apply Kd.R_drewN | apply Kd.R_drew)); exact (Kd.R_mono (Kd.R_far (p := ⟨gb243, 0, none⟩) (Kd.R_types HO242.out BK243.out (by decide)) (fun _ hk => hk.2) (.slice Ao26 t240.length co26)) (fun _ h_ => h_.1))) (Kd.R_base ho0) hb); have n3_ := Aside0.mk (Kd.R_lower (Kd.R_new' (Kd.R_new' (Kd.R_new' ho0 (Kd.R_lt (by (with_reducible repeat (first | apply Kd.R_alloc | apply Kd.R_drewN | apply Kd.R_drew)); exact (Kd.R_mono (Kd.R_far (p := ⟨gb243, 0, none⟩) (Kd.R_types HO234.out BK243.out (by decide)) (fun _ hk => hk.2) (.slice Ao26 t240.length co26)) (fun _ h_ => h_.1))))) (Kd.R_lt (by (with_reducible repeat (first | apply Kd.R_alloc | apply Kd.R_drewN | apply Kd.R_drew)); exact (Kd.R_mono (Kd.R_far (p := ⟨gb243, 0, none⟩) (Kd.R_types HO237.out BK243.out (by decide)) (fun _ hk => hk.2) (.slice Ao26 t240.length co26)) (fun _ h_ => h_.1))))) (Kd.R_lt (by (with_reducible repeat (first | apply Kd.R_alloc | apply Kd.R_drewN | apply Kd.R_drew)); exact (Kd.R_mono (Kd.R_far (p := ⟨gb243, 0, none⟩) (Kd.R_types HO242.out BK243.out (by decide)) (fun _ hk => hk.2) (.slice Ao26 t240.length co26)) (fun _ h_ => h_.1))))) (below_size (by repeat (first | (with_reducible first | exact HB.out | apply below_alloc | apply pw_below_drewN | apply below_drew1 | refine below_set ?_ GE230.out | refine below_set ?_ GE239.out | refine below_set ?_ GE243.out) | exact HB.out)))); have n4_ := Aside0.mk (blk_below (g := gb230) (o := .cells #[.slice A0_0 l0_0.length c0_0] 24 (0, 0)) (by (with_reducible repeat (first | refine blk_drewN ?_ _ | refine blk_drew ?_ | refine blk_alloc ?_ _)); refine blk_far ?_ NB230_243.out _; (with_reducible repeat (first | refine blk_drewN ?_ _ | refine blk_drew ?_ | refine blk_alloc ?_ _)); exact BK230.out) hb); have n5_ := Aside0.mk (blk_below (g := gb239) (o := .cells #[.slice Ao20 t235.length co20] 29 (0, 0)) (by (with_reducible repeat (first | refine blk_drewN ?_ _ | refine blk_drew ?_ | refine blk_alloc ?_ _)); refine blk_far ?_ NB239_243.out _; (with_reducible repeat (first | refine blk_drewN ?_ _ | refine blk_drew ?_ | refine blk_alloc ?_ _)); exact BK239.out) hb); have n6_ := Aside0.mk (blk_below (g := gb243) (o := .cells #[.slice Ao26 t240.length co26] 29 (0, 0)) (by (with_reducible repeat (first | refine blk_drewN ?_ _ | refine blk_drew ?_ | refine blk_alloc ?_ _)); refine blk_put (cs := #[.slice none 0 0]) ?_ 0 _ rfl; (with_reducible repeat (first | refine blk_drewN ?_ _ | refine blk_drew ?_ | refine blk_alloc ?_ _)); exact BK243.out) hb); have n7_ := Aside0.mk (below_step (by repeat (first | (with_reducible first | exact HB.out | apply below_alloc | apply pw_below_drewN | apply below_drew1 | refine below_set ?_ GE230.out | refine below_set ?_ GE239.out | refine below_set ?_ GE243.out) | exact HB.out)) hb); clear HO234; clear HO237; clear HO242; clear BK230; clear BK239; clear BK243; clear HB; have HO234 := n0_; have HO237 := n1_; have HO242 := n2_; have HO246 := n3_; have BK230 := n4_; have BK239 := n5_; have BK243 := n6_; have HB := n7_; clear n0_ n1_ n2_ n3_ n4_ n5_ n6_ n7_; (try clear hb); (try clear hb2); (try clear hk); (try clear hi); (try clear ho0)) | ((with_reducible refine gate_dst (N := 7) rfl ?_); refine box_event ?hg (N := 7) ?hd (cs := #[.slice none 0 0]) (t := 29) ?hr ?_; (case hd => rfl); (case hg => rfl); (case hr => first | (go_simp; done) | (go_simp; rfl)); intro gb248 hg w31 hbox hb; have n0_ := Aside0.mk (Kd.R_below (by (with_reducible repeat (first | apply Kd.R_alloc | apply Kd.R_drewN | apply Kd.R_drew)); exact HO234.out) hb); have n1_ := Aside0.mk (Kd.R_below (by (with_reducible repeat (first | apply Kd.R_alloc | apply Kd.R_drewN | apply Kd.R_drew)); exact HO237.out) hb); have n2_ := Aside0.mk (Kd.R_below (by (with_reducible repeat (first | apply Kd.R_alloc | apply Kd.R_drewN | apply Kd.R_drew)); exact HO242.out) hb); have n3_ := Aside0.mk (Kd.R_below (by (with_reducible repeat (first | apply Kd.R_alloc | apply Kd.R_drewN | apply Kd.R_drew)); exact HO246.out) hb); have n4_ := Aside0.mk (blk_below (g := gb230) (o := .cells #[.slice A0_0 l0_0.length c0_0] 24 (0, 0)) z7 hb); have n5_ := Aside0.mk (blk_below (g := gb239) (o := .cells #[.slice Ao20 t235.length co20] 29 (0, 0)) z8 hb); have n6_ := Aside0.mk (blk_below (g := gb243) (o := .cells #[.slice Ao26 t240.length co26] 29 (0, 0)) z9 hb); have n7_ := Aside0.mk (below_step (by repeat (first | (with_reducible first | exact HB.out | apply below_alloc | apply pw_below_drewN | apply below_drew1 | refine below_set ?_ GE230.out | refine below_set ?_ GE239.out | refine below_set ?_ GE243.out) | exact HB.out)) hb); have n8_ := Aside0.mk (hbox); have n9_ := Aside0.mk ((by rw [hg]; exact (below_size (by repeat (first | (with_reducible first | exact HB.out | apply below_alloc | apply pw_below_drewN | apply below_drew1 | refine below_set ?_ GE230.out | refine below_set ?_ GE239.out | refine below_set ?_ GE243.out) | exact HB.out))) : w.heap.size ≤ gb248)); have n10_ := Aside0.mk ((by rw [hg]; exact (below_size (by repeat (first | (with_reducible first | exact HB.out | apply below_alloc | apply pw_below_drewN | apply below_drew1 | refine below_set ?_ GE230.out | refine below_set ?_ GE239.out | refine below_set ?_ GE243.out) | exact HB.out))) : w.heap.size ≤ gb248)); have n11_ := Aside0.mk ((by rw [hg]; exact Nat.ne_of_lt (blk_lt (g := gb230) (o := .cells #[.slice A0_0 l0_0.length c0_0] 24 (0, 0)) z7) : gb230 ≠ gb248)); have n12_ := Aside0.mk ((by rw [hg]; exact Nat.ne_of_gt (blk_lt (g := gb230) (o := .cells #[.slice A0_0 l0_0.length c0_0] 24 (0, 0)) z7) : gb248 ≠ gb230)); have n13_ := Aside0.mk ((by rw [hg]; exact Nat.ne_of_lt (blk_lt (g := gb239) (o := .cells #[.slice Ao20 t235.length co20] 29 (0, 0)) z8) : gb239 ≠ gb248)); have n14_ := Aside0.mk ((by rw [hg]; exact Nat.ne_of_gt (blk_lt (g := gb239) (o := .cells #[.slice Ao20 t235.length co20] 29 (0, 0)) z8) : gb248 ≠ gb239)); have n15_ := Aside0.mk ((by rw [hg]; exact Nat.ne_of_lt (blk_lt (g := gb243) (o := .cells #[.slice Ao26 t240.length co26] 29 (0, 0)) z9) : gb243 ≠ gb248)); have n16_ := Aside0.mk ((by rw [hg]; exact Nat.ne_of_gt (blk_lt (g := gb243) (o := .cells #[.slice Ao26 t240.length co26] 29 (0, 0)) z9) : gb248 ≠ gb243)); clear HO234; clear HO237; clear HO242; clear HO246; clear BK230; clear BK239; clear BK243; clear HB; have HO234 := n0_; have HO237 := n1_; have HO242 := n2_; have HO246 := n3_; have BK230 := n4_; have BK239 := n5_; have BK243 := n6_; have HB := n7_; have BK248 := n8_; have GW248 := n9_; have GE248 := n10_; have NB230_248 := n11_; have NB248_230 := n12_; have NB239_248 := n13_; have NB248_239 := n14_; have NB243_248 := n15_; have NB248_243 := n16_; clear n0_ n1_ n2_ n3_ n4_ n5_ n6_ n7_ n8_ n9_ n10_ n11_ n12_ n13_ n14_ n15_ n16_; clear hb hbox hg; obtain ⟨Ao32, co32, eo32⟩ := Kd.R_slice HO246.out; subst eo32; have hnb33 := NB248_230.out; have hnc33 := NB230_248.out; have hnb34 := NB248_239.out; have hnc34 := NB239_248.out; have hnb35 := NB248_243.out; have hnc35 := NB243_248.out; have hcz36_0 : w31.cell? ⟨gb248, 0, none⟩ = some (.slice none 0 0) := (blk_cell BK248.out 0).trans rfl; have hfz36_0 := blk_frozen BK248.out 0))
  (try simp only [Act.put, List.setIfInBounds_toArray, List.set_cons_zero, List.set_cons_succ])
  go_cut [40] (fun v40 wc => ∃ (kq : Nat) (x40_10 : Bool), v40 = .bool x40_10 ∧ Aside0 (laws_FnExactRebalance.j0 kq t238 t247 x40_10 l0_0 t235 t240 t244 = some r) ∧ Aside0 (kq ≤ k) ∧ Aside0 (Kd.R k58 58 wc w.heap.size (fun k_ => some k_ ≠ ((.slice Ao26 t240.length co26) : Value).ownBlock ∧ some k_ ≠ ((.slice Ao32 t244.length co32) : Value).ownBlock) (.slice Ao20 t235.length co20) t235) ∧ Aside0 (Kd.R k58 58 wc w.heap.size (fun k_ => some k_ ≠ ((.slice Ao20 t235.length co20) : Value).ownBlock ∧ some k_ ≠ ((.slice Ao32 t244.length co32) : Value).ownBlock) (.slice Ao26 t240.length co26) t240) ∧ Aside0 (Kd.R k58 58 wc w.heap.size (fun k_ => some k_ ≠ ((.slice Ao20 t235.length co20) : Value).ownBlock ∧ some k_ ≠ ((.slice Ao26 t240.length co26) : Value).ownBlock) (.slice Ao32 t244.length co32) t244) ∧ Aside0 (wc.heap[gb230]? = some (.cells #[(.slice A0_0 l0_0.length c0_0)] 24 (0, 0))) ∧ Aside0 (wc.heap[gb239]? = some (.cells #[(.slice Ao20 t235.length co20)] 29 (0, 0))) ∧ Aside0 (wc.heap[gb243]? = some (.cells #[(.slice Ao26 t240.length co26)] 29 (0, 0))) ∧ Aside0 (wc.heap[gb248]? = some (.cells #[(.slice Ao32 t244.length co32)] 29 (0, 0))) ∧ Aside0 (Below w.heap.size w wc))
  case first =>
   have H := HC11.out
   clear HC11
   replace H := Option.bind_eq_some_iff.mp H
   obtain ⟨t249, A370, H⟩ := H
   try dsimp only at H
   have A37 := Aside0.mk A370
   clear A370
   by_cases c38 : t249 = true
   ·subst c38
    rw [if_pos rfl] at H
    have H' := Aside0.mk H
    clear H
    have hnb39 := NB248_230.out
    have hnc39 := NB230_248.out
    have hnb40 := NB248_239.out
    have hnc40 := NB239_248.out
    have hnb41 := NB248_243.out
    have hnc41 := NB243_248.out
    have hcz42_0 : w31.cell? ⟨gb248, 0, none⟩ = some (.slice none 0 0) := (blk_cell BK248.out 0).trans rfl
    have hfz42_0 := blk_frozen BK248.out 0
    have hnb43 := NB239_230.out
    have hnc43 := NB230_239.out
    have hnb44 := NB239_243.out
    have hnc44 := NB243_239.out
    have hcz45_0 : w31.cell? ⟨gb239, 0, none⟩ = some (.slice Ao20 t235.length co20) := (blk_cell BK239.out 0).trans rfl
    have hfz45_0 := blk_frozen BK239.out 0
    go_wp2_with (first | ((with_reducible refine gate_callee (f := 18) rfl ?_); refine goesL_ (some 34) rfl rfl Try.func18 z0 rfl #[.agg #[.slice Ao32 t244.length co32], .agg #[.slice Ao20 t235.length co20]] rfl z13 ?_; (with_reducible refine (laws_eqRope.calls k _ _ t244 _ _ t235 true _ ?side1 ?side2 ?side3 ?side4 A37.out).mono ?_); (case side1 => refine (Kd.R_reads' (e := 58) (base := w.heap.size) (ok := fun k_ => (((True ∧ some k_ ≠ (.slice Ao17 t232.length co17 : Value).ownBlock) ∧ some k_ ≠ (.slice Ao20 t235.length co20 : Value).ownBlock) ∧ some k_ ≠ (.slice Ao26 t240.length co26 : Value).ownBlock)) (n := t244.length) (c := co32) ?_).2.2; exact (by (with_reducible repeat (first | apply Kd.R_alloc | apply Kd.R_drewN | apply Kd.R_drew)); exact (Kd.R_mono (Kd.R_far (p := ⟨gb248, 0, none⟩) (Kd.R_types HO246.out BK248.out (by decide)) (fun _ hk => hk.2) (.slice Ao32 t244.length co32)) (fun _ h_ => h_.1)))); (case side2 => exact (Kd.R_reads' HO246.out).2.1); (case side3 => refine (Kd.R_reads' (e := 58) (base := w.heap.size) (ok := fun k_ => (((True ∧ some k_ ≠ (.slice Ao17 t232.length co17 : Value).ownBlock) ∧ some k_ ≠ (.slice Ao26 t240.length co26 : Value).ownBlock) ∧ some k_ ≠ (.slice Ao32 t244.length co32 : Value).ownBlock)) (n := t235.length) (c := co20) ?_).2.2; exact (by (with_reducible repeat (first | apply Kd.R_alloc | apply Kd.R_drewN | apply Kd.R_drew)); exact (Kd.R_mono (Kd.R_far (p := ⟨gb248, 0, none⟩) (Kd.R_types HO237.out BK248.out (by decide)) (fun _ hk => hk.2) (.slice Ao32 t244.length co32)) (fun _ h_ => h_.1)))); (case side4 => exact (Kd.R_reads' HO237.out).2.1); rintro e w46 ⟨rfl, hb⟩; refine ⟨_, rfl, ?_⟩; have n0_ := Aside0.mk (Kd.R_below (by (with_reducible repeat (first | apply Kd.R_alloc | apply Kd.R_drewN | apply Kd.R_drew)); exact (Kd.R_mono (Kd.R_far (p := ⟨gb248, 0, none⟩) (Kd.R_types HO234.out BK248.out (by decide)) (fun _ hk => hk.2) (.slice Ao32 t244.length co32)) (fun _ h_ => h_.1))) hb); have n1_ := Aside0.mk (Kd.R_below (by (with_reducible repeat (first | apply Kd.R_alloc | apply Kd.R_drewN | apply Kd.R_drew)); exact (Kd.R_mono (Kd.R_far (p := ⟨gb248, 0, none⟩) (Kd.R_types HO237.out BK248.out (by decide)) (fun _ hk => hk.2) (.slice Ao32 t244.length co32)) (fun _ h_ => h_.1))) hb); have n2_ := Aside0.mk (Kd.R_below (by (with_reducible repeat (first | apply Kd.R_alloc | apply Kd.R_drewN | apply Kd.R_drew)); exact (Kd.R_mono (Kd.R_far (p := ⟨gb248, 0, none⟩) (Kd.R_types HO242.out BK248.out (by decide)) (fun _ hk => hk.2) (.slice Ao32 t244.length co32)) (fun _ h_ => h_.1))) hb); have n3_ := Aside0.mk (Kd.R_below (by (with_reducible repeat (first | apply Kd.R_alloc | apply Kd.R_drewN | apply Kd.R_drew)); exact (Kd.R_mono (Kd.R_far (p := ⟨gb248, 0, none⟩) (Kd.R_types HO246.out BK248.out (by decide)) (fun _ hk => hk.2) (.slice Ao32 t244.length co32)) (fun _ h_ => h_.1))) hb); have n4_ := Aside0.mk (blk_below (g := gb230) (o := .cells #[.slice A0_0 l0_0.length c0_0] 24 (0, 0)) (by (with_reducible repeat (first | refine blk_drewN ?_ _ | refine blk_drew ?_ | refine blk_alloc ?_ _)); refine blk_far ?_ NB230_248.out _; (with_reducible repeat (first | refine blk_drewN ?_ _ | refine blk_drew ?_ | refine blk_alloc ?_ _)); exact BK230.out) hb); have n5_ := Aside0.mk (blk_below (g := gb239) (o := .cells #[.slice Ao20 t235.length co20] 29 (0, 0)) (by (with_reducible repeat (first | refine blk_drewN ?_ _ | refine blk_drew ?_ | refine blk_alloc ?_ _)); refine blk_far ?_ NB239_248.out _; (with_reducible repeat (first | refine blk_drewN ?_ _ | refine blk_drew ?_ | refine blk_alloc ?_ _)); exact BK239.out) hb); have n6_ := Aside0.mk (blk_below (g := gb243) (o := .cells #[.slice Ao26 t240.length co26] 29 (0, 0)) (by (with_reducible repeat (first | refine blk_drewN ?_ _ | refine blk_drew ?_ | refine blk_alloc ?_ _)); refine blk_far ?_ NB243_248.out _; (with_reducible repeat (first | refine blk_drewN ?_ _ | refine blk_drew ?_ | refine blk_alloc ?_ _)); exact BK243.out) hb); have n7_ := Aside0.mk (blk_below (g := gb248) (o := .cells #[.slice Ao32 t244.length co32] 29 (0, 0)) (by (with_reducible repeat (first | refine blk_drewN ?_ _ | refine blk_drew ?_ | refine blk_alloc ?_ _)); refine blk_put (cs := #[.slice none 0 0]) ?_ 0 _ rfl; (with_reducible repeat (first | refine blk_drewN ?_ _ | refine blk_drew ?_ | refine blk_alloc ?_ _)); exact BK248.out) hb); have n8_ := Aside0.mk (below_step z15 hb); clear HO234; clear HO237; clear HO242; clear HO246; clear BK230; clear BK239; clear BK243; clear BK248; clear HB; have HO234 := n0_; have HO237 := n1_; have HO242 := n2_; have HO246 := n3_; have BK230 := n4_; have BK239 := n5_; have BK243 := n6_; have BK248 := n7_; have HB := n8_; clear n0_ n1_ n2_ n3_ n4_ n5_ n6_ n7_ n8_; (try clear hb); (try clear hb2); (try clear hk); (try clear hi)))
    go_meet
    case rel => exact ⟨_, ((t247 != t238)), z1, H', ⟨by first | omega | exact Nat.le_refl _⟩, ⟨by (with_reducible repeat (first | apply Kd.R_alloc | apply Kd.R_drewN | apply Kd.R_drew)); exact Kd.R_mono HO237.out (fun _ hk => ⟨hk.1.2, hk.2⟩)⟩, ⟨by (with_reducible repeat (first | apply Kd.R_alloc | apply Kd.R_drewN | apply Kd.R_drew)); exact Kd.R_mono HO242.out (fun _ hk => ⟨hk.1.2, hk.2⟩)⟩, ⟨by (with_reducible repeat (first | apply Kd.R_alloc | apply Kd.R_drewN | apply Kd.R_drew)); exact Kd.R_mono HO246.out (fun _ hk => ⟨hk.1.2, hk.2⟩)⟩, ⟨by (with_reducible repeat (first | refine blk_drewN ?_ _ | refine blk_drew ?_ | refine blk_alloc ?_ _)); exact BK230.out⟩, ⟨by (with_reducible repeat (first | refine blk_drewN ?_ _ | refine blk_drew ?_ | refine blk_alloc ?_ _)); exact BK239.out⟩, ⟨by (with_reducible repeat (first | refine blk_drewN ?_ _ | refine blk_drew ?_ | refine blk_alloc ?_ _)); exact BK243.out⟩, ⟨by (with_reducible repeat (first | refine blk_drewN ?_ _ | refine blk_drew ?_ | refine blk_alloc ?_ _)); exact BK248.out⟩, ⟨by repeat (first | (with_reducible first | exact HB.out | apply below_alloc | apply pw_below_drewN | apply below_drew1 | refine below_set ?_ GE230.out | refine below_set ?_ GE239.out | refine below_set ?_ GE243.out | refine below_set ?_ GE248.out) | exact HB.out)⟩⟩
   ·replace c38 := Bool.eq_false_iff.mpr c38
    subst c38
    rw [if_neg (show ¬ (false = true) by decide)] at H
    have H' := Aside0.mk H
    clear H
    have hnb47 := NB248_230.out
    have hnc47 := NB230_248.out
    have hnb48 := NB248_239.out
    have hnc48 := NB239_248.out
    have hnb49 := NB248_243.out
    have hnc49 := NB243_248.out
    have hcz50_0 : w31.cell? ⟨gb248, 0, none⟩ = some (.slice none 0 0) := (blk_cell BK248.out 0).trans rfl
    have hfz50_0 := blk_frozen BK248.out 0
    have hnb51 := NB239_230.out
    have hnc51 := NB230_239.out
    have hnb52 := NB239_243.out
    have hnc52 := NB243_239.out
    have hcz53_0 : w31.cell? ⟨gb239, 0, none⟩ = some (.slice Ao20 t235.length co20) := (blk_cell BK239.out 0).trans rfl
    have hfz53_0 := blk_frozen BK239.out 0
    go_wp2_with (first | ((with_reducible refine gate_callee (f := 18) rfl ?_); refine goesL_ (some 34) rfl rfl Try.func18 z0 rfl #[.agg #[.slice Ao32 t244.length co32], .agg #[.slice Ao20 t235.length co20]] rfl z13 ?_; (with_reducible refine (laws_eqRope.calls k _ _ t244 _ _ t235 false _ ?side1 ?side2 ?side3 ?side4 A37.out).mono ?_); (case side1 => refine (Kd.R_reads' (e := 58) (base := w.heap.size) (ok := fun k_ => (((True ∧ some k_ ≠ (.slice Ao17 t232.length co17 : Value).ownBlock) ∧ some k_ ≠ (.slice Ao20 t235.length co20 : Value).ownBlock) ∧ some k_ ≠ (.slice Ao26 t240.length co26 : Value).ownBlock)) (n := t244.length) (c := co32) ?_).2.2; exact (by (with_reducible repeat (first | apply Kd.R_alloc | apply Kd.R_drewN | apply Kd.R_drew)); exact (Kd.R_mono (Kd.R_far (p := ⟨gb248, 0, none⟩) (Kd.R_types HO246.out BK248.out (by decide)) (fun _ hk => hk.2) (.slice Ao32 t244.length co32)) (fun _ h_ => h_.1)))); (case side2 => exact (Kd.R_reads' HO246.out).2.1); (case side3 => refine (Kd.R_reads' (e := 58) (base := w.heap.size) (ok := fun k_ => (((True ∧ some k_ ≠ (.slice Ao17 t232.length co17 : Value).ownBlock) ∧ some k_ ≠ (.slice Ao26 t240.length co26 : Value).ownBlock) ∧ some k_ ≠ (.slice Ao32 t244.length co32 : Value).ownBlock)) (n := t235.length) (c := co20) ?_).2.2; exact (by (with_reducible repeat (first | apply Kd.R_alloc | apply Kd.R_drewN | apply Kd.R_drew)); exact (Kd.R_mono (Kd.R_far (p := ⟨gb248, 0, none⟩) (Kd.R_types HO237.out BK248.out (by decide)) (fun _ hk => hk.2) (.slice Ao32 t244.length co32)) (fun _ h_ => h_.1)))); (case side4 => exact (Kd.R_reads' HO237.out).2.1); rintro e w54 ⟨rfl, hb⟩; refine ⟨_, rfl, ?_⟩; have n0_ := Aside0.mk (Kd.R_below (by (with_reducible repeat (first | apply Kd.R_alloc | apply Kd.R_drewN | apply Kd.R_drew)); exact (Kd.R_mono (Kd.R_far (p := ⟨gb248, 0, none⟩) (Kd.R_types HO234.out BK248.out (by decide)) (fun _ hk => hk.2) (.slice Ao32 t244.length co32)) (fun _ h_ => h_.1))) hb); have n1_ := Aside0.mk (Kd.R_below (by (with_reducible repeat (first | apply Kd.R_alloc | apply Kd.R_drewN | apply Kd.R_drew)); exact (Kd.R_mono (Kd.R_far (p := ⟨gb248, 0, none⟩) (Kd.R_types HO237.out BK248.out (by decide)) (fun _ hk => hk.2) (.slice Ao32 t244.length co32)) (fun _ h_ => h_.1))) hb); have n2_ := Aside0.mk (Kd.R_below (by (with_reducible repeat (first | apply Kd.R_alloc | apply Kd.R_drewN | apply Kd.R_drew)); exact (Kd.R_mono (Kd.R_far (p := ⟨gb248, 0, none⟩) (Kd.R_types HO242.out BK248.out (by decide)) (fun _ hk => hk.2) (.slice Ao32 t244.length co32)) (fun _ h_ => h_.1))) hb); have n3_ := Aside0.mk (Kd.R_below (by (with_reducible repeat (first | apply Kd.R_alloc | apply Kd.R_drewN | apply Kd.R_drew)); exact (Kd.R_mono (Kd.R_far (p := ⟨gb248, 0, none⟩) (Kd.R_types HO246.out BK248.out (by decide)) (fun _ hk => hk.2) (.slice Ao32 t244.length co32)) (fun _ h_ => h_.1))) hb); have n4_ := Aside0.mk (blk_below (g := gb230) (o := .cells #[.slice A0_0 l0_0.length c0_0] 24 (0, 0)) (by (with_reducible repeat (first | refine blk_drewN ?_ _ | refine blk_drew ?_ | refine blk_alloc ?_ _)); refine blk_far ?_ NB230_248.out _; (with_reducible repeat (first | refine blk_drewN ?_ _ | refine blk_drew ?_ | refine blk_alloc ?_ _)); exact BK230.out) hb); have n5_ := Aside0.mk (blk_below (g := gb239) (o := .cells #[.slice Ao20 t235.length co20] 29 (0, 0)) (by (with_reducible repeat (first | refine blk_drewN ?_ _ | refine blk_drew ?_ | refine blk_alloc ?_ _)); refine blk_far ?_ NB239_248.out _; (with_reducible repeat (first | refine blk_drewN ?_ _ | refine blk_drew ?_ | refine blk_alloc ?_ _)); exact BK239.out) hb); have n6_ := Aside0.mk (blk_below (g := gb243) (o := .cells #[.slice Ao26 t240.length co26] 29 (0, 0)) (by (with_reducible repeat (first | refine blk_drewN ?_ _ | refine blk_drew ?_ | refine blk_alloc ?_ _)); refine blk_far ?_ NB243_248.out _; (with_reducible repeat (first | refine blk_drewN ?_ _ | refine blk_drew ?_ | refine blk_alloc ?_ _)); exact BK243.out) hb); have n7_ := Aside0.mk (blk_below (g := gb248) (o := .cells #[.slice Ao32 t244.length co32] 29 (0, 0)) (by (with_reducible repeat (first | refine blk_drewN ?_ _ | refine blk_drew ?_ | refine blk_alloc ?_ _)); refine blk_put (cs := #[.slice none 0 0]) ?_ 0 _ rfl; (with_reducible repeat (first | refine blk_drewN ?_ _ | refine blk_drew ?_ | refine blk_alloc ?_ _)); exact BK248.out) hb); have n8_ := Aside0.mk (below_step z15 hb); clear HO234; clear HO237; clear HO242; clear HO246; clear BK230; clear BK239; clear BK243; clear BK248; clear HB; have HO234 := n0_; have HO237 := n1_; have HO242 := n2_; have HO246 := n3_; have BK230 := n4_; have BK239 := n5_; have BK243 := n6_; have BK248 := n7_; have HB := n8_; clear n0_ n1_ n2_ n3_ n4_ n5_ n6_ n7_ n8_; (try clear hb); (try clear hb2); (try clear hk); (try clear hi)))
    go_meet
    case rel => exact ⟨_, (true), z1, H', ⟨by first | omega | exact Nat.le_refl _⟩, ⟨by (with_reducible repeat (first | apply Kd.R_alloc | apply Kd.R_drewN | apply Kd.R_drew)); exact Kd.R_mono HO237.out (fun _ hk => ⟨hk.1.2, hk.2⟩)⟩, ⟨by (with_reducible repeat (first | apply Kd.R_alloc | apply Kd.R_drewN | apply Kd.R_drew)); exact Kd.R_mono HO242.out (fun _ hk => ⟨hk.1.2, hk.2⟩)⟩, ⟨by (with_reducible repeat (first | apply Kd.R_alloc | apply Kd.R_drewN | apply Kd.R_drew)); exact Kd.R_mono HO246.out (fun _ hk => ⟨hk.1.2, hk.2⟩)⟩, ⟨by (with_reducible repeat (first | refine blk_drewN ?_ _ | refine blk_drew ?_ | refine blk_alloc ?_ _)); exact BK230.out⟩, ⟨by (with_reducible repeat (first | refine blk_drewN ?_ _ | refine blk_drew ?_ | refine blk_alloc ?_ _)); exact BK239.out⟩, ⟨by (with_reducible repeat (first | refine blk_drewN ?_ _ | refine blk_drew ?_ | refine blk_alloc ?_ _)); exact BK243.out⟩, ⟨by (with_reducible repeat (first | refine blk_drewN ?_ _ | refine blk_drew ?_ | refine blk_alloc ?_ _)); exact BK248.out⟩, ⟨by repeat (first | (with_reducible first | exact HB.out | apply below_alloc | apply pw_below_drewN | apply below_drew1 | refine below_set ?_ GE230.out | refine below_set ?_ GE239.out | refine below_set ?_ GE243.out | refine below_set ?_ GE248.out) | exact HB.out)⟩⟩
  case rest =>
   clear HC11
   try clear c1
   try clear c2
   try clear p2
   try clear c3
   try clear c3b0
   try clear c4
   try clear c5
   try clear c10
   try clear c14
   try clear c16
   try clear c18
   try clear c21
   try clear c27
   try clear c28
   try clear c33
   try clear c34
   try clear c35
   try clear c36
   try clear c37
   try clear c38
   try clear c39
   try clear c40
   try clear c41
   try clear c43
   try clear c44
   try clear c47
   try clear c48
   try clear c49
   try clear c51
   try clear c52
   try clear hcz13_0
   try clear hcz15_0
   try clear hcz22_0
   try clear hcz23_0
   try clear hcz29_0
   try clear hcz36_0
   try clear hcz42_0
   try clear hcz45_0
   try clear hcz50_0
   try clear hcz53_0
   try clear hcz5_0
   try clear hfz13_0
   try clear hfz15_0
   try clear hfz22_0
   try clear hfz23_0
   try clear hfz29_0
   try clear hfz36_0
   try clear hfz42_0
   try clear hfz45_0
   try clear hfz50_0
   try clear hfz53_0
   try clear hfz5_0
   obtain ⟨kq, x40_10, rfl, HA, HJ10, HO_240000, HO_244000, HO_249000, BK230, BK239, BK243, BK248, HB⟩ := hcut
   cases kq with
   | zero => exact absurd HA.out (by simp [laws_FnExactRebalance.j0])
   | succ kj10 =>
    have H := HA.out
    clear HA
    simp only [laws_FnExactRebalance.j0] at H
    by_cases c55 : x40_10 = true
    ·subst c55
     rw [if_pos rfl] at H
     first | (cases H.trans (congrArg some HRT.out); done) | skip
     all_goals
      obtain rfl := Option.some.inj H
      go_wp2
      go_ret
      exact ⟨by first | rfl | (simp [errW_none, errW_some] <;> rfl) | (simp [*, errW_none, errW_some] <;> rfl), by repeat (first | (with_reducible first | exact HB.out | apply below_alloc | apply pw_below_drewN | apply below_drew1 | refine below_set ?_ GE230.out | refine below_set ?_ GE239.out | refine below_set ?_ GE243.out | refine below_set ?_ GE248.out) | exact HB.out)⟩
    ·replace c55 := Bool.eq_false_iff.mpr c55
     subst c55
     rw [if_neg (show ¬ (false = true) by decide)] at H
     replace H := Option.bind_eq_some_iff.mp H
     obtain ⟨t250, A560, H⟩ := H
     try dsimp only at H
     have A56 := Aside0.mk A560
     clear A560
     replace H := Option.bind_eq_some_iff.mp H
     obtain ⟨t253, A570, H⟩ := H
     try dsimp only at H
     have A57 := Aside0.mk A570
     clear A570
     by_cases c58 : t253 = true
     ·subst c58
      rw [if_pos rfl] at H
      replace H := Option.bind_eq_some_iff.mp H
      obtain ⟨⟨t254, t255⟩, A590, H⟩ := H
      try dsimp only at H
      have A59 := Aside0.mk A590
      clear A590
      have HC60 := Aside0.mk H
      clear H
      try go_wp2
      have n0_ := Aside0.mk (Kd.R_drew HO_240000.out)
      have n1_ := Aside0.mk (Kd.R_drew HO_244000.out)
      have n2_ := Aside0.mk (Kd.R_drew HO_249000.out)
      have n3_ := Aside0.mk (blk_drew BK230.out)
      have n4_ := Aside0.mk (blk_drew BK239.out)
      have n5_ := Aside0.mk (blk_drew BK243.out)
      have n6_ := Aside0.mk (blk_drew BK248.out)
      have n7_ := Aside0.mk (below_drew1 HB.out)
      clear HO_240000
      clear HO_244000
      clear HO_249000
      clear BK230
      clear BK239
      clear BK243
      clear BK248
      clear HB
      have HO_240000 := n0_
      have HO_244000 := n1_
      have HO_249000 := n2_
      have BK230 := n3_
      have BK239 := n4_
      have BK243 := n5_
      have BK248 := n6_
      have HB := n7_
      clear n0_ n1_ n2_ n3_ n4_ n5_ n6_ n7_
      refine start_ (n := 5) (S := fun w' => w'.cell? ⟨gb243, 0, none⟩ = some (.slice Ao26 t240.length co26) ∧ w'.cell? ⟨gb230, 0, none⟩ = some (.slice A0_0 l0_0.length c0_0)) (ds := []) #[false, false, false, false, false] z0 rfl rfl ⟨(blk_cell BK243.out 0).trans rfl, (blk_cell BK230.out 0).trans rfl⟩ (fun hHeld => ?_)
      generalize wc.drew = w61 at HO_240000 HO_244000 HO_249000 BK230 BK239 BK243 BK248 HB hHeld ⊢
      refine tA 0 41 ?_ (hy := by rintro w' ⟨s0, s1⟩; go_simp; with_reducible rfl)
      refine tA 1 42 ?_ (hy := by rintro w' ⟨s0, s1⟩; go_simp; with_reducible rfl)
      refine one_ (i := 2) (N := some 43) #[true, true, true, false, false] rfl rfl z0 (by decide) (fun K hK => ?_)
      refine goes_ Try.func16 z0 rfl #[.agg #[.slice A0_0 l0_0.length c0_0]] (by rfl) rfl rfl z13 ?_
      with_reducible refine (laws_toRope.calls kj10 _ _ l0_0 t250 _ ?side1 ?side2 A56.out).mono ?_
      (case side1 => repeat (first | exact (Kd.C_below HR0_0.out HB.out) | (with_reducible refine Kd.C_alloc ?_ _) | (with_reducible refine Kd.C_drewN ?_ _) | (with_reducible refine Kd.C_drew ?_)))
      (case side2 => exact HC0_0.out)
      rintro e w62 ⟨v251, rfl, ho0, hb⟩
      refine ⟨_, rfl, ?_⟩
      have n0_ := Aside0.mk (Kd.R_elder' z3 (Kd.R_base ho0) hb)
      have n1_ := Aside0.mk (Kd.R_elder' z4 (Kd.R_base ho0) hb)
      have n2_ := Aside0.mk (Kd.R_elder' z5 (Kd.R_base ho0) hb)
      have n3_ := Aside0.mk (Kd.R_lower (Kd.R_new' (Kd.R_new' (Kd.R_new' ho0 (Kd.R_lt z3)) (Kd.R_lt z4)) (Kd.R_lt z5)) (below_size z15))
      have n4_ := Aside0.mk (blk_below (g := gb230) (o := .cells #[.slice A0_0 l0_0.length c0_0] 24 (0, 0)) z7 hb)
      have n5_ := Aside0.mk (blk_below (g := gb239) (o := .cells #[.slice Ao20 t235.length co20] 29 (0, 0)) z8 hb)
      have n6_ := Aside0.mk (blk_below (g := gb243) (o := .cells #[.slice Ao26 t240.length co26] 29 (0, 0)) z9 hb)
      have n7_ := Aside0.mk (blk_below (g := gb248) (o := .cells #[.slice Ao32 t244.length co32] 29 (0, 0)) z10 hb)
      have n8_ := Aside0.mk (below_step z15 hb)
      clear HO_240000
      clear HO_244000
      clear HO_249000
      clear BK230
      clear BK239
      clear BK243
      clear BK248
      clear HB
      have HO_240000 := n0_
      have HO_244000 := n1_
      have HO_249000 := n2_
      have HO252 := n3_
      have BK230 := n4_
      have BK239 := n5_
      have BK243 := n6_
      have BK248 := n7_
      have HB := n8_
      clear n0_ n1_ n2_ n3_ n4_ n5_ n6_ n7_ n8_
      (try clear hb)
      (try clear hb2)
      (try clear hk)
      (try clear hi)
      (try clear ho0)
      obtain ⟨Ao63, co63, eo63⟩ := Kd.R_slice HO252.out
      (first | subst eo63 | (injection eo63 with f1_ f2_ f3_; have f4_ := f1_.symm; have f5_ := f3_.symm; clear f1_ f2_ f3_; subst f4_; subst f5_))
      refine hK.out _ _ ⟨(blk_cell BK243.out 0).trans rfl, (blk_cell BK230.out 0).trans rfl⟩ (fun hHeld => ?_)
      clear hK K
      refine norm_ (a' := ?_) ?_ ?_
      rotate_left
      ·show Act.put _ (some 43) _ = _
       simp only [Act.put, List.setIfInBounds_toArray, List.set_cons_zero, List.set_cons_succ, i64_w, i32_w]
       rfl
      refine one_ (i := 3) (N := some 44) #[true, true, true, true, false] rfl rfl z0 (by decide) (fun K hK => ?_)
      refine goes_ Try.func18 z0 rfl #[.agg #[.slice Ao26 t240.length co26], .agg #[.slice Ao63 t250.length co63]] (by rfl) rfl rfl z13 ?_
      with_reducible refine (laws_eqRope.calls kj10 _ _ t240 _ _ t250 true _ ?side1 ?side2 ?side3 ?side4 A57.out).mono ?_
      (case side1 => repeat (first | exact (Kd.R_reads' HO_244000.out).2.2 | (with_reducible refine Kd.C_alloc ?_ _) | (with_reducible refine Kd.C_drewN ?_ _) | (with_reducible refine Kd.C_drew ?_)))
      (case side2 => exact (Kd.R_reads' HO_244000.out).2.1)
      (case side3 => repeat (first | exact (Kd.R_reads' HO252.out).2.2 | (with_reducible refine Kd.C_alloc ?_ _) | (with_reducible refine Kd.C_drewN ?_ _) | (with_reducible refine Kd.C_drew ?_)))
      (case side4 => exact (Kd.R_reads' HO252.out).2.1)
      rintro e w64 ⟨rfl, hb⟩
      refine ⟨_, rfl, ?_⟩
      have n0_ := Aside0.mk (Kd.R_below z3 hb)
      have n1_ := Aside0.mk (Kd.R_below z4 hb)
      have n2_ := Aside0.mk (Kd.R_below z5 hb)
      have n3_ := Aside0.mk (Kd.R_below (by (with_reducible repeat (first | apply Kd.R_alloc | apply Kd.R_drewN | apply Kd.R_drew)); exact HO252.out) hb)
      have n4_ := Aside0.mk (blk_below (g := gb230) (o := .cells #[.slice A0_0 l0_0.length c0_0] 24 (0, 0)) z7 hb)
      have n5_ := Aside0.mk (blk_below (g := gb239) (o := .cells #[.slice Ao20 t235.length co20] 29 (0, 0)) z8 hb)
      have n6_ := Aside0.mk (blk_below (g := gb243) (o := .cells #[.slice Ao26 t240.length co26] 29 (0, 0)) z9 hb)
      have n7_ := Aside0.mk (blk_below (g := gb248) (o := .cells #[.slice Ao32 t244.length co32] 29 (0, 0)) z10 hb)
      have n8_ := Aside0.mk (below_step z15 hb)
      clear HO_240000
      clear HO_244000
      clear HO_249000
      clear HO252
      clear BK230
      clear BK239
      clear BK243
      clear BK248
      clear HB
      have HO_240000 := n0_
      have HO_244000 := n1_
      have HO_249000 := n2_
      have HO252 := n3_
      have BK230 := n4_
      have BK239 := n5_
      have BK243 := n6_
      have BK248 := n7_
      have HB := n8_
      clear n0_ n1_ n2_ n3_ n4_ n5_ n6_ n7_ n8_
      (try clear hb)
      (try clear hb2)
      (try clear hk)
      (try clear hi)
      refine hK.out _ _ ⟨(blk_cell BK243.out 0).trans rfl, (blk_cell BK230.out 0).trans rfl⟩ (fun hHeld => ?_)
      clear hK K
      refine norm_ (a' := ?_) ?_ ?_
      rotate_left
      ·show Act.put _ (some 44) _ = _
       simp only [Act.put, List.setIfInBounds_toArray, List.set_cons_zero, List.set_cons_succ, i64_w, i32_w]
       rfl
      refine pA 4 45 ?_
      refine done_ z0 ?_
      have hnb65 := NB243_230.out
      have hnc65 := NB230_243.out
      have hnb66 := NB243_239.out
      have hnc66 := NB239_243.out
      have hnb67 := NB243_248.out
      have hnc67 := NB248_243.out
      have hcz68_0 : w64.cell? ⟨gb243, 0, none⟩ = some (.slice Ao26 t240.length co26) := (blk_cell BK243.out 0).trans rfl
      have hfz68_0 := blk_frozen BK243.out 0
      go_upto_region 14 with (first | ((with_reducible refine gate_callee (f := 27) rfl ?_); refine goesL_ (some 48) rfl rfl Try.func27 z0 rfl #[.agg #[.slice Ao26 t240.length co26], .int .i64 1] rfl z13 ?_; (with_reducible refine (laws_markRope.calls kj10 (fun k_ => some k_ = (.slice Ao26 t240.length co26 : Value).ownBlock) (.slice Ao26 t240.length co26) t240 1 t254 t255 w _ ?side1 ?side2 A59.out).mono ?_); (case side1 => repeat (first | (with_reducible first | exact HB.out | apply below_alloc | apply pw_below_drewN | apply below_drew1 | refine below_set ?_ GE230.out | refine below_set ?_ GE239.out | refine below_set ?_ GE243.out | refine below_set ?_ GE248.out) | exact HB.out)); (case side2 => exact Kd.R_tight rfl HO_244000.out); rintro e w69 ⟨rfl, hy0, hb, hkp⟩; refine ⟨_, rfl, ?_⟩; have n0_ := Aside0.mk (Kd.R_mono (ok' := fun k_ => some k_ ≠ (.slice Ao26 t240.length co26 : Value).ownBlock ∧ some k_ ≠ (.slice Ao32 t244.length co32 : Value).ownBlock ∧ some k_ ≠ (.slice Ao63 t250.length co63 : Value).ownBlock) (Kd.R_keptB (HO_240000.out) hkp (fun k_ hk_ hs_ => (hk_.1.1) hs_)) (fun k_ hk_ => ⟨hk_.1.1.1, hk_.1.1.2, hk_.1.2⟩)); have n1_ := Aside0.mk (Kd.R_reok rfl hy0 (fun k_ e_ => HO_244000.out.1 k_ e_)); have n2_ := Aside0.mk (Kd.R_mono (ok' := fun k_ => some k_ ≠ (.slice Ao20 t235.length co20 : Value).ownBlock ∧ some k_ ≠ (.slice Ao26 t240.length co26 : Value).ownBlock ∧ some k_ ≠ (.slice Ao63 t250.length co63 : Value).ownBlock) (Kd.R_keptB (HO_249000.out) hkp (fun k_ hk_ hs_ => (hk_.1.2) hs_)) (fun k_ hk_ => ⟨hk_.1.1.1, hk_.1.1.2, hk_.1.2⟩)); have n3_ := Aside0.mk (blk_kept z7 hkp (fun hs_ => (fun e_ => (Kd.R_ne HO_244000.out BK230.out (by decide)) e_) hs_)); have n4_ := Aside0.mk (blk_kept z8 hkp (fun hs_ => (fun e_ => (Kd.R_ne HO_244000.out BK239.out (by decide)) e_) hs_)); have n5_ := Aside0.mk (blk_kept z9 hkp (fun hs_ => (fun e_ => (Kd.R_ne HO_244000.out BK243.out (by decide)) e_) hs_)); have n6_ := Aside0.mk (blk_kept z10 hkp (fun hs_ => (fun e_ => (Kd.R_ne HO_244000.out BK248.out (by decide)) e_) hs_)); have n7_ := Aside0.mk (Kd.R_mono (ok' := fun k_ => some k_ ≠ (.slice Ao20 t235.length co20 : Value).ownBlock ∧ some k_ ≠ (.slice Ao26 t240.length co26 : Value).ownBlock ∧ some k_ ≠ (.slice Ao32 t244.length co32 : Value).ownBlock) (Kd.R_keptB (HO252.out) hkp (fun k_ hk_ hs_ => (hk_.1.2) hs_)) (fun k_ hk_ => ⟨hk_.1.1.1.2, hk_.1.1.2, hk_.1.2⟩)); have n8_ := Aside0.mk (hb); clear HO_240000; clear HO_244000; clear HO_249000; clear BK230; clear BK239; clear BK243; clear BK248; clear HO252; clear HB; have HO_240000 := n0_; have HO_244000 := n1_; have HO_249000 := n2_; have BK230 := n3_; have BK239 := n4_; have BK243 := n5_; have BK248 := n6_; have HO252 := n7_; have HB := n8_; clear n0_ n1_ n2_ n3_ n4_ n5_ n6_ n7_ n8_; (try clear hb); (try clear hkp); (try clear hy0)))
      (try simp only [Act.put, List.setIfInBounds_toArray, List.set_cons_zero, List.set_cons_succ])
      go_cut [61] (fun v61 wc => ∃ (kq : Nat) (x61_59 : Bool), v61 = .bool x61_59 ∧ Aside0 (laws_FnExactRebalance.j1 kq t238 x61_59 l0_0 t235 t244 = some r) ∧ Aside0 (kq ≤ kj10) ∧ Aside0 (Kd.R k58 58 wc w.heap.size (fun k_ => some k_ ≠ ((.slice Ao26 t240.length co26) : Value).ownBlock ∧ some k_ ≠ ((.slice Ao32 t244.length co32) : Value).ownBlock) (.slice Ao20 t235.length co20) t235) ∧ Aside0 (Kd.R k58 58 wc w.heap.size (fun k_ => some k_ ≠ ((.slice Ao20 t235.length co20) : Value).ownBlock ∧ some k_ ≠ ((.slice Ao32 t244.length co32) : Value).ownBlock) (.slice Ao26 t240.length co26) t255) ∧ Aside0 (Kd.R k58 58 wc w.heap.size (fun k_ => some k_ ≠ ((.slice Ao20 t235.length co20) : Value).ownBlock ∧ some k_ ≠ ((.slice Ao26 t240.length co26) : Value).ownBlock) (.slice Ao32 t244.length co32) t244) ∧ Aside0 (wc.heap[gb230]? = some (.cells #[(.slice A0_0 l0_0.length c0_0)] 24 (0, 0))) ∧ Aside0 (wc.heap[gb239]? = some (.cells #[(.slice Ao20 t235.length co20)] 29 (0, 0))) ∧ Aside0 (wc.heap[gb243]? = some (.cells #[(.slice Ao26 t240.length co26)] 29 (0, 0))) ∧ Aside0 (wc.heap[gb248]? = some (.cells #[(.slice Ao32 t244.length co32)] 29 (0, 0))) ∧ Aside0 (Below w.heap.size w wc))
      case first =>
       have H := HC60.out
       clear HC60
       by_cases c70 : t254 < 0
       ·rw [if_pos c70] at H
        have c70b0 : decide (t254 < 0) = true := decide_eq_true c70
        clear c70
        (first | rw [c70b0] | (simp only [i64_w, i32_w]; rw [c70b0]) | skip)
        have H' := Aside0.mk H
        clear H
        go_wp2
        go_meet
        case rel => exact ⟨_, (true), z1, H', ⟨by have := HJ10.out; first | omega | exact Nat.le_refl _⟩, ⟨by (with_reducible repeat (first | apply Kd.R_alloc | apply Kd.R_drewN | apply Kd.R_drew)); exact Kd.R_mono HO_240000.out (fun _ hk => ⟨hk.1, hk.2.1⟩)⟩, ⟨by (with_reducible repeat (first | apply Kd.R_alloc | apply Kd.R_drewN | apply Kd.R_drew)); exact Kd.R_mono HO_244000.out (fun _ hk => ⟨hk.1.1, hk.1.2⟩)⟩, ⟨by (with_reducible repeat (first | apply Kd.R_alloc | apply Kd.R_drewN | apply Kd.R_drew)); exact Kd.R_mono HO_249000.out (fun _ hk => ⟨hk.1, hk.2.1⟩)⟩, ⟨by (with_reducible repeat (first | refine blk_drewN ?_ _ | refine blk_drew ?_ | refine blk_alloc ?_ _)); exact BK230.out⟩, ⟨by (with_reducible repeat (first | refine blk_drewN ?_ _ | refine blk_drew ?_ | refine blk_alloc ?_ _)); exact BK239.out⟩, ⟨by (with_reducible repeat (first | refine blk_drewN ?_ _ | refine blk_drew ?_ | refine blk_alloc ?_ _)); exact BK243.out⟩, ⟨by (with_reducible repeat (first | refine blk_drewN ?_ _ | refine blk_drew ?_ | refine blk_alloc ?_ _)); exact BK248.out⟩, ⟨by repeat (first | (with_reducible first | exact HB.out | apply below_alloc | apply pw_below_drewN | apply below_drew1 | refine below_set ?_ GE230.out | refine below_set ?_ GE239.out | refine below_set ?_ GE243.out | refine below_set ?_ GE248.out) | exact HB.out)⟩⟩
       ·rw [if_neg c70] at H
        have c70b0 : decide (t254 < 0) = false := decide_eq_false c70
        clear c70
        (first | rw [c70b0] | (simp only [i64_w, i32_w]; rw [c70b0]) | skip)
        replace H := Option.bind_eq_some_iff.mp H
        obtain ⟨t256, A710, H⟩ := H
        try dsimp only at H
        have A71 := Aside0.mk A710
        clear A710
        by_cases c72 : t256 = true
        ·subst c72
         rw [if_pos rfl] at H
         have H' := Aside0.mk H
         clear H
         have hnb73 := NB248_230.out
         have hnc73 := NB230_248.out
         have hnb74 := NB248_239.out
         have hnc74 := NB239_248.out
         have hnb75 := NB248_243.out
         have hnc75 := NB243_248.out
         have hcz76_0 : w69.cell? ⟨gb248, 0, none⟩ = some (.slice Ao32 t244.length co32) := (blk_cell BK248.out 0).trans rfl
         have hfz76_0 := blk_frozen BK248.out 0
         have hnb77 := NB239_230.out
         have hnc77 := NB230_239.out
         have hnb78 := NB239_243.out
         have hnc78 := NB243_239.out
         have hcz79_0 : w69.cell? ⟨gb239, 0, none⟩ = some (.slice Ao20 t235.length co20) := (blk_cell BK239.out 0).trans rfl
         have hfz79_0 := blk_frozen BK239.out 0
         go_wp2_with (first | (go_at_call 18; (with_reducible refine (laws_eqRope.calls kj10 _ _ t244 _ _ t235 true _ ?side1 ?side2 ?side3 ?side4 A71.out).mono ?_); (case side1 => repeat (first | exact (Kd.R_reads' HO_249000.out).2.2 | (with_reducible refine Kd.C_alloc ?_ _) | (with_reducible refine Kd.C_drewN ?_ _) | (with_reducible refine Kd.C_drew ?_))); (case side2 => exact (Kd.R_reads' HO_249000.out).2.1); (case side3 => repeat (first | exact (Kd.R_reads' HO_240000.out).2.2 | (with_reducible refine Kd.C_alloc ?_ _) | (with_reducible refine Kd.C_drewN ?_ _) | (with_reducible refine Kd.C_drew ?_))); (case side4 => exact (Kd.R_reads' HO_240000.out).2.1); rintro e w80 ⟨rfl, hb⟩; have n0_ := Aside0.mk (Kd.R_below z3 hb); have n1_ := Aside0.mk (Kd.R_below z4 hb); have n2_ := Aside0.mk (Kd.R_below z5 hb); have n3_ := Aside0.mk (Kd.R_below (by (with_reducible repeat (first | apply Kd.R_alloc | apply Kd.R_drewN | apply Kd.R_drew)); exact HO252.out) hb); have n4_ := Aside0.mk (blk_below (g := gb230) (o := .cells #[.slice A0_0 l0_0.length c0_0] 24 (0, 0)) z7 hb); have n5_ := Aside0.mk (blk_below (g := gb239) (o := .cells #[.slice Ao20 t235.length co20] 29 (0, 0)) z8 hb); have n6_ := Aside0.mk (blk_below (g := gb243) (o := .cells #[.slice Ao26 t240.length co26] 29 (0, 0)) z9 hb); have n7_ := Aside0.mk (blk_below (g := gb248) (o := .cells #[.slice Ao32 t244.length co32] 29 (0, 0)) z10 hb); have n8_ := Aside0.mk (below_step z15 hb); clear HO_240000; clear HO_244000; clear HO_249000; clear HO252; clear BK230; clear BK239; clear BK243; clear BK248; clear HB; have HO_240000 := n0_; have HO_244000 := n1_; have HO_249000 := n2_; have HO252 := n3_; have BK230 := n4_; have BK239 := n5_; have BK243 := n6_; have BK248 := n7_; have HB := n8_; clear n0_ n1_ n2_ n3_ n4_ n5_ n6_ n7_ n8_; (try clear hb); (try clear hb2); (try clear hk); (try clear hi)))
         go_meet
         case rel => exact ⟨_, ((t247 != t238)), z1, H', ⟨by have := HJ10.out; first | omega | exact Nat.le_refl _⟩, ⟨by (with_reducible repeat (first | apply Kd.R_alloc | apply Kd.R_drewN | apply Kd.R_drew)); exact Kd.R_mono HO_240000.out (fun _ hk => ⟨hk.1, hk.2.1⟩)⟩, ⟨by (with_reducible repeat (first | apply Kd.R_alloc | apply Kd.R_drewN | apply Kd.R_drew)); exact Kd.R_mono HO_244000.out (fun _ hk => ⟨hk.1.1, hk.1.2⟩)⟩, ⟨by (with_reducible repeat (first | apply Kd.R_alloc | apply Kd.R_drewN | apply Kd.R_drew)); exact Kd.R_mono HO_249000.out (fun _ hk => ⟨hk.1, hk.2.1⟩)⟩, ⟨by (with_reducible repeat (first | refine blk_drewN ?_ _ | refine blk_drew ?_ | refine blk_alloc ?_ _)); exact BK230.out⟩, ⟨by (with_reducible repeat (first | refine blk_drewN ?_ _ | refine blk_drew ?_ | refine blk_alloc ?_ _)); exact BK239.out⟩, ⟨by (with_reducible repeat (first | refine blk_drewN ?_ _ | refine blk_drew ?_ | refine blk_alloc ?_ _)); exact BK243.out⟩, ⟨by (with_reducible repeat (first | refine blk_drewN ?_ _ | refine blk_drew ?_ | refine blk_alloc ?_ _)); exact BK248.out⟩, ⟨by repeat (first | (with_reducible first | exact HB.out | apply below_alloc | apply pw_below_drewN | apply below_drew1 | refine below_set ?_ GE230.out | refine below_set ?_ GE239.out | refine below_set ?_ GE243.out | refine below_set ?_ GE248.out) | exact HB.out)⟩⟩
        ·replace c72 := Bool.eq_false_iff.mpr c72
         subst c72
         rw [if_neg (show ¬ (false = true) by decide)] at H
         have H' := Aside0.mk H
         clear H
         have hnb81 := NB248_230.out
         have hnc81 := NB230_248.out
         have hnb82 := NB248_239.out
         have hnc82 := NB239_248.out
         have hnb83 := NB248_243.out
         have hnc83 := NB243_248.out
         have hcz84_0 : w69.cell? ⟨gb248, 0, none⟩ = some (.slice Ao32 t244.length co32) := (blk_cell BK248.out 0).trans rfl
         have hfz84_0 := blk_frozen BK248.out 0
         have hnb85 := NB239_230.out
         have hnc85 := NB230_239.out
         have hnb86 := NB239_243.out
         have hnc86 := NB243_239.out
         have hcz87_0 : w69.cell? ⟨gb239, 0, none⟩ = some (.slice Ao20 t235.length co20) := (blk_cell BK239.out 0).trans rfl
         have hfz87_0 := blk_frozen BK239.out 0
         go_wp2_with (first | (go_at_call 18; (with_reducible refine (laws_eqRope.calls kj10 _ _ t244 _ _ t235 false _ ?side1 ?side2 ?side3 ?side4 A71.out).mono ?_); (case side1 => repeat (first | exact (Kd.R_reads' HO_249000.out).2.2 | (with_reducible refine Kd.C_alloc ?_ _) | (with_reducible refine Kd.C_drewN ?_ _) | (with_reducible refine Kd.C_drew ?_))); (case side2 => exact (Kd.R_reads' HO_249000.out).2.1); (case side3 => repeat (first | exact (Kd.R_reads' HO_240000.out).2.2 | (with_reducible refine Kd.C_alloc ?_ _) | (with_reducible refine Kd.C_drewN ?_ _) | (with_reducible refine Kd.C_drew ?_))); (case side4 => exact (Kd.R_reads' HO_240000.out).2.1); rintro e w88 ⟨rfl, hb⟩; have n0_ := Aside0.mk (Kd.R_below z3 hb); have n1_ := Aside0.mk (Kd.R_below z4 hb); have n2_ := Aside0.mk (Kd.R_below z5 hb); have n3_ := Aside0.mk (Kd.R_below (by (with_reducible repeat (first | apply Kd.R_alloc | apply Kd.R_drewN | apply Kd.R_drew)); exact HO252.out) hb); have n4_ := Aside0.mk (blk_below (g := gb230) (o := .cells #[.slice A0_0 l0_0.length c0_0] 24 (0, 0)) z7 hb); have n5_ := Aside0.mk (blk_below (g := gb239) (o := .cells #[.slice Ao20 t235.length co20] 29 (0, 0)) z8 hb); have n6_ := Aside0.mk (blk_below (g := gb243) (o := .cells #[.slice Ao26 t240.length co26] 29 (0, 0)) z9 hb); have n7_ := Aside0.mk (blk_below (g := gb248) (o := .cells #[.slice Ao32 t244.length co32] 29 (0, 0)) z10 hb); have n8_ := Aside0.mk (below_step z15 hb); clear HO_240000; clear HO_244000; clear HO_249000; clear HO252; clear BK230; clear BK239; clear BK243; clear BK248; clear HB; have HO_240000 := n0_; have HO_244000 := n1_; have HO_249000 := n2_; have HO252 := n3_; have BK230 := n4_; have BK239 := n5_; have BK243 := n6_; have BK248 := n7_; have HB := n8_; clear n0_ n1_ n2_ n3_ n4_ n5_ n6_ n7_ n8_; (try clear hb); (try clear hb2); (try clear hk); (try clear hi)))
         go_meet
         case rel => exact ⟨_, (true), z1, H', ⟨by have := HJ10.out; first | omega | exact Nat.le_refl _⟩, ⟨by (with_reducible repeat (first | apply Kd.R_alloc | apply Kd.R_drewN | apply Kd.R_drew)); exact Kd.R_mono HO_240000.out (fun _ hk => ⟨hk.1, hk.2.1⟩)⟩, ⟨by (with_reducible repeat (first | apply Kd.R_alloc | apply Kd.R_drewN | apply Kd.R_drew)); exact Kd.R_mono HO_244000.out (fun _ hk => ⟨hk.1.1, hk.1.2⟩)⟩, ⟨by (with_reducible repeat (first | apply Kd.R_alloc | apply Kd.R_drewN | apply Kd.R_drew)); exact Kd.R_mono HO_249000.out (fun _ hk => ⟨hk.1, hk.2.1⟩)⟩, ⟨by (with_reducible repeat (first | refine blk_drewN ?_ _ | refine blk_drew ?_ | refine blk_alloc ?_ _)); exact BK230.out⟩, ⟨by (with_reducible repeat (first | refine blk_drewN ?_ _ | refine blk_drew ?_ | refine blk_alloc ?_ _)); exact BK239.out⟩, ⟨by (with_reducible repeat (first | refine blk_drewN ?_ _ | refine blk_drew ?_ | refine blk_alloc ?_ _)); exact BK243.out⟩, ⟨by (with_reducible repeat (first | refine blk_drewN ?_ _ | refine blk_drew ?_ | refine blk_alloc ?_ _)); exact BK248.out⟩, ⟨by repeat (first | (with_reducible first | exact HB.out | apply below_alloc | apply pw_below_drewN | apply below_drew1 | refine below_set ?_ GE230.out | refine below_set ?_ GE239.out | refine below_set ?_ GE243.out | refine below_set ?_ GE248.out) | exact HB.out)⟩⟩
      case rest =>
       clear HC60
       try clear c1
       try clear c2
       try clear p2
       try clear c3
       try clear c3b0
       try clear c4
       try clear c5
       try clear c6
       try clear c7
       try clear c8
       try clear c10
       try clear c14
       try clear c16
       try clear c18
       try clear c21
       try clear c27
       try clear c28
       try clear c33
       try clear c34
       try clear c35
       try clear c36
       try clear c37
       try clear c38
       try clear c39
       try clear c40
       try clear c41
       try clear c43
       try clear c44
       try clear c47
       try clear c48
       try clear c49
       try clear c51
       try clear c52
       try clear c55
       try clear c58
       try clear c65
       try clear c66
       try clear c67
       try clear c70
       try clear c70b0
       try clear c72
       try clear c73
       try clear c74
       try clear c75
       try clear c77
       try clear c78
       try clear c81
       try clear c82
       try clear c83
       try clear c85
       try clear c86
       try clear hcz13_0
       try clear hcz15_0
       try clear hcz22_0
       try clear hcz23_0
       try clear hcz29_0
       try clear hcz36_0
       try clear hcz42_0
       try clear hcz45_0
       try clear hcz50_0
       try clear hcz53_0
       try clear hcz5_0
       try clear hcz68_0
       try clear hcz76_0
       try clear hcz79_0
       try clear hcz84_0
       try clear hcz87_0
       try clear hfz13_0
       try clear hfz15_0
       try clear hfz22_0
       try clear hfz23_0
       try clear hfz29_0
       try clear hfz36_0
       try clear hfz42_0
       try clear hfz45_0
       try clear hfz50_0
       try clear hfz53_0
       try clear hfz5_0
       try clear hfz68_0
       try clear hfz76_0
       try clear hfz79_0
       try clear hfz84_0
       try clear hfz87_0
       try clear p2
       obtain ⟨kq, x61_59, rfl, HA, HJ59, HO_240000, HO_244000, HO_249000, BK230, BK239, BK243, BK248, HB⟩ := hcut
       have hl244000_59 := (Kd.R_reads' HO_244000.out).1
       rw [hl244000_59] at HO_244000
       (try simp only [hl244000_59])
       (try simp only [hl244000_59] at BK230)
       (try simp only [hl244000_59] at BK239)
       (try simp only [hl244000_59] at BK243)
       (try simp only [hl244000_59] at BK248)
       (try simp only [hl244000_59] at HO_240000)
       (try simp only [hl244000_59] at HO_249000)
       cases kq with
       | zero => exact absurd HA.out (by simp [laws_FnExactRebalance.j1])
       | succ kj59 =>
        have H := HA.out
        clear HA
        simp only [laws_FnExactRebalance.j1] at H
        by_cases c89 : x61_59 = true
        ·subst c89
         rw [if_pos rfl] at H
         first | (cases H.trans (congrArg some HRT.out); done) | skip
         all_goals
          obtain rfl := Option.some.inj H
          go_wp2
          go_ret
          exact ⟨by first | rfl | (simp [errW_none, errW_some] <;> rfl) | (simp [*, errW_none, errW_some] <;> rfl), by repeat (first | (with_reducible first | exact HB.out | apply below_alloc | apply pw_below_drewN | apply below_drew1 | refine below_set ?_ GE230.out | refine below_set ?_ GE239.out | refine below_set ?_ GE243.out | refine below_set ?_ GE248.out) | exact HB.out)⟩
        ·replace c89 := Bool.eq_false_iff.mpr c89
         subst c89
         rw [if_neg (show ¬ (false = true) by decide)] at H
         replace H := Option.bind_eq_some_iff.mp H
         obtain ⟨⟨t257, t258⟩, A900, H⟩ := H
         try dsimp only at H
         have A90 := Aside0.mk A900
         clear A900
         replace H := Option.bind_eq_some_iff.mp H
         obtain ⟨t259, A910, H⟩ := H
         try dsimp only at H
         have A91 := Aside0.mk A910
         clear A910
         by_cases c92 : t259 < 0
         ·rw [if_pos c92] at H
          have c92b0 : decide (t259 < 0) = true := decide_eq_true c92
          clear c92
          first | (cases H.trans (congrArg some HRT.out); done) | skip
          all_goals
           obtain rfl := Option.some.inj H
           have hnb93 := NB248_230.out
           have hnc93 := NB230_248.out
           have hnb94 := NB248_239.out
           have hnc94 := NB239_248.out
           have hnb95 := NB248_243.out
           have hnc95 := NB243_248.out
           have hcz96_0 : wc.cell? ⟨gb248, 0, none⟩ = some (.slice Ao32 t244.length co32) := (blk_cell BK248.out 0).trans rfl
           have hfz96_0 := blk_frozen BK248.out 0
           go_wp2_with (first | ((with_reducible refine gate_callee (f := 27) rfl ?_); refine goesL_ (some 64) rfl rfl Try.func27 z0 rfl #[.agg #[.slice Ao32 t244.length co32], .int .i64 1] rfl z13 ?_; (with_reducible refine (laws_markRope.calls kj59 (fun k_ => some k_ = (.slice Ao32 t244.length co32 : Value).ownBlock) (.slice Ao32 t244.length co32) t244 1 t257 t258 w _ ?side1 ?side2 A90.out).mono ?_); (case side1 => repeat (first | (with_reducible first | exact HB.out | apply below_alloc | apply pw_below_drewN | apply below_drew1 | refine below_set ?_ GE230.out | refine below_set ?_ GE239.out | refine below_set ?_ GE243.out | refine below_set ?_ GE248.out) | exact HB.out)); (case side2 => exact Kd.R_tight rfl HO_249000.out); rintro e w97 ⟨rfl, hy0, hb, hkp⟩; refine ⟨_, rfl, ?_⟩; have n0_ := Aside0.mk (Kd.R_mono (ok' := fun k_ => some k_ ≠ (.slice Ao26 t255.length co26 : Value).ownBlock ∧ some k_ ≠ (.slice Ao32 t244.length co32 : Value).ownBlock) (Kd.R_keptB (HO_240000.out) hkp (fun k_ hk_ hs_ => (hk_.2) hs_)) (fun k_ hk_ => ⟨hk_.1.1, hk_.1.2⟩)); have n1_ := Aside0.mk (Kd.R_mono (ok' := fun k_ => some k_ ≠ (.slice Ao20 t235.length co20 : Value).ownBlock ∧ some k_ ≠ (.slice Ao32 t244.length co32 : Value).ownBlock) (Kd.R_keptB (HO_244000.out) hkp (fun k_ hk_ hs_ => (hk_.2) hs_)) (fun k_ hk_ => ⟨hk_.1.1, hk_.1.2⟩)); have n2_ := Aside0.mk (Kd.R_reok rfl hy0 (fun k_ e_ => HO_249000.out.1 k_ e_)); have n3_ := Aside0.mk (blk_kept z7 hkp (fun hs_ => (fun e_ => (Kd.R_ne HO_249000.out BK230.out (by decide)) e_) hs_)); have n4_ := Aside0.mk (blk_kept z8 hkp (fun hs_ => (fun e_ => (Kd.R_ne HO_249000.out BK239.out (by decide)) e_) hs_)); have n5_ := Aside0.mk (blk_kept z9 hkp (fun hs_ => (fun e_ => (Kd.R_ne HO_249000.out BK243.out (by decide)) e_) hs_)); have n6_ := Aside0.mk (blk_kept z10 hkp (fun hs_ => (fun e_ => (Kd.R_ne HO_249000.out BK248.out (by decide)) e_) hs_)); have n7_ := Aside0.mk (hb); clear HO_240000; clear HO_244000; clear HO_249000; clear BK230; clear BK239; clear BK243; clear BK248; clear HB; have HO_240000 := n0_; have HO_244000 := n1_; have HO_249000 := n2_; have BK230 := n3_; have BK239 := n4_; have BK243 := n5_; have BK248 := n6_; have HB := n7_; clear n0_ n1_ n2_ n3_ n4_ n5_ n6_ n7_; (try clear hb); (try clear hkp); (try clear hy0); have hcz98_0 : w97.cell? ⟨gb248, 0, none⟩ = some (.slice Ao32 t244.length co32) := (blk_cell BK248.out 0).trans rfl; have hfz98_0 := blk_frozen BK248.out 0) | ((with_reducible refine gate_callee (f := 28) rfl ?_); refine goesL_ (some 67) rfl rfl Try.func28 z0 rfl #[.agg #[.slice Ao32 t258.length co32], .int .i64 1] rfl (by (try simp only [List.map_toArray, List.map_cons, List.map_nil]); first | done | (rw [show t258.length = t244.length from (Kd.R_reads' HO_249000.out).1.symm] <;> rfl) | rfl | (simp only [List.length_drop, List.length_take]; rfl)) ?_; (with_reducible refine (laws_heldRope.calls kj59 _ _ t258 1 t259 _ ?side1 ?side2 A91.out).mono ?_); (case side1 => repeat (first | exact (Kd.R_reads' HO_249000.out).2.2 | (with_reducible refine Kd.C_alloc ?_ _) | (with_reducible refine Kd.C_drewN ?_ _) | (with_reducible refine Kd.C_drew ?_))); (case side2 => rw [show t258.length = t244.length from (Kd.R_reads' HO_249000.out).1.symm]; exact (Kd.R_reads' HO_249000.out).2.1); rintro e w99 ⟨rfl, hb⟩; refine ⟨_, rfl, ?_⟩; have n0_ := Aside0.mk (Kd.R_below z3 hb); have n1_ := Aside0.mk (Kd.R_below z4 hb); have n2_ := Aside0.mk (Kd.R_below z5 hb); have n3_ := Aside0.mk (blk_below (g := gb230) (o := .cells #[.slice A0_0 l0_0.length c0_0] 24 (0, 0)) z7 hb); have n4_ := Aside0.mk (blk_below (g := gb239) (o := .cells #[.slice Ao20 t235.length co20] 29 (0, 0)) z8 hb); have n5_ := Aside0.mk (blk_below (g := gb243) (o := .cells #[.slice Ao26 t255.length co26] 29 (0, 0)) z9 hb); have n6_ := Aside0.mk (blk_below (g := gb248) (o := .cells #[.slice Ao32 t244.length co32] 29 (0, 0)) z10 hb); have n7_ := Aside0.mk (below_step z15 hb); clear HO_240000; clear HO_244000; clear HO_249000; clear BK230; clear BK239; clear BK243; clear BK248; clear HB; have HO_240000 := n0_; have HO_244000 := n1_; have HO_249000 := n2_; have BK230 := n3_; have BK239 := n4_; have BK243 := n5_; have BK248 := n6_; have HB := n7_; clear n0_ n1_ n2_ n3_ n4_ n5_ n6_ n7_; (try clear hb); (try clear hb2); (try clear hk); (try clear hi)))
           go_ret
           exact ⟨by first | rfl | (simp [errW_none, errW_some] <;> rfl) | (simp [*, errW_none, errW_some] <;> rfl), by repeat (first | (with_reducible first | exact HB.out | apply below_alloc | apply pw_below_drewN | apply below_drew1 | refine below_set ?_ GE230.out | refine below_set ?_ GE239.out | refine below_set ?_ GE243.out | refine below_set ?_ GE248.out) | exact HB.out)⟩
         ·rw [if_neg c92] at H
          have c92b0 : decide (t259 < 0) = false := decide_eq_false c92
          clear c92
          by_cases c100 : t259 = t257
          ·rw [if_pos c100] at H
           have c100b0 : (t259 == t257) = true := beq_iff_eq.mpr c100
           have c100b1 : (t259 != t257) = false := bne_eq_false_iff_eq.mpr c100
           clear c100
           replace H := Option.bind_eq_some_iff.mp H
           obtain ⟨t260, A1010, H⟩ := H
           try dsimp only at H
           have A101 := Aside0.mk A1010
           clear A1010
           replace H := Option.bind_eq_some_iff.mp H
           obtain ⟨⟨t263, t266⟩, A1020, H⟩ := H
           try dsimp only at H
           have A102 := Aside0.mk A1020
           clear A1020
           have HC103 := Aside0.mk H
           clear H
           have hnb104 := NB248_230.out
           have hnc104 := NB230_248.out
           have hnb105 := NB248_239.out
           have hnc105 := NB239_248.out
           have hnb106 := NB248_243.out
           have hnc106 := NB243_248.out
           have hcz107_0 : wc.cell? ⟨gb248, 0, none⟩ = some (.slice Ao32 t244.length co32) := (blk_cell BK248.out 0).trans rfl
           have hfz107_0 := blk_frozen BK248.out 0
           go_upto_region 25 with (first | ((with_reducible refine gate_callee (f := 27) rfl ?_); refine goesL_ (some 64) rfl rfl Try.func27 z0 rfl #[.agg #[.slice Ao32 t244.length co32], .int .i64 1] rfl z13 ?_; (with_reducible refine (laws_markRope.calls kj59 (fun k_ => some k_ = (.slice Ao32 t244.length co32 : Value).ownBlock) (.slice Ao32 t244.length co32) t244 1 t257 t258 w _ ?side1 ?side2 A90.out).mono ?_); (case side1 => repeat (first | (with_reducible first | exact HB.out | apply below_alloc | apply pw_below_drewN | apply below_drew1 | refine below_set ?_ GE230.out | refine below_set ?_ GE239.out | refine below_set ?_ GE243.out | refine below_set ?_ GE248.out) | exact HB.out)); (case side2 => exact Kd.R_tight rfl HO_249000.out); rintro e w108 ⟨rfl, hy0, hb, hkp⟩; refine ⟨_, rfl, ?_⟩; have n0_ := Aside0.mk (Kd.R_mono (ok' := fun k_ => some k_ ≠ (.slice Ao26 t255.length co26 : Value).ownBlock ∧ some k_ ≠ (.slice Ao32 t244.length co32 : Value).ownBlock) (Kd.R_keptB (HO_240000.out) hkp (fun k_ hk_ hs_ => (hk_.2) hs_)) (fun k_ hk_ => ⟨hk_.1.1, hk_.1.2⟩)); have n1_ := Aside0.mk (Kd.R_mono (ok' := fun k_ => some k_ ≠ (.slice Ao20 t235.length co20 : Value).ownBlock ∧ some k_ ≠ (.slice Ao32 t244.length co32 : Value).ownBlock) (Kd.R_keptB (HO_244000.out) hkp (fun k_ hk_ hs_ => (hk_.2) hs_)) (fun k_ hk_ => ⟨hk_.1.1, hk_.1.2⟩)); have n2_ := Aside0.mk (Kd.R_reok rfl hy0 (fun k_ e_ => HO_249000.out.1 k_ e_)); have n3_ := Aside0.mk (blk_kept z7 hkp (fun hs_ => (fun e_ => (Kd.R_ne HO_249000.out BK230.out (by decide)) e_) hs_)); have n4_ := Aside0.mk (blk_kept z8 hkp (fun hs_ => (fun e_ => (Kd.R_ne HO_249000.out BK239.out (by decide)) e_) hs_)); have n5_ := Aside0.mk (blk_kept z9 hkp (fun hs_ => (fun e_ => (Kd.R_ne HO_249000.out BK243.out (by decide)) e_) hs_)); have n6_ := Aside0.mk (blk_kept z10 hkp (fun hs_ => (fun e_ => (Kd.R_ne HO_249000.out BK248.out (by decide)) e_) hs_)); have n7_ := Aside0.mk (hb); clear HO_240000; clear HO_244000; clear HO_249000; clear BK230; clear BK239; clear BK243; clear BK248; clear HB; have HO_240000 := n0_; have HO_244000 := n1_; have HO_249000 := n2_; have BK230 := n3_; have BK239 := n4_; have BK243 := n5_; have BK248 := n6_; have HB := n7_; clear n0_ n1_ n2_ n3_ n4_ n5_ n6_ n7_; (try clear hb); (try clear hkp); (try clear hy0); have hcz109_0 : w108.cell? ⟨gb248, 0, none⟩ = some (.slice Ao32 t244.length co32) := (blk_cell BK248.out 0).trans rfl; have hfz109_0 := blk_frozen BK248.out 0) | ((with_reducible refine gate_callee (f := 28) rfl ?_); refine goesL_ (some 67) rfl rfl Try.func28 z0 rfl #[.agg #[.slice Ao32 t258.length co32], .int .i64 1] rfl (by (try simp only [List.map_toArray, List.map_cons, List.map_nil]); first | done | (rw [show t258.length = t244.length from (Kd.R_reads' HO_249000.out).1.symm] <;> rfl) | rfl | (simp only [List.length_drop, List.length_take]; rfl)) ?_; (with_reducible refine (laws_heldRope.calls kj59 _ _ t258 1 t259 _ ?side1 ?side2 A91.out).mono ?_); (case side1 => repeat (first | exact (Kd.R_reads' HO_249000.out).2.2 | (with_reducible refine Kd.C_alloc ?_ _) | (with_reducible refine Kd.C_drewN ?_ _) | (with_reducible refine Kd.C_drew ?_))); (case side2 => rw [show t258.length = t244.length from (Kd.R_reads' HO_249000.out).1.symm]; exact (Kd.R_reads' HO_249000.out).2.1); rintro e w110 ⟨rfl, hb⟩; refine ⟨_, rfl, ?_⟩; have n0_ := Aside0.mk (Kd.R_below z3 hb); have n1_ := Aside0.mk (Kd.R_below z4 hb); have n2_ := Aside0.mk (Kd.R_below z5 hb); have n3_ := Aside0.mk (blk_below (g := gb230) (o := .cells #[.slice A0_0 l0_0.length c0_0] 24 (0, 0)) z7 hb); have n4_ := Aside0.mk (blk_below (g := gb239) (o := .cells #[.slice Ao20 t235.length co20] 29 (0, 0)) z8 hb); have n5_ := Aside0.mk (blk_below (g := gb243) (o := .cells #[.slice Ao26 t255.length co26] 29 (0, 0)) z9 hb); have n6_ := Aside0.mk (blk_below (g := gb248) (o := .cells #[.slice Ao32 t244.length co32] 29 (0, 0)) z10 hb); have n7_ := Aside0.mk (below_step z15 hb); clear HO_240000; clear HO_244000; clear HO_249000; clear BK230; clear BK239; clear BK243; clear BK248; clear HB; have HO_240000 := n0_; have HO_244000 := n1_; have HO_249000 := n2_; have BK230 := n3_; have BK239 := n4_; have BK243 := n5_; have BK248 := n6_; have HB := n7_; clear n0_ n1_ n2_ n3_ n4_ n5_ n6_ n7_; (try clear hb); (try clear hb2); (try clear hk); (try clear hi); have hnb111 := NB230_239.out; have hnc111 := NB239_230.out; have hnb112 := NB230_243.out; have hnc112 := NB243_230.out; have hcz113_0 : w110.cell? ⟨gb230, 0, none⟩ = some (.slice A0_0 l0_0.length c0_0) := (blk_cell BK230.out 0).trans rfl; have hfz113_0 := blk_frozen BK230.out 0) | ((with_reducible refine gate_callee (f := 16) rfl ?_); refine goesL_ (some 75) rfl rfl Try.func16 z0 rfl #[.agg #[.slice A0_0 l0_0.length c0_0]] rfl z13 ?_; (with_reducible refine (laws_toRope.calls kj59 _ _ l0_0 t260 _ ?side1 ?side2 A101.out).mono ?_); (case side1 => repeat (first | exact (Kd.C_below HR0_0.out HB.out) | (with_reducible refine Kd.C_alloc ?_ _) | (with_reducible refine Kd.C_drewN ?_ _) | (with_reducible refine Kd.C_drew ?_))); (case side2 => exact HC0_0.out); rintro e w114 ⟨v261, rfl, ho0, hb⟩; refine ⟨_, rfl, ?_⟩; have n0_ := Aside0.mk (Kd.R_elder' z3 (Kd.R_base ho0) hb); have n1_ := Aside0.mk (Kd.R_elder' z4 (Kd.R_base ho0) hb); have n2_ := Aside0.mk (Kd.R_elder' z5 (Kd.R_base ho0) hb); have n3_ := Aside0.mk (Kd.R_lower (Kd.R_new' (Kd.R_new' (Kd.R_new' ho0 (Kd.R_lt z3)) (Kd.R_lt z4)) (Kd.R_lt z5)) (below_size z15)); have n4_ := Aside0.mk (blk_below (g := gb230) (o := .cells #[.slice A0_0 l0_0.length c0_0] 24 (0, 0)) z7 hb); have n5_ := Aside0.mk (blk_below (g := gb239) (o := .cells #[.slice Ao20 t235.length co20] 29 (0, 0)) z8 hb); have n6_ := Aside0.mk (blk_below (g := gb243) (o := .cells #[.slice Ao26 t255.length co26] 29 (0, 0)) z9 hb); have n7_ := Aside0.mk (blk_below (g := gb248) (o := .cells #[.slice Ao32 t244.length co32] 29 (0, 0)) z10 hb); have n8_ := Aside0.mk (below_step z15 hb); clear HO_240000; clear HO_244000; clear HO_249000; clear BK230; clear BK239; clear BK243; clear BK248; clear HB; have HO_240000 := n0_; have HO_244000 := n1_; have HO_249000 := n2_; have HO262 := n3_; have BK230 := n4_; have BK239 := n5_; have BK243 := n6_; have BK248 := n7_; have HB := n8_; clear n0_ n1_ n2_ n3_ n4_ n5_ n6_ n7_ n8_; (try clear hb); (try clear hb2); (try clear hk); (try clear hi); (try clear ho0); obtain ⟨Ao115, co115, eo115⟩ := Kd.R_slice HO262.out; subst eo115) | ((with_reducible refine gate_callee (f := 37) rfl ?_); refine goesL_ (some 76) rfl rfl Try.func37 z0 rfl #[.agg #[.slice Ao115 t260.length co115]] rfl z13 ?_; (with_reducible refine (impl_Rebalance.calls kj59 _ _ t260 t263 t266 _ ?side1 ?side2 A102.out).mono ?_); (case side1 => repeat (first | exact (Kd.R_reads' HO262.out).2.2 | (with_reducible refine Kd.C_alloc ?_ _) | (with_reducible refine Kd.C_drewN ?_ _) | (with_reducible refine Kd.C_drew ?_))); (case side2 => exact (Kd.R_reads' HO262.out).2.1); rintro e w116 ⟨v264, rfl, ho0, hb⟩; refine ⟨_, rfl, ?_⟩; have n0_ := Aside0.mk (Kd.R_elder' z3 (Kd.R_base ho0) hb); have n1_ := Aside0.mk (Kd.R_elder' z4 (Kd.R_base ho0) hb); have n2_ := Aside0.mk (Kd.R_elder' z5 (Kd.R_base ho0) hb); have n3_ := Aside0.mk (Kd.R_elder' (by (with_reducible repeat (first | apply Kd.R_alloc | apply Kd.R_drewN | apply Kd.R_drew)); exact HO262.out) (Kd.R_base ho0) hb); have n4_ := Aside0.mk (Kd.R_lower (Kd.R_new' (Kd.R_new' (Kd.R_new' (Kd.R_new' ho0 (Kd.R_lt z3)) (Kd.R_lt z4)) (Kd.R_lt z5)) (Kd.R_lt (by (with_reducible repeat (first | apply Kd.R_alloc | apply Kd.R_drewN | apply Kd.R_drew)); exact HO262.out))) (below_size z15)); have n5_ := Aside0.mk (blk_below (g := gb230) (o := .cells #[.slice A0_0 l0_0.length c0_0] 24 (0, 0)) z7 hb); have n6_ := Aside0.mk (blk_below (g := gb239) (o := .cells #[.slice Ao20 t235.length co20] 29 (0, 0)) z8 hb); have n7_ := Aside0.mk (blk_below (g := gb243) (o := .cells #[.slice Ao26 t255.length co26] 29 (0, 0)) z9 hb); have n8_ := Aside0.mk (blk_below (g := gb248) (o := .cells #[.slice Ao32 t244.length co32] 29 (0, 0)) z10 hb); have n9_ := Aside0.mk (below_step z15 hb); clear HO_240000; clear HO_244000; clear HO_249000; clear HO262; clear BK230; clear BK239; clear BK243; clear BK248; clear HB; have HO_240000 := n0_; have HO_244000 := n1_; have HO_249000 := n2_; have HO262 := n3_; have HO265 := n4_; have BK230 := n5_; have BK239 := n6_; have BK243 := n7_; have BK248 := n8_; have HB := n9_; clear n0_ n1_ n2_ n3_ n4_ n5_ n6_ n7_ n8_ n9_; (try clear hb); (try clear hb2); (try clear hk); (try clear hi); (try clear ho0)) | ((with_reducible refine gate_dst (N := 12) rfl ?_); refine box_event ?hg (N := 12) ?hd (cs := #[.slice none 0 0]) (t := 29) ?hr ?_; (case hd => rfl); (case hg => rfl); (case hr => first | (go_simp; done) | (go_simp; rfl)); intro gb267 hg w117 hbox hb; have n0_ := Aside0.mk (Kd.R_below z3 hb); have n1_ := Aside0.mk (Kd.R_below z4 hb); have n2_ := Aside0.mk (Kd.R_below z5 hb); have n3_ := Aside0.mk (Kd.R_below (by (with_reducible repeat (first | apply Kd.R_alloc | apply Kd.R_drewN | apply Kd.R_drew)); exact HO262.out) hb); have n4_ := Aside0.mk (Kd.R_below (by (with_reducible repeat (first | apply Kd.R_alloc | apply Kd.R_drewN | apply Kd.R_drew)); exact HO265.out) hb); have n5_ := Aside0.mk (blk_below (g := gb230) (o := .cells #[.slice A0_0 l0_0.length c0_0] 24 (0, 0)) z7 hb); have n6_ := Aside0.mk (blk_below (g := gb239) (o := .cells #[.slice Ao20 t235.length co20] 29 (0, 0)) z8 hb); have n7_ := Aside0.mk (blk_below (g := gb243) (o := .cells #[.slice Ao26 t255.length co26] 29 (0, 0)) z9 hb); have n8_ := Aside0.mk (blk_below (g := gb248) (o := .cells #[.slice Ao32 t244.length co32] 29 (0, 0)) z10 hb); have n9_ := Aside0.mk (below_step z15 hb); have n10_ := Aside0.mk (hbox); have n11_ := Aside0.mk ((by rw [hg]; exact (below_size z15) : w.heap.size ≤ gb267)); have n12_ := Aside0.mk ((by rw [hg]; exact (below_size z15) : w.heap.size ≤ gb267)); have n13_ := Aside0.mk ((by rw [hg]; exact Nat.ne_of_lt (blk_lt (g := gb230) (o := .cells #[.slice A0_0 l0_0.length c0_0] 24 (0, 0)) z7) : gb230 ≠ gb267)); have n14_ := Aside0.mk ((by rw [hg]; exact Nat.ne_of_gt (blk_lt (g := gb230) (o := .cells #[.slice A0_0 l0_0.length c0_0] 24 (0, 0)) z7) : gb267 ≠ gb230)); have n15_ := Aside0.mk ((by rw [hg]; exact Nat.ne_of_lt (blk_lt (g := gb239) (o := .cells #[.slice Ao20 t235.length co20] 29 (0, 0)) z8) : gb239 ≠ gb267)); have n16_ := Aside0.mk ((by rw [hg]; exact Nat.ne_of_gt (blk_lt (g := gb239) (o := .cells #[.slice Ao20 t235.length co20] 29 (0, 0)) z8) : gb267 ≠ gb239)); have n17_ := Aside0.mk ((by rw [hg]; exact Nat.ne_of_lt (blk_lt (g := gb243) (o := .cells #[.slice Ao26 t255.length co26] 29 (0, 0)) z9) : gb243 ≠ gb267)); have n18_ := Aside0.mk ((by rw [hg]; exact Nat.ne_of_gt (blk_lt (g := gb243) (o := .cells #[.slice Ao26 t255.length co26] 29 (0, 0)) z9) : gb267 ≠ gb243)); have n19_ := Aside0.mk ((by rw [hg]; exact Nat.ne_of_lt (blk_lt (g := gb248) (o := .cells #[.slice Ao32 t244.length co32] 29 (0, 0)) z10) : gb248 ≠ gb267)); have n20_ := Aside0.mk ((by rw [hg]; exact Nat.ne_of_gt (blk_lt (g := gb248) (o := .cells #[.slice Ao32 t244.length co32] 29 (0, 0)) z10) : gb267 ≠ gb248)); clear HO_240000; clear HO_244000; clear HO_249000; clear HO262; clear HO265; clear BK230; clear BK239; clear BK243; clear BK248; clear HB; have HO_240000 := n0_; have HO_244000 := n1_; have HO_249000 := n2_; have HO262 := n3_; have HO265 := n4_; have BK230 := n5_; have BK239 := n6_; have BK243 := n7_; have BK248 := n8_; have HB := n9_; have BK267 := n10_; have GW267 := n11_; have GE267 := n12_; have NB230_267 := n13_; have NB267_230 := n14_; have NB239_267 := n15_; have NB267_239 := n16_; have NB243_267 := n17_; have NB267_243 := n18_; have NB248_267 := n19_; have NB267_248 := n20_; clear n0_ n1_ n2_ n3_ n4_ n5_ n6_ n7_ n8_ n9_ n10_ n11_ n12_ n13_ n14_ n15_ n16_ n17_ n18_ n19_ n20_; clear hb hbox hg; obtain ⟨Ao118, co118, eo118⟩ := Kd.R_slice HO265.out; subst eo118; have hnb119 := NB267_230.out; have hnc119 := NB230_267.out; have hnb120 := NB267_239.out; have hnc120 := NB239_267.out; have hnb121 := NB267_243.out; have hnc121 := NB243_267.out; have hnb122 := NB267_248.out; have hnc122 := NB248_267.out; have hcz123_0 : w117.cell? ⟨gb267, 0, none⟩ = some (.slice none 0 0) := (blk_cell BK267.out 0).trans rfl; have hfz123_0 := blk_frozen BK267.out 0))
           (try simp only [Act.put, List.setIfInBounds_toArray, List.set_cons_zero, List.set_cons_succ])
           go_cut [87] (fun v87 wc => ∃ (kq : Nat) (x87_102 : Bool), v87 = .bool x87_102 ∧ Aside0 (laws_FnExactRebalance.j2 kq t257 x87_102 t258 = some r) ∧ Aside0 (kq ≤ kj59) ∧ Aside0 (Kd.R k58 58 wc w.heap.size (fun k_ => some k_ ≠ ((.slice Ao26 t255.length co26) : Value).ownBlock ∧ some k_ ≠ ((.slice Ao32 t244.length co32) : Value).ownBlock ∧ some k_ ≠ ((.slice Ao118 t263.length co118) : Value).ownBlock) (.slice Ao20 t235.length co20) t235) ∧ Aside0 (Kd.R k58 58 wc w.heap.size (fun k_ => some k_ ≠ ((.slice Ao20 t235.length co20) : Value).ownBlock ∧ some k_ ≠ ((.slice Ao32 t244.length co32) : Value).ownBlock ∧ some k_ ≠ ((.slice Ao118 t263.length co118) : Value).ownBlock) (.slice Ao26 t255.length co26) t255) ∧ Aside0 (Kd.R k58 58 wc w.heap.size (fun k_ => some k_ ≠ ((.slice Ao20 t235.length co20) : Value).ownBlock ∧ some k_ ≠ ((.slice Ao26 t255.length co26) : Value).ownBlock ∧ some k_ ≠ ((.slice Ao118 t263.length co118) : Value).ownBlock) (.slice Ao32 t244.length co32) t258) ∧ Aside0 (Kd.R k58 58 wc w.heap.size (fun k_ => some k_ ≠ ((.slice Ao20 t235.length co20) : Value).ownBlock ∧ some k_ ≠ ((.slice Ao26 t255.length co26) : Value).ownBlock ∧ some k_ ≠ ((.slice Ao32 t244.length co32) : Value).ownBlock) (.slice Ao118 t263.length co118) t263) ∧ Aside0 (wc.heap[gb230]? = some (.cells #[(.slice A0_0 l0_0.length c0_0)] 24 (0, 0))) ∧ Aside0 (wc.heap[gb239]? = some (.cells #[(.slice Ao20 t235.length co20)] 29 (0, 0))) ∧ Aside0 (wc.heap[gb243]? = some (.cells #[(.slice Ao26 t255.length co26)] 29 (0, 0))) ∧ Aside0 (wc.heap[gb248]? = some (.cells #[(.slice Ao32 t244.length co32)] 29 (0, 0))) ∧ Aside0 (wc.heap[gb267]? = some (.cells #[(.slice Ao118 t263.length co118)] 29 (0, 0))) ∧ Aside0 (Below w.heap.size w wc))
           case first =>
            have H := HC103.out
            clear HC103
            replace H := Option.bind_eq_some_iff.mp H
            obtain ⟨t268, A1240, H⟩ := H
            try dsimp only at H
            have A124 := Aside0.mk A1240
            clear A1240
            by_cases c125 : t268 = true
            ·subst c125
             rw [if_pos rfl] at H
             have H' := Aside0.mk H
             clear H
             have hnb126 := NB267_230.out
             have hnc126 := NB230_267.out
             have hnb127 := NB267_239.out
             have hnc127 := NB239_267.out
             have hnb128 := NB267_243.out
             have hnc128 := NB243_267.out
             have hnb129 := NB267_248.out
             have hnc129 := NB248_267.out
             have hcz130_0 : w117.cell? ⟨gb267, 0, none⟩ = some (.slice none 0 0) := (blk_cell BK267.out 0).trans rfl
             have hfz130_0 := blk_frozen BK267.out 0
             have hnb131 := NB239_230.out
             have hnc131 := NB230_239.out
             have hnb132 := NB239_243.out
             have hnc132 := NB243_239.out
             have hnb133 := NB239_248.out
             have hnc133 := NB248_239.out
             have hcz134_0 : w117.cell? ⟨gb239, 0, none⟩ = some (.slice Ao20 t235.length co20) := (blk_cell BK239.out 0).trans rfl
             have hfz134_0 := blk_frozen BK239.out 0
             go_wp2_with (first | ((with_reducible refine gate_callee (f := 18) rfl ?_); refine goesL_ (some 81) rfl rfl Try.func18 z0 rfl #[.agg #[.slice Ao118 t263.length co118], .agg #[.slice Ao20 t235.length co20]] rfl z13 ?_; (with_reducible refine (laws_eqRope.calls kj59 _ _ t263 _ _ t235 true _ ?side1 ?side2 ?side3 ?side4 A124.out).mono ?_); (case side1 => refine (Kd.R_reads' (e := 58) (base := w.heap.size) (ok := fun k_ => ((((True ∧ some k_ ≠ (.slice Ao20 t235.length co20 : Value).ownBlock) ∧ some k_ ≠ (.slice Ao26 t255.length co26 : Value).ownBlock) ∧ some k_ ≠ (.slice Ao32 t244.length co32 : Value).ownBlock) ∧ some k_ ≠ (.slice Ao115 t260.length co115 : Value).ownBlock)) (n := t263.length) (c := co118) ?_).2.2; exact (by (with_reducible repeat (first | apply Kd.R_alloc | apply Kd.R_drewN | apply Kd.R_drew)); exact (Kd.R_mono (Kd.R_far (p := ⟨gb267, 0, none⟩) (Kd.R_types HO265.out BK267.out (by decide)) (fun _ hk => hk.2) (.slice Ao118 t263.length co118)) (fun _ h_ => h_.1)))); (case side2 => exact (Kd.R_reads' HO265.out).2.1); (case side3 => refine (Kd.R_reads' (e := 58) (base := w.heap.size) (ok := fun k_ => (((some k_ ≠ (.slice Ao26 t255.length co26 : Value).ownBlock ∧ some k_ ≠ (.slice Ao32 t244.length co32 : Value).ownBlock) ∧ some k_ ≠ (.slice Ao115 t260.length co115 : Value).ownBlock) ∧ some k_ ≠ (.slice Ao118 t263.length co118 : Value).ownBlock)) (n := t235.length) (c := co20) ?_).2.2; exact (by (with_reducible repeat (first | apply Kd.R_alloc | apply Kd.R_drewN | apply Kd.R_drew)); exact (Kd.R_mono (Kd.R_far (p := ⟨gb267, 0, none⟩) (Kd.R_types HO_240000.out BK267.out (by decide)) (fun _ hk => hk.2) (.slice Ao118 t263.length co118)) (fun _ h_ => h_.1)))); (case side4 => exact (Kd.R_reads' HO_240000.out).2.1); rintro e w135 ⟨rfl, hb⟩; refine ⟨_, rfl, ?_⟩; have n0_ := Aside0.mk (Kd.R_below (by (with_reducible repeat (first | apply Kd.R_alloc | apply Kd.R_drewN | apply Kd.R_drew)); exact (Kd.R_mono (Kd.R_far (p := ⟨gb267, 0, none⟩) (Kd.R_types HO_240000.out BK267.out (by decide)) (fun _ hk => hk.2) (.slice Ao118 t263.length co118)) (fun _ h_ => h_.1))) hb); have n1_ := Aside0.mk (Kd.R_below (by (with_reducible repeat (first | apply Kd.R_alloc | apply Kd.R_drewN | apply Kd.R_drew)); exact (Kd.R_mono (Kd.R_far (p := ⟨gb267, 0, none⟩) (Kd.R_types HO_244000.out BK267.out (by decide)) (fun _ hk => hk.2) (.slice Ao118 t263.length co118)) (fun _ h_ => h_.1))) hb); have n2_ := Aside0.mk (Kd.R_below (by (with_reducible repeat (first | apply Kd.R_alloc | apply Kd.R_drewN | apply Kd.R_drew)); exact (Kd.R_mono (Kd.R_far (p := ⟨gb267, 0, none⟩) (Kd.R_types HO_249000.out BK267.out (by decide)) (fun _ hk => hk.2) (.slice Ao118 t263.length co118)) (fun _ h_ => h_.1))) hb); have n3_ := Aside0.mk (Kd.R_below (by (with_reducible repeat (first | apply Kd.R_alloc | apply Kd.R_drewN | apply Kd.R_drew)); exact (Kd.R_mono (Kd.R_far (p := ⟨gb267, 0, none⟩) (Kd.R_types HO262.out BK267.out (by decide)) (fun _ hk => hk.2) (.slice Ao118 t263.length co118)) (fun _ h_ => h_.1))) hb); have n4_ := Aside0.mk (Kd.R_below (by (with_reducible repeat (first | apply Kd.R_alloc | apply Kd.R_drewN | apply Kd.R_drew)); exact (Kd.R_mono (Kd.R_far (p := ⟨gb267, 0, none⟩) (Kd.R_types HO265.out BK267.out (by decide)) (fun _ hk => hk.2) (.slice Ao118 t263.length co118)) (fun _ h_ => h_.1))) hb); have n5_ := Aside0.mk (blk_below (g := gb230) (o := .cells #[.slice A0_0 l0_0.length c0_0] 24 (0, 0)) (by (with_reducible repeat (first | refine blk_drewN ?_ _ | refine blk_drew ?_ | refine blk_alloc ?_ _)); refine blk_far ?_ NB230_267.out _; (with_reducible repeat (first | refine blk_drewN ?_ _ | refine blk_drew ?_ | refine blk_alloc ?_ _)); exact BK230.out) hb); have n6_ := Aside0.mk (blk_below (g := gb239) (o := .cells #[.slice Ao20 t235.length co20] 29 (0, 0)) (by (with_reducible repeat (first | refine blk_drewN ?_ _ | refine blk_drew ?_ | refine blk_alloc ?_ _)); refine blk_far ?_ NB239_267.out _; (with_reducible repeat (first | refine blk_drewN ?_ _ | refine blk_drew ?_ | refine blk_alloc ?_ _)); exact BK239.out) hb); have n7_ := Aside0.mk (blk_below (g := gb243) (o := .cells #[.slice Ao26 t255.length co26] 29 (0, 0)) (by (with_reducible repeat (first | refine blk_drewN ?_ _ | refine blk_drew ?_ | refine blk_alloc ?_ _)); refine blk_far ?_ NB243_267.out _; (with_reducible repeat (first | refine blk_drewN ?_ _ | refine blk_drew ?_ | refine blk_alloc ?_ _)); exact BK243.out) hb); have n8_ := Aside0.mk (blk_below (g := gb248) (o := .cells #[.slice Ao32 t244.length co32] 29 (0, 0)) (by (with_reducible repeat (first | refine blk_drewN ?_ _ | refine blk_drew ?_ | refine blk_alloc ?_ _)); refine blk_far ?_ NB248_267.out _; (with_reducible repeat (first | refine blk_drewN ?_ _ | refine blk_drew ?_ | refine blk_alloc ?_ _)); exact BK248.out) hb); have n9_ := Aside0.mk (blk_below (g := gb267) (o := .cells #[.slice Ao118 t263.length co118] 29 (0, 0)) (by (with_reducible repeat (first | refine blk_drewN ?_ _ | refine blk_drew ?_ | refine blk_alloc ?_ _)); refine blk_put (cs := #[.slice none 0 0]) ?_ 0 _ rfl; (with_reducible repeat (first | refine blk_drewN ?_ _ | refine blk_drew ?_ | refine blk_alloc ?_ _)); exact BK267.out) hb); have n10_ := Aside0.mk (below_step (by repeat (first | (with_reducible first | exact HB.out | apply below_alloc | apply pw_below_drewN | apply below_drew1 | refine below_set ?_ GE230.out | refine below_set ?_ GE239.out | refine below_set ?_ GE243.out | refine below_set ?_ GE248.out | refine below_set ?_ GE267.out) | exact HB.out)) hb); clear HO_240000; clear HO_244000; clear HO_249000; clear HO262; clear HO265; clear BK230; clear BK239; clear BK243; clear BK248; clear BK267; clear HB; have HO_240000 := n0_; have HO_244000 := n1_; have HO_249000 := n2_; have HO262 := n3_; have HO265 := n4_; have BK230 := n5_; have BK239 := n6_; have BK243 := n7_; have BK248 := n8_; have BK267 := n9_; have HB := n10_; clear n0_ n1_ n2_ n3_ n4_ n5_ n6_ n7_ n8_ n9_ n10_; (try clear hb); (try clear hb2); (try clear hk); (try clear hi)))
             go_meet
             case rel => exact ⟨_, ((t266 != t238)), z1, H', ⟨by have := HJ10.out; have := HJ59.out; first | omega | exact Nat.le_refl _⟩, ⟨by (try simp only [hl244000_59]); (with_reducible repeat (first | apply Kd.R_alloc | apply Kd.R_drewN | apply Kd.R_drew)); exact Kd.R_mono HO_240000.out (fun _ hk => ⟨hk.1.1.1, ⟨hk.1.1.2, hk.2⟩⟩)⟩, ⟨by (try simp only [hl244000_59]); (with_reducible repeat (first | apply Kd.R_alloc | apply Kd.R_drewN | apply Kd.R_drew)); exact Kd.R_mono HO_244000.out (fun _ hk => ⟨hk.1.1.1, ⟨hk.1.1.2, hk.2⟩⟩)⟩, ⟨by (try simp only [hl244000_59]); (with_reducible repeat (first | apply Kd.R_alloc | apply Kd.R_drewN | apply Kd.R_drew)); exact Kd.R_mono HO_249000.out (fun _ hk => ⟨hk.1.1.1, ⟨hk.1.1.2, hk.2⟩⟩)⟩, ⟨by (try simp only [hl244000_59]); (with_reducible repeat (first | apply Kd.R_alloc | apply Kd.R_drewN | apply Kd.R_drew)); exact Kd.R_mono HO265.out (fun _ hk => ⟨hk.1.1.1.2, ⟨hk.1.1.2, hk.1.2⟩⟩)⟩, ⟨by (try simp only [hl244000_59]); (with_reducible repeat (first | refine blk_drewN ?_ _ | refine blk_drew ?_ | refine blk_alloc ?_ _)); exact BK230.out⟩, ⟨by (try simp only [hl244000_59]); (with_reducible repeat (first | refine blk_drewN ?_ _ | refine blk_drew ?_ | refine blk_alloc ?_ _)); exact BK239.out⟩, ⟨by (try simp only [hl244000_59]); (with_reducible repeat (first | refine blk_drewN ?_ _ | refine blk_drew ?_ | refine blk_alloc ?_ _)); exact BK243.out⟩, ⟨by (try simp only [hl244000_59]); (with_reducible repeat (first | refine blk_drewN ?_ _ | refine blk_drew ?_ | refine blk_alloc ?_ _)); exact BK248.out⟩, ⟨by (try simp only [hl244000_59]); (with_reducible repeat (first | refine blk_drewN ?_ _ | refine blk_drew ?_ | refine blk_alloc ?_ _)); exact BK267.out⟩, ⟨by repeat (first | (with_reducible first | exact HB.out | apply below_alloc | apply pw_below_drewN | apply below_drew1 | refine below_set ?_ GE230.out | refine below_set ?_ GE239.out | refine below_set ?_ GE243.out | refine below_set ?_ GE248.out | refine below_set ?_ GE267.out) | exact HB.out)⟩⟩
            ·replace c125 := Bool.eq_false_iff.mpr c125
             subst c125
             rw [if_neg (show ¬ (false = true) by decide)] at H
             have H' := Aside0.mk H
             clear H
             have hnb136 := NB267_230.out
             have hnc136 := NB230_267.out
             have hnb137 := NB267_239.out
             have hnc137 := NB239_267.out
             have hnb138 := NB267_243.out
             have hnc138 := NB243_267.out
             have hnb139 := NB267_248.out
             have hnc139 := NB248_267.out
             have hcz140_0 : w117.cell? ⟨gb267, 0, none⟩ = some (.slice none 0 0) := (blk_cell BK267.out 0).trans rfl
             have hfz140_0 := blk_frozen BK267.out 0
             have hnb141 := NB239_230.out
             have hnc141 := NB230_239.out
             have hnb142 := NB239_243.out
             have hnc142 := NB243_239.out
             have hnb143 := NB239_248.out
             have hnc143 := NB248_239.out
             have hcz144_0 : w117.cell? ⟨gb239, 0, none⟩ = some (.slice Ao20 t235.length co20) := (blk_cell BK239.out 0).trans rfl
             have hfz144_0 := blk_frozen BK239.out 0
             go_wp2_with (first | ((with_reducible refine gate_callee (f := 18) rfl ?_); refine goesL_ (some 81) rfl rfl Try.func18 z0 rfl #[.agg #[.slice Ao118 t263.length co118], .agg #[.slice Ao20 t235.length co20]] rfl z13 ?_; (with_reducible refine (laws_eqRope.calls kj59 _ _ t263 _ _ t235 false _ ?side1 ?side2 ?side3 ?side4 A124.out).mono ?_); (case side1 => refine (Kd.R_reads' (e := 58) (base := w.heap.size) (ok := fun k_ => ((((True ∧ some k_ ≠ (.slice Ao20 t235.length co20 : Value).ownBlock) ∧ some k_ ≠ (.slice Ao26 t255.length co26 : Value).ownBlock) ∧ some k_ ≠ (.slice Ao32 t244.length co32 : Value).ownBlock) ∧ some k_ ≠ (.slice Ao115 t260.length co115 : Value).ownBlock)) (n := t263.length) (c := co118) ?_).2.2; exact (by (with_reducible repeat (first | apply Kd.R_alloc | apply Kd.R_drewN | apply Kd.R_drew)); exact (Kd.R_mono (Kd.R_far (p := ⟨gb267, 0, none⟩) (Kd.R_types HO265.out BK267.out (by decide)) (fun _ hk => hk.2) (.slice Ao118 t263.length co118)) (fun _ h_ => h_.1)))); (case side2 => exact (Kd.R_reads' HO265.out).2.1); (case side3 => refine (Kd.R_reads' (e := 58) (base := w.heap.size) (ok := fun k_ => (((some k_ ≠ (.slice Ao26 t255.length co26 : Value).ownBlock ∧ some k_ ≠ (.slice Ao32 t244.length co32 : Value).ownBlock) ∧ some k_ ≠ (.slice Ao115 t260.length co115 : Value).ownBlock) ∧ some k_ ≠ (.slice Ao118 t263.length co118 : Value).ownBlock)) (n := t235.length) (c := co20) ?_).2.2; exact (by (with_reducible repeat (first | apply Kd.R_alloc | apply Kd.R_drewN | apply Kd.R_drew)); exact (Kd.R_mono (Kd.R_far (p := ⟨gb267, 0, none⟩) (Kd.R_types HO_240000.out BK267.out (by decide)) (fun _ hk => hk.2) (.slice Ao118 t263.length co118)) (fun _ h_ => h_.1)))); (case side4 => exact (Kd.R_reads' HO_240000.out).2.1); rintro e w145 ⟨rfl, hb⟩; refine ⟨_, rfl, ?_⟩; have n0_ := Aside0.mk (Kd.R_below (by (with_reducible repeat (first | apply Kd.R_alloc | apply Kd.R_drewN | apply Kd.R_drew)); exact (Kd.R_mono (Kd.R_far (p := ⟨gb267, 0, none⟩) (Kd.R_types HO_240000.out BK267.out (by decide)) (fun _ hk => hk.2) (.slice Ao118 t263.length co118)) (fun _ h_ => h_.1))) hb); have n1_ := Aside0.mk (Kd.R_below (by (with_reducible repeat (first | apply Kd.R_alloc | apply Kd.R_drewN | apply Kd.R_drew)); exact (Kd.R_mono (Kd.R_far (p := ⟨gb267, 0, none⟩) (Kd.R_types HO_244000.out BK267.out (by decide)) (fun _ hk => hk.2) (.slice Ao118 t263.length co118)) (fun _ h_ => h_.1))) hb); have n2_ := Aside0.mk (Kd.R_below (by (with_reducible repeat (first | apply Kd.R_alloc | apply Kd.R_drewN | apply Kd.R_drew)); exact (Kd.R_mono (Kd.R_far (p := ⟨gb267, 0, none⟩) (Kd.R_types HO_249000.out BK267.out (by decide)) (fun _ hk => hk.2) (.slice Ao118 t263.length co118)) (fun _ h_ => h_.1))) hb); have n3_ := Aside0.mk (Kd.R_below (by (with_reducible repeat (first | apply Kd.R_alloc | apply Kd.R_drewN | apply Kd.R_drew)); exact (Kd.R_mono (Kd.R_far (p := ⟨gb267, 0, none⟩) (Kd.R_types HO262.out BK267.out (by decide)) (fun _ hk => hk.2) (.slice Ao118 t263.length co118)) (fun _ h_ => h_.1))) hb); have n4_ := Aside0.mk (Kd.R_below (by (with_reducible repeat (first | apply Kd.R_alloc | apply Kd.R_drewN | apply Kd.R_drew)); exact (Kd.R_mono (Kd.R_far (p := ⟨gb267, 0, none⟩) (Kd.R_types HO265.out BK267.out (by decide)) (fun _ hk => hk.2) (.slice Ao118 t263.length co118)) (fun _ h_ => h_.1))) hb); have n5_ := Aside0.mk (blk_below (g := gb230) (o := .cells #[.slice A0_0 l0_0.length c0_0] 24 (0, 0)) (by (with_reducible repeat (first | refine blk_drewN ?_ _ | refine blk_drew ?_ | refine blk_alloc ?_ _)); refine blk_far ?_ NB230_267.out _; (with_reducible repeat (first | refine blk_drewN ?_ _ | refine blk_drew ?_ | refine blk_alloc ?_ _)); exact BK230.out) hb); have n6_ := Aside0.mk (blk_below (g := gb239) (o := .cells #[.slice Ao20 t235.length co20] 29 (0, 0)) (by (with_reducible repeat (first | refine blk_drewN ?_ _ | refine blk_drew ?_ | refine blk_alloc ?_ _)); refine blk_far ?_ NB239_267.out _; (with_reducible repeat (first | refine blk_drewN ?_ _ | refine blk_drew ?_ | refine blk_alloc ?_ _)); exact BK239.out) hb); have n7_ := Aside0.mk (blk_below (g := gb243) (o := .cells #[.slice Ao26 t255.length co26] 29 (0, 0)) (by (with_reducible repeat (first | refine blk_drewN ?_ _ | refine blk_drew ?_ | refine blk_alloc ?_ _)); refine blk_far ?_ NB243_267.out _; (with_reducible repeat (first | refine blk_drewN ?_ _ | refine blk_drew ?_ | refine blk_alloc ?_ _)); exact BK243.out) hb); have n8_ := Aside0.mk (blk_below (g := gb248) (o := .cells #[.slice Ao32 t244.length co32] 29 (0, 0)) (by (with_reducible repeat (first | refine blk_drewN ?_ _ | refine blk_drew ?_ | refine blk_alloc ?_ _)); refine blk_far ?_ NB248_267.out _; (with_reducible repeat (first | refine blk_drewN ?_ _ | refine blk_drew ?_ | refine blk_alloc ?_ _)); exact BK248.out) hb); have n9_ := Aside0.mk (blk_below (g := gb267) (o := .cells #[.slice Ao118 t263.length co118] 29 (0, 0)) (by (with_reducible repeat (first | refine blk_drewN ?_ _ | refine blk_drew ?_ | refine blk_alloc ?_ _)); refine blk_put (cs := #[.slice none 0 0]) ?_ 0 _ rfl; (with_reducible repeat (first | refine blk_drewN ?_ _ | refine blk_drew ?_ | refine blk_alloc ?_ _)); exact BK267.out) hb); have n10_ := Aside0.mk (below_step (by repeat (first | (with_reducible first | exact HB.out | apply below_alloc | apply pw_below_drewN | apply below_drew1 | refine below_set ?_ GE230.out | refine below_set ?_ GE239.out | refine below_set ?_ GE243.out | refine below_set ?_ GE248.out | refine below_set ?_ GE267.out) | exact HB.out)) hb); clear HO_240000; clear HO_244000; clear HO_249000; clear HO262; clear HO265; clear BK230; clear BK239; clear BK243; clear BK248; clear BK267; clear HB; have HO_240000 := n0_; have HO_244000 := n1_; have HO_249000 := n2_; have HO262 := n3_; have HO265 := n4_; have BK230 := n5_; have BK239 := n6_; have BK243 := n7_; have BK248 := n8_; have BK267 := n9_; have HB := n10_; clear n0_ n1_ n2_ n3_ n4_ n5_ n6_ n7_ n8_ n9_ n10_; (try clear hb); (try clear hb2); (try clear hk); (try clear hi)))
             go_meet
             case rel => exact ⟨_, (true), z1, H', ⟨by have := HJ10.out; have := HJ59.out; first | omega | exact Nat.le_refl _⟩, ⟨by (try simp only [hl244000_59]); (with_reducible repeat (first | apply Kd.R_alloc | apply Kd.R_drewN | apply Kd.R_drew)); exact Kd.R_mono HO_240000.out (fun _ hk => ⟨hk.1.1.1, ⟨hk.1.1.2, hk.2⟩⟩)⟩, ⟨by (try simp only [hl244000_59]); (with_reducible repeat (first | apply Kd.R_alloc | apply Kd.R_drewN | apply Kd.R_drew)); exact Kd.R_mono HO_244000.out (fun _ hk => ⟨hk.1.1.1, ⟨hk.1.1.2, hk.2⟩⟩)⟩, ⟨by (try simp only [hl244000_59]); (with_reducible repeat (first | apply Kd.R_alloc | apply Kd.R_drewN | apply Kd.R_drew)); exact Kd.R_mono HO_249000.out (fun _ hk => ⟨hk.1.1.1, ⟨hk.1.1.2, hk.2⟩⟩)⟩, ⟨by (try simp only [hl244000_59]); (with_reducible repeat (first | apply Kd.R_alloc | apply Kd.R_drewN | apply Kd.R_drew)); exact Kd.R_mono HO265.out (fun _ hk => ⟨hk.1.1.1.2, ⟨hk.1.1.2, hk.1.2⟩⟩)⟩, ⟨by (try simp only [hl244000_59]); (with_reducible repeat (first | refine blk_drewN ?_ _ | refine blk_drew ?_ | refine blk_alloc ?_ _)); exact BK230.out⟩, ⟨by (try simp only [hl244000_59]); (with_reducible repeat (first | refine blk_drewN ?_ _ | refine blk_drew ?_ | refine blk_alloc ?_ _)); exact BK239.out⟩, ⟨by (try simp only [hl244000_59]); (with_reducible repeat (first | refine blk_drewN ?_ _ | refine blk_drew ?_ | refine blk_alloc ?_ _)); exact BK243.out⟩, ⟨by (try simp only [hl244000_59]); (with_reducible repeat (first | refine blk_drewN ?_ _ | refine blk_drew ?_ | refine blk_alloc ?_ _)); exact BK248.out⟩, ⟨by (try simp only [hl244000_59]); (with_reducible repeat (first | refine blk_drewN ?_ _ | refine blk_drew ?_ | refine blk_alloc ?_ _)); exact BK267.out⟩, ⟨by repeat (first | (with_reducible first | exact HB.out | apply below_alloc | apply pw_below_drewN | apply below_drew1 | refine below_set ?_ GE230.out | refine below_set ?_ GE239.out | refine below_set ?_ GE243.out | refine below_set ?_ GE248.out | refine below_set ?_ GE267.out) | exact HB.out)⟩⟩
           case rest =>
            clear HC103
            try clear c1
            try clear c2
            try clear p2
            try clear c3
            try clear c3b0
            try clear c4
            try clear c5
            try clear c6
            try clear c7
            try clear c8
            try clear c9
            try clear c10
            try clear c11
            try clear c12
            try clear c13
            try clear c14
            try clear c16
            try clear c18
            try clear c21
            try clear c27
            try clear c28
            try clear c33
            try clear c34
            try clear c35
            try clear c36
            try clear c37
            try clear c38
            try clear c39
            try clear c40
            try clear c41
            try clear c43
            try clear c44
            try clear c47
            try clear c48
            try clear c49
            try clear c51
            try clear c52
            try clear c55
            try clear c58
            try clear c65
            try clear c66
            try clear c67
            try clear c70
            try clear c70b0
            try clear c72
            try clear c73
            try clear c74
            try clear c75
            try clear c77
            try clear c78
            try clear c81
            try clear c82
            try clear c83
            try clear c85
            try clear c86
            try clear c89
            try clear c92
            try clear c92b0
            try clear c93
            try clear c94
            try clear c95
            try clear c100
            try clear c100b0
            try clear c100b1
            try clear c104
            try clear c105
            try clear c106
            try clear c111
            try clear c112
            try clear c119
            try clear c120
            try clear c121
            try clear c122
            try clear c125
            try clear c126
            try clear c127
            try clear c128
            try clear c129
            try clear c131
            try clear c132
            try clear c133
            try clear c136
            try clear c137
            try clear c138
            try clear c139
            try clear c141
            try clear c142
            try clear c143
            try clear hcz107_0
            try clear hcz109_0
            try clear hcz113_0
            try clear hcz123_0
            try clear hcz130_0
            try clear hcz134_0
            try clear hcz13_0
            try clear hcz140_0
            try clear hcz144_0
            try clear hcz15_0
            try clear hcz22_0
            try clear hcz23_0
            try clear hcz29_0
            try clear hcz36_0
            try clear hcz42_0
            try clear hcz45_0
            try clear hcz50_0
            try clear hcz53_0
            try clear hcz5_0
            try clear hcz68_0
            try clear hcz76_0
            try clear hcz79_0
            try clear hcz84_0
            try clear hcz87_0
            try clear hcz96_0
            try clear hcz98_0
            try clear hfz107_0
            try clear hfz109_0
            try clear hfz113_0
            try clear hfz123_0
            try clear hfz130_0
            try clear hfz134_0
            try clear hfz13_0
            try clear hfz140_0
            try clear hfz144_0
            try clear hfz15_0
            try clear hfz22_0
            try clear hfz23_0
            try clear hfz29_0
            try clear hfz36_0
            try clear hfz42_0
            try clear hfz45_0
            try clear hfz50_0
            try clear hfz53_0
            try clear hfz5_0
            try clear hfz68_0
            try clear hfz76_0
            try clear hfz79_0
            try clear hfz84_0
            try clear hfz87_0
            try clear hfz96_0
            try clear hfz98_0
            try clear p2
            obtain ⟨kq, x87_102, rfl, HA, HJ102, HO_240000, HO_244000, HO_249000, HO_268000, BK230, BK239, BK243, BK248, BK267, HB⟩ := hcut
            have hl249000_102 := (Kd.R_reads' HO_249000.out).1
            rw [hl249000_102] at HO_249000
            (try simp only [hl249000_102])
            (try simp only [hl249000_102] at BK230)
            (try simp only [hl249000_102] at BK239)
            (try simp only [hl249000_102] at BK243)
            (try simp only [hl249000_102] at BK248)
            (try simp only [hl249000_102] at BK267)
            (try simp only [hl249000_102] at HO_240000)
            (try simp only [hl249000_102] at HO_244000)
            (try simp only [hl249000_102] at HO_268000)
            cases kq with
            | zero => exact absurd HA.out (by simp [laws_FnExactRebalance.j2])
            | succ kj102 =>
             have H := HA.out
             clear HA
             simp only [laws_FnExactRebalance.j2] at H
             by_cases c146 : x87_102 = true
             ·subst c146
              rw [if_pos rfl] at H
              first | (cases H.trans (congrArg some HRT.out); done) | skip
              all_goals
               obtain rfl := Option.some.inj H
               go_wp2
               go_ret
               exact ⟨by first | rfl | (simp [errW_none, errW_some] <;> rfl) | (simp [*, errW_none, errW_some] <;> rfl), by repeat (first | (with_reducible first | exact HB.out | apply below_alloc | apply pw_below_drewN | apply below_drew1 | refine below_set ?_ GE230.out | refine below_set ?_ GE239.out | refine below_set ?_ GE243.out | refine below_set ?_ GE248.out | refine below_set ?_ GE267.out) | exact HB.out)⟩
             ·replace c146 := Bool.eq_false_iff.mpr c146
              subst c146
              rw [if_neg (show ¬ (false = true) by decide)] at H
              replace H := Option.bind_eq_some_iff.mp H
              obtain ⟨t269, A1470, H⟩ := H
              try dsimp only at H
              have A147 := Aside0.mk A1470
              clear A1470
              by_cases c148 : t269 < 0
              ·rw [if_pos c148] at H
               have c148b0 : decide (t269 < 0) = true := decide_eq_true c148
               clear c148
               first | (cases H.trans (congrArg some HRT.out); done) | skip
               all_goals
                obtain rfl := Option.some.inj H
                have hnb149 := NB248_230.out
                have hnc149 := NB230_248.out
                have hnb150 := NB248_239.out
                have hnc150 := NB239_248.out
                have hnb151 := NB248_243.out
                have hnc151 := NB243_248.out
                have hnb152 := NB248_267.out
                have hnc152 := NB267_248.out
                have hcz153_0 : wc.cell? ⟨gb248, 0, none⟩ = some (.slice Ao32 t258.length co32) := (blk_cell BK248.out 0).trans rfl
                have hfz153_0 := blk_frozen BK248.out 0
                go_wp2_with (first | ((with_reducible refine gate_callee (f := 28) rfl ?_); refine goesL_ (some 90) rfl rfl Try.func28 z0 rfl #[.agg #[.slice Ao32 t258.length co32], .int .i64 1] rfl z13 ?_; (with_reducible refine (laws_heldRope.calls kj102 _ _ t258 1 t269 _ ?side1 ?side2 A147.out).mono ?_); (case side1 => repeat (first | exact (Kd.R_reads' HO_249000.out).2.2 | (with_reducible refine Kd.C_alloc ?_ _) | (with_reducible refine Kd.C_drewN ?_ _) | (with_reducible refine Kd.C_drew ?_))); (case side2 => exact (Kd.R_reads' HO_249000.out).2.1); rintro e w154 ⟨rfl, hb⟩; refine ⟨_, rfl, ?_⟩; have n0_ := Aside0.mk (Kd.R_below z3 hb); have n1_ := Aside0.mk (Kd.R_below z4 hb); have n2_ := Aside0.mk (Kd.R_below z5 hb); have n3_ := Aside0.mk (Kd.R_below (by (with_reducible repeat (first | apply Kd.R_alloc | apply Kd.R_drewN | apply Kd.R_drew)); exact HO_268000.out) hb); have n4_ := Aside0.mk (blk_below (g := gb230) (o := .cells #[.slice A0_0 l0_0.length c0_0] 24 (0, 0)) z7 hb); have n5_ := Aside0.mk (blk_below (g := gb239) (o := .cells #[.slice Ao20 t235.length co20] 29 (0, 0)) z8 hb); have n6_ := Aside0.mk (blk_below (g := gb243) (o := .cells #[.slice Ao26 t255.length co26] 29 (0, 0)) z9 hb); have n7_ := Aside0.mk (blk_below (g := gb248) (o := .cells #[.slice Ao32 t258.length co32] 29 (0, 0)) z10 hb); have n8_ := Aside0.mk (blk_below (g := gb267) (o := .cells #[.slice Ao118 t263.length co118] 29 (0, 0)) (by (with_reducible repeat (first | refine blk_drewN ?_ _ | refine blk_drew ?_ | refine blk_alloc ?_ _)); exact BK267.out) hb); have n9_ := Aside0.mk (below_step (by repeat (first | (with_reducible first | exact HB.out | apply below_alloc | apply pw_below_drewN | apply below_drew1 | refine below_set ?_ GE230.out | refine below_set ?_ GE239.out | refine below_set ?_ GE243.out | refine below_set ?_ GE248.out | refine below_set ?_ GE267.out) | exact HB.out)) hb); clear HO_240000; clear HO_244000; clear HO_249000; clear HO_268000; clear BK230; clear BK239; clear BK243; clear BK248; clear BK267; clear HB; have HO_240000 := n0_; have HO_244000 := n1_; have HO_249000 := n2_; have HO_268000 := n3_; have BK230 := n4_; have BK239 := n5_; have BK243 := n6_; have BK248 := n7_; have BK267 := n8_; have HB := n9_; clear n0_ n1_ n2_ n3_ n4_ n5_ n6_ n7_ n8_ n9_; (try clear hb); (try clear hb2); (try clear hk); (try clear hi)))
                go_ret
                exact ⟨by first | rfl | (simp [errW_none, errW_some] <;> rfl) | (simp [*, errW_none, errW_some] <;> rfl), by repeat (first | (with_reducible first | exact HB.out | apply below_alloc | apply pw_below_drewN | apply below_drew1 | refine below_set ?_ GE230.out | refine below_set ?_ GE239.out | refine below_set ?_ GE243.out | refine below_set ?_ GE248.out | refine below_set ?_ GE267.out) | exact HB.out)⟩
              ·rw [if_neg c148] at H
               have c148b0 : decide (t269 < 0) = false := decide_eq_false c148
               clear c148
               by_cases c155 : t269 = t257
               ·rw [if_pos c155] at H
                have c155b0 : (t269 == t257) = true := beq_iff_eq.mpr c155
                have c155b1 : (t269 != t257) = false := bne_eq_false_iff_eq.mpr c155
                clear c155
                first | (cases H.trans (congrArg some HRT.out); done) | skip
                all_goals
                 obtain rfl := Option.some.inj H
                 have hnb156 := NB248_230.out
                 have hnc156 := NB230_248.out
                 have hnb157 := NB248_239.out
                 have hnc157 := NB239_248.out
                 have hnb158 := NB248_243.out
                 have hnc158 := NB243_248.out
                 have hnb159 := NB248_267.out
                 have hnc159 := NB267_248.out
                 have hcz160_0 : wc.cell? ⟨gb248, 0, none⟩ = some (.slice Ao32 t258.length co32) := (blk_cell BK248.out 0).trans rfl
                 have hfz160_0 := blk_frozen BK248.out 0
                 go_wp2_with (first | ((with_reducible refine gate_callee (f := 28) rfl ?_); refine goesL_ (some 90) rfl rfl Try.func28 z0 rfl #[.agg #[.slice Ao32 t258.length co32], .int .i64 1] rfl z13 ?_; (with_reducible refine (laws_heldRope.calls kj102 _ _ t258 1 t269 _ ?side1 ?side2 A147.out).mono ?_); (case side1 => repeat (first | exact (Kd.R_reads' HO_249000.out).2.2 | (with_reducible refine Kd.C_alloc ?_ _) | (with_reducible refine Kd.C_drewN ?_ _) | (with_reducible refine Kd.C_drew ?_))); (case side2 => exact (Kd.R_reads' HO_249000.out).2.1); rintro e w161 ⟨rfl, hb⟩; refine ⟨_, rfl, ?_⟩; have n0_ := Aside0.mk (Kd.R_below z3 hb); have n1_ := Aside0.mk (Kd.R_below z4 hb); have n2_ := Aside0.mk (Kd.R_below z5 hb); have n3_ := Aside0.mk (Kd.R_below (by (with_reducible repeat (first | apply Kd.R_alloc | apply Kd.R_drewN | apply Kd.R_drew)); exact HO_268000.out) hb); have n4_ := Aside0.mk (blk_below (g := gb230) (o := .cells #[.slice A0_0 l0_0.length c0_0] 24 (0, 0)) z7 hb); have n5_ := Aside0.mk (blk_below (g := gb239) (o := .cells #[.slice Ao20 t235.length co20] 29 (0, 0)) z8 hb); have n6_ := Aside0.mk (blk_below (g := gb243) (o := .cells #[.slice Ao26 t255.length co26] 29 (0, 0)) z9 hb); have n7_ := Aside0.mk (blk_below (g := gb248) (o := .cells #[.slice Ao32 t258.length co32] 29 (0, 0)) z10 hb); have n8_ := Aside0.mk (blk_below (g := gb267) (o := .cells #[.slice Ao118 t263.length co118] 29 (0, 0)) (by (with_reducible repeat (first | refine blk_drewN ?_ _ | refine blk_drew ?_ | refine blk_alloc ?_ _)); exact BK267.out) hb); have n9_ := Aside0.mk (below_step (by repeat (first | (with_reducible first | exact HB.out | apply below_alloc | apply pw_below_drewN | apply below_drew1 | refine below_set ?_ GE230.out | refine below_set ?_ GE239.out | refine below_set ?_ GE243.out | refine below_set ?_ GE248.out | refine below_set ?_ GE267.out) | exact HB.out)) hb); clear HO_240000; clear HO_244000; clear HO_249000; clear HO_268000; clear BK230; clear BK239; clear BK243; clear BK248; clear BK267; clear HB; have HO_240000 := n0_; have HO_244000 := n1_; have HO_249000 := n2_; have HO_268000 := n3_; have BK230 := n4_; have BK239 := n5_; have BK243 := n6_; have BK248 := n7_; have BK267 := n8_; have HB := n9_; clear n0_ n1_ n2_ n3_ n4_ n5_ n6_ n7_ n8_ n9_; (try clear hb); (try clear hb2); (try clear hk); (try clear hi)))
                 go_ret
                 exact ⟨by first | rfl | (simp [errW_none, errW_some] <;> rfl) | (simp [*, errW_none, errW_some] <;> rfl), by repeat (first | (with_reducible first | exact HB.out | apply below_alloc | apply pw_below_drewN | apply below_drew1 | refine below_set ?_ GE230.out | refine below_set ?_ GE239.out | refine below_set ?_ GE243.out | refine below_set ?_ GE248.out | refine below_set ?_ GE267.out) | exact HB.out)⟩
               ·rw [if_neg c155] at H
                have c155b0 : (t269 == t257) = false := beq_eq_false_iff_ne.mpr c155
                have c155b1 : (t269 != t257) = true := bne_iff_ne.mpr c155
                first | (cases H.trans (congrArg some HRT.out); done) | skip
                all_goals
                 obtain rfl := Option.some.inj H
                 have hnb162 := NB248_230.out
                 have hnc162 := NB230_248.out
                 have hnb163 := NB248_239.out
                 have hnc163 := NB239_248.out
                 have hnb164 := NB248_243.out
                 have hnc164 := NB243_248.out
                 have hnb165 := NB248_267.out
                 have hnc165 := NB267_248.out
                 have hcz166_0 : wc.cell? ⟨gb248, 0, none⟩ = some (.slice Ao32 t258.length co32) := (blk_cell BK248.out 0).trans rfl
                 have hfz166_0 := blk_frozen BK248.out 0
                 go_wp2_with (first | ((with_reducible refine gate_callee (f := 28) rfl ?_); refine goesL_ (some 90) rfl rfl Try.func28 z0 rfl #[.agg #[.slice Ao32 t258.length co32], .int .i64 1] rfl z13 ?_; (with_reducible refine (laws_heldRope.calls kj102 _ _ t258 1 t269 _ ?side1 ?side2 A147.out).mono ?_); (case side1 => repeat (first | exact (Kd.R_reads' HO_249000.out).2.2 | (with_reducible refine Kd.C_alloc ?_ _) | (with_reducible refine Kd.C_drewN ?_ _) | (with_reducible refine Kd.C_drew ?_))); (case side2 => exact (Kd.R_reads' HO_249000.out).2.1); rintro e w167 ⟨rfl, hb⟩; refine ⟨_, rfl, ?_⟩; have n0_ := Aside0.mk (Kd.R_below z3 hb); have n1_ := Aside0.mk (Kd.R_below z4 hb); have n2_ := Aside0.mk (Kd.R_below z5 hb); have n3_ := Aside0.mk (Kd.R_below (by (with_reducible repeat (first | apply Kd.R_alloc | apply Kd.R_drewN | apply Kd.R_drew)); exact HO_268000.out) hb); have n4_ := Aside0.mk (blk_below (g := gb230) (o := .cells #[.slice A0_0 l0_0.length c0_0] 24 (0, 0)) z7 hb); have n5_ := Aside0.mk (blk_below (g := gb239) (o := .cells #[.slice Ao20 t235.length co20] 29 (0, 0)) z8 hb); have n6_ := Aside0.mk (blk_below (g := gb243) (o := .cells #[.slice Ao26 t255.length co26] 29 (0, 0)) z9 hb); have n7_ := Aside0.mk (blk_below (g := gb248) (o := .cells #[.slice Ao32 t258.length co32] 29 (0, 0)) z10 hb); have n8_ := Aside0.mk (blk_below (g := gb267) (o := .cells #[.slice Ao118 t263.length co118] 29 (0, 0)) (by (with_reducible repeat (first | refine blk_drewN ?_ _ | refine blk_drew ?_ | refine blk_alloc ?_ _)); exact BK267.out) hb); have n9_ := Aside0.mk (below_step (by repeat (first | (with_reducible first | exact HB.out | apply below_alloc | apply pw_below_drewN | apply below_drew1 | refine below_set ?_ GE230.out | refine below_set ?_ GE239.out | refine below_set ?_ GE243.out | refine below_set ?_ GE248.out | refine below_set ?_ GE267.out) | exact HB.out)) hb); clear HO_240000; clear HO_244000; clear HO_249000; clear HO_268000; clear BK230; clear BK239; clear BK243; clear BK248; clear BK267; clear HB; have HO_240000 := n0_; have HO_244000 := n1_; have HO_249000 := n2_; have HO_268000 := n3_; have BK230 := n4_; have BK239 := n5_; have BK243 := n6_; have BK248 := n7_; have BK267 := n8_; have HB := n9_; clear n0_ n1_ n2_ n3_ n4_ n5_ n6_ n7_ n8_ n9_; (try clear hb); (try clear hb2); (try clear hk); (try clear hi)))
                 go_ret
                 exact ⟨by first | rfl | (simp [errW_none, errW_some] <;> rfl) | (simp [*, errW_none, errW_some] <;> rfl), by repeat (first | (with_reducible first | exact HB.out | apply below_alloc | apply pw_below_drewN | apply below_drew1 | refine below_set ?_ GE230.out | refine below_set ?_ GE239.out | refine below_set ?_ GE243.out | refine below_set ?_ GE248.out | refine below_set ?_ GE267.out) | exact HB.out)⟩
          ·rw [if_neg c100] at H
           have c100b0 : (t259 == t257) = false := beq_eq_false_iff_ne.mpr c100
           have c100b1 : (t259 != t257) = true := bne_iff_ne.mpr c100
           first | (cases H.trans (congrArg some HRT.out); done) | skip
           all_goals
            obtain rfl := Option.some.inj H
            have hnb168 := NB248_230.out
            have hnc168 := NB230_248.out
            have hnb169 := NB248_239.out
            have hnc169 := NB239_248.out
            have hnb170 := NB248_243.out
            have hnc170 := NB243_248.out
            have hcz171_0 : wc.cell? ⟨gb248, 0, none⟩ = some (.slice Ao32 t244.length co32) := (blk_cell BK248.out 0).trans rfl
            have hfz171_0 := blk_frozen BK248.out 0
            go_wp2_with (first | ((with_reducible refine gate_callee (f := 27) rfl ?_); refine goesL_ (some 64) rfl rfl Try.func27 z0 rfl #[.agg #[.slice Ao32 t244.length co32], .int .i64 1] rfl z13 ?_; (with_reducible refine (laws_markRope.calls kj59 (fun k_ => some k_ = (.slice Ao32 t244.length co32 : Value).ownBlock) (.slice Ao32 t244.length co32) t244 1 t257 t258 w _ ?side1 ?side2 A90.out).mono ?_); (case side1 => repeat (first | (with_reducible first | exact HB.out | apply below_alloc | apply pw_below_drewN | apply below_drew1 | refine below_set ?_ GE230.out | refine below_set ?_ GE239.out | refine below_set ?_ GE243.out | refine below_set ?_ GE248.out) | exact HB.out)); (case side2 => exact Kd.R_tight rfl HO_249000.out); rintro e w172 ⟨rfl, hy0, hb, hkp⟩; refine ⟨_, rfl, ?_⟩; have n0_ := Aside0.mk (Kd.R_mono (ok' := fun k_ => some k_ ≠ (.slice Ao26 t255.length co26 : Value).ownBlock ∧ some k_ ≠ (.slice Ao32 t244.length co32 : Value).ownBlock) (Kd.R_keptB (HO_240000.out) hkp (fun k_ hk_ hs_ => (hk_.2) hs_)) (fun k_ hk_ => ⟨hk_.1.1, hk_.1.2⟩)); have n1_ := Aside0.mk (Kd.R_mono (ok' := fun k_ => some k_ ≠ (.slice Ao20 t235.length co20 : Value).ownBlock ∧ some k_ ≠ (.slice Ao32 t244.length co32 : Value).ownBlock) (Kd.R_keptB (HO_244000.out) hkp (fun k_ hk_ hs_ => (hk_.2) hs_)) (fun k_ hk_ => ⟨hk_.1.1, hk_.1.2⟩)); have n2_ := Aside0.mk (Kd.R_reok rfl hy0 (fun k_ e_ => HO_249000.out.1 k_ e_)); have n3_ := Aside0.mk (blk_kept z7 hkp (fun hs_ => (fun e_ => (Kd.R_ne HO_249000.out BK230.out (by decide)) e_) hs_)); have n4_ := Aside0.mk (blk_kept z8 hkp (fun hs_ => (fun e_ => (Kd.R_ne HO_249000.out BK239.out (by decide)) e_) hs_)); have n5_ := Aside0.mk (blk_kept z9 hkp (fun hs_ => (fun e_ => (Kd.R_ne HO_249000.out BK243.out (by decide)) e_) hs_)); have n6_ := Aside0.mk (blk_kept z10 hkp (fun hs_ => (fun e_ => (Kd.R_ne HO_249000.out BK248.out (by decide)) e_) hs_)); have n7_ := Aside0.mk (hb); clear HO_240000; clear HO_244000; clear HO_249000; clear BK230; clear BK239; clear BK243; clear BK248; clear HB; have HO_240000 := n0_; have HO_244000 := n1_; have HO_249000 := n2_; have BK230 := n3_; have BK239 := n4_; have BK243 := n5_; have BK248 := n6_; have HB := n7_; clear n0_ n1_ n2_ n3_ n4_ n5_ n6_ n7_; (try clear hb); (try clear hkp); (try clear hy0); have hcz173_0 : w172.cell? ⟨gb248, 0, none⟩ = some (.slice Ao32 t244.length co32) := (blk_cell BK248.out 0).trans rfl; have hfz173_0 := blk_frozen BK248.out 0) | ((with_reducible refine gate_callee (f := 28) rfl ?_); refine goesL_ (some 67) rfl rfl Try.func28 z0 rfl #[.agg #[.slice Ao32 t258.length co32], .int .i64 1] rfl (by (try simp only [List.map_toArray, List.map_cons, List.map_nil]); first | done | (rw [show t258.length = t244.length from (Kd.R_reads' HO_249000.out).1.symm] <;> rfl) | rfl | (simp only [List.length_drop, List.length_take]; rfl)) ?_; (with_reducible refine (laws_heldRope.calls kj59 _ _ t258 1 t259 _ ?side1 ?side2 A91.out).mono ?_); (case side1 => repeat (first | exact (Kd.R_reads' HO_249000.out).2.2 | (with_reducible refine Kd.C_alloc ?_ _) | (with_reducible refine Kd.C_drewN ?_ _) | (with_reducible refine Kd.C_drew ?_))); (case side2 => rw [show t258.length = t244.length from (Kd.R_reads' HO_249000.out).1.symm]; exact (Kd.R_reads' HO_249000.out).2.1); rintro e w174 ⟨rfl, hb⟩; refine ⟨_, rfl, ?_⟩; have n0_ := Aside0.mk (Kd.R_below z3 hb); have n1_ := Aside0.mk (Kd.R_below z4 hb); have n2_ := Aside0.mk (Kd.R_below z5 hb); have n3_ := Aside0.mk (blk_below (g := gb230) (o := .cells #[.slice A0_0 l0_0.length c0_0] 24 (0, 0)) z7 hb); have n4_ := Aside0.mk (blk_below (g := gb239) (o := .cells #[.slice Ao20 t235.length co20] 29 (0, 0)) z8 hb); have n5_ := Aside0.mk (blk_below (g := gb243) (o := .cells #[.slice Ao26 t255.length co26] 29 (0, 0)) z9 hb); have n6_ := Aside0.mk (blk_below (g := gb248) (o := .cells #[.slice Ao32 t244.length co32] 29 (0, 0)) z10 hb); have n7_ := Aside0.mk (below_step z15 hb); clear HO_240000; clear HO_244000; clear HO_249000; clear BK230; clear BK239; clear BK243; clear BK248; clear HB; have HO_240000 := n0_; have HO_244000 := n1_; have HO_249000 := n2_; have BK230 := n3_; have BK239 := n4_; have BK243 := n5_; have BK248 := n6_; have HB := n7_; clear n0_ n1_ n2_ n3_ n4_ n5_ n6_ n7_; (try clear hb); (try clear hb2); (try clear hk); (try clear hi)))
            go_ret
            exact ⟨by first | rfl | (simp [errW_none, errW_some] <;> rfl) | (simp [*, errW_none, errW_some] <;> rfl), by repeat (first | (with_reducible first | exact HB.out | apply below_alloc | apply pw_below_drewN | apply below_drew1 | refine below_set ?_ GE230.out | refine below_set ?_ GE239.out | refine below_set ?_ GE243.out | refine below_set ?_ GE248.out) | exact HB.out)⟩
     ·replace c58 := Bool.eq_false_iff.mpr c58
      subst c58
      rw [if_neg (show ¬ (false = true) by decide)] at H
      first | (cases H.trans (congrArg some HRT.out); done) | skip
      all_goals
       obtain rfl := Option.some.inj H
       try go_wp2
       have n0_ := Aside0.mk (Kd.R_drew HO_240000.out)
       have n1_ := Aside0.mk (Kd.R_drew HO_244000.out)
       have n2_ := Aside0.mk (Kd.R_drew HO_249000.out)
       have n3_ := Aside0.mk (blk_drew BK230.out)
       have n4_ := Aside0.mk (blk_drew BK239.out)
       have n5_ := Aside0.mk (blk_drew BK243.out)
       have n6_ := Aside0.mk (blk_drew BK248.out)
       have n7_ := Aside0.mk (below_drew1 HB.out)
       clear HO_240000
       clear HO_244000
       clear HO_249000
       clear BK230
       clear BK239
       clear BK243
       clear BK248
       clear HB
       have HO_240000 := n0_
       have HO_244000 := n1_
       have HO_249000 := n2_
       have BK230 := n3_
       have BK239 := n4_
       have BK243 := n5_
       have BK248 := n6_
       have HB := n7_
       clear n0_ n1_ n2_ n3_ n4_ n5_ n6_ n7_
       refine start_ (n := 5) (S := fun w' => w'.cell? ⟨gb243, 0, none⟩ = some (.slice Ao26 t240.length co26) ∧ w'.cell? ⟨gb230, 0, none⟩ = some (.slice A0_0 l0_0.length c0_0)) (ds := []) #[false, false, false, false, false] z0 rfl rfl ⟨(blk_cell BK243.out 0).trans rfl, (blk_cell BK230.out 0).trans rfl⟩ (fun hHeld => ?_)
       generalize wc.drew = w175 at HO_240000 HO_244000 HO_249000 BK230 BK239 BK243 BK248 HB hHeld ⊢
       refine tA 0 41 ?_ (hy := by rintro w' ⟨s0, s1⟩; go_simp; with_reducible rfl)
       refine tA 1 42 ?_ (hy := by rintro w' ⟨s0, s1⟩; go_simp; with_reducible rfl)
       refine one_ (i := 2) (N := some 43) #[true, true, true, false, false] rfl rfl z0 (by decide) (fun K hK => ?_)
       refine goes_ Try.func16 z0 rfl #[.agg #[.slice A0_0 l0_0.length c0_0]] (by rfl) rfl rfl z13 ?_
       with_reducible refine (laws_toRope.calls kj10 _ _ l0_0 t250 _ ?side1 ?side2 A56.out).mono ?_
       (case side1 => repeat (first | exact (Kd.C_below HR0_0.out HB.out) | (with_reducible refine Kd.C_alloc ?_ _) | (with_reducible refine Kd.C_drewN ?_ _) | (with_reducible refine Kd.C_drew ?_)))
       (case side2 => exact HC0_0.out)
       rintro e w176 ⟨v251, rfl, ho0, hb⟩
       refine ⟨_, rfl, ?_⟩
       have n0_ := Aside0.mk (Kd.R_elder' z3 (Kd.R_base ho0) hb)
       have n1_ := Aside0.mk (Kd.R_elder' z4 (Kd.R_base ho0) hb)
       have n2_ := Aside0.mk (Kd.R_elder' z5 (Kd.R_base ho0) hb)
       have n3_ := Aside0.mk (Kd.R_lower (Kd.R_new' (Kd.R_new' (Kd.R_new' ho0 (Kd.R_lt z3)) (Kd.R_lt z4)) (Kd.R_lt z5)) (below_size z15))
       have n4_ := Aside0.mk (blk_below (g := gb230) (o := .cells #[.slice A0_0 l0_0.length c0_0] 24 (0, 0)) z7 hb)
       have n5_ := Aside0.mk (blk_below (g := gb239) (o := .cells #[.slice Ao20 t235.length co20] 29 (0, 0)) z8 hb)
       have n6_ := Aside0.mk (blk_below (g := gb243) (o := .cells #[.slice Ao26 t240.length co26] 29 (0, 0)) z9 hb)
       have n7_ := Aside0.mk (blk_below (g := gb248) (o := .cells #[.slice Ao32 t244.length co32] 29 (0, 0)) z10 hb)
       have n8_ := Aside0.mk (below_step z15 hb)
       clear HO_240000
       clear HO_244000
       clear HO_249000
       clear BK230
       clear BK239
       clear BK243
       clear BK248
       clear HB
       have HO_240000 := n0_
       have HO_244000 := n1_
       have HO_249000 := n2_
       have HO252 := n3_
       have BK230 := n4_
       have BK239 := n5_
       have BK243 := n6_
       have BK248 := n7_
       have HB := n8_
       clear n0_ n1_ n2_ n3_ n4_ n5_ n6_ n7_ n8_
       (try clear hb)
       (try clear hb2)
       (try clear hk)
       (try clear hi)
       (try clear ho0)
       obtain ⟨Ao177, co177, eo177⟩ := Kd.R_slice HO252.out
       (first | subst eo177 | (injection eo177 with f1_ f2_ f3_; have f4_ := f1_.symm; have f5_ := f3_.symm; clear f1_ f2_ f3_; subst f4_; subst f5_))
       refine hK.out _ _ ⟨(blk_cell BK243.out 0).trans rfl, (blk_cell BK230.out 0).trans rfl⟩ (fun hHeld => ?_)
       clear hK K
       refine norm_ (a' := ?_) ?_ ?_
       rotate_left
       ·show Act.put _ (some 43) _ = _
        simp only [Act.put, List.setIfInBounds_toArray, List.set_cons_zero, List.set_cons_succ, i64_w, i32_w]
        rfl
       refine one_ (i := 3) (N := some 44) #[true, true, true, true, false] rfl rfl z0 (by decide) (fun K hK => ?_)
       refine goes_ Try.func18 z0 rfl #[.agg #[.slice Ao26 t240.length co26], .agg #[.slice Ao177 t250.length co177]] (by rfl) rfl rfl z13 ?_
       with_reducible refine (laws_eqRope.calls kj10 _ _ t240 _ _ t250 false _ ?side1 ?side2 ?side3 ?side4 A57.out).mono ?_
       (case side1 => repeat (first | exact (Kd.R_reads' HO_244000.out).2.2 | (with_reducible refine Kd.C_alloc ?_ _) | (with_reducible refine Kd.C_drewN ?_ _) | (with_reducible refine Kd.C_drew ?_)))
       (case side2 => exact (Kd.R_reads' HO_244000.out).2.1)
       (case side3 => repeat (first | exact (Kd.R_reads' HO252.out).2.2 | (with_reducible refine Kd.C_alloc ?_ _) | (with_reducible refine Kd.C_drewN ?_ _) | (with_reducible refine Kd.C_drew ?_)))
       (case side4 => exact (Kd.R_reads' HO252.out).2.1)
       rintro e w178 ⟨rfl, hb⟩
       refine ⟨_, rfl, ?_⟩
       have n0_ := Aside0.mk (Kd.R_below z3 hb)
       have n1_ := Aside0.mk (Kd.R_below z4 hb)
       have n2_ := Aside0.mk (Kd.R_below z5 hb)
       have n3_ := Aside0.mk (Kd.R_below (by (with_reducible repeat (first | apply Kd.R_alloc | apply Kd.R_drewN | apply Kd.R_drew)); exact HO252.out) hb)
       have n4_ := Aside0.mk (blk_below (g := gb230) (o := .cells #[.slice A0_0 l0_0.length c0_0] 24 (0, 0)) z7 hb)
       have n5_ := Aside0.mk (blk_below (g := gb239) (o := .cells #[.slice Ao20 t235.length co20] 29 (0, 0)) z8 hb)
       have n6_ := Aside0.mk (blk_below (g := gb243) (o := .cells #[.slice Ao26 t240.length co26] 29 (0, 0)) z9 hb)
       have n7_ := Aside0.mk (blk_below (g := gb248) (o := .cells #[.slice Ao32 t244.length co32] 29 (0, 0)) z10 hb)
       have n8_ := Aside0.mk (below_step z15 hb)
       clear HO_240000
       clear HO_244000
       clear HO_249000
       clear HO252
       clear BK230
       clear BK239
       clear BK243
       clear BK248
       clear HB
       have HO_240000 := n0_
       have HO_244000 := n1_
       have HO_249000 := n2_
       have HO252 := n3_
       have BK230 := n4_
       have BK239 := n5_
       have BK243 := n6_
       have BK248 := n7_
       have HB := n8_
       clear n0_ n1_ n2_ n3_ n4_ n5_ n6_ n7_ n8_
       (try clear hb)
       (try clear hb2)
       (try clear hk)
       (try clear hi)
       refine hK.out _ _ ⟨(blk_cell BK243.out 0).trans rfl, (blk_cell BK230.out 0).trans rfl⟩ (fun hHeld => ?_)
       clear hK K
       refine norm_ (a' := ?_) ?_ ?_
       rotate_left
       ·show Act.put _ (some 44) _ = _
        simp only [Act.put, List.setIfInBounds_toArray, List.set_cons_zero, List.set_cons_succ, i64_w, i32_w]
        rfl
       refine pA 4 45 ?_
       refine done_ z0 ?_
       try go_wp2
       go_ret
       exact ⟨by first | rfl | (simp [errW_none, errW_some] <;> rfl) | (simp [*, errW_none, errW_some] <;> rfl), by repeat (first | (with_reducible first | exact HB.out | apply below_alloc | apply pw_below_drewN | apply below_drew1 | refine below_set ?_ GE230.out | refine below_set ?_ GE239.out | refine below_set ?_ GE243.out | refine below_set ?_ GE248.out) | exact HB.out)⟩

/-! ### What an argument's reading gives: a value of its kind -/
section
open Go.ChangeShapes Go.WideShapes Go.Deep
/-- A value of type t, as an argument's reading has it, is of kind d, and G if the argument's weights are within reach. -/
structure Opens (P : Program) (t : TypeId) {α : Type} (d : Kd α) (G : α → Prop) : Prop where
 out : ∀ {H : Type} {enc : TypeId × Value → H} {w : World} {base : Nat} {spare : Nat → Bool} {held : Bool} {fuel : Nat} {cs : List Value} {x : DataW H × List MemPlace},
  DataW.trod enc P w base spare held fuel t cs = some x → ∃ a, d.K w a cs ∧ ((x.1.weights P t).all (· ≤ reachBytes) = true → G a)
/-- The same for fields in line, from a cell on. -/
structure OpensL (P : Program) (fs : List Field) (off : Nat) {α : Type} (d : Kd α) (G : α → Prop) : Prop where
 out : ∀ {H : Type} {enc : TypeId × Value → H} {w : World} {base : Nat} {spare : Nat → Bool} {held : Bool} {n : Nat} {cs : List Value} {xs : List (DataW H × List MemPlace)},
  cs.length = off + d.sz → xs.length = fs.length → (∀ (i : Nat) (f : Field), fs[i]? = some f → DataW.trod enc P w base spare held n f.type ((cs.drop f.offset).take (P.cellsOf f.type)) = xs[i]?) →
  ∃ a, d.K w a (cs.drop off) ∧ ((DataW.weightsEach P (fs.map (·.type)) (xs.map (·.1))).all (· ≤ reachBytes) = true → G a)
theorem reach_eq : reachBytes = 140737488351232 := by first | rfl | decide
theorem opens_int {P : Program} {t : TypeId} {k : IntKind} (ht : P.underlying t = some (.int k)) : Opens P t (Kd.int k) (fun n => (Lit.int k n).wf = true) := by
 constructor
 intro H enc w base spare held fuel cs x h
 obtain ⟨n, rfl, rfl, hw⟩ := DataW.trod_int ht h
 exact ⟨n, rfl, fun _ => hw⟩
theorem opens_bool {P : Program} {t : TypeId} (ht : P.underlying t = some .bool) : Opens P t Kd.bool (fun _ => True) := by
 constructor
 intro H enc w base spare held fuel cs x h
 obtain ⟨n, rfl, _⟩ := DataW.trod_bool ht h
 exact ⟨n, rfl, fun _ => trivial⟩
theorem opens_string {P : Program} {t : TypeId} (ht : P.underlying t = some .string) : Opens P t Kd.string (fun s => s.size ≤ 140737488351232) := by
 constructor
 intro H enc w base spare held fuel cs x h
 obtain ⟨s, rfl, rfl, _⟩ := DataW.trod_string ht h
 refine ⟨s, rfl, fun hw => ?_⟩
 simp only [DataW.weights, List.all_cons, List.all_nil, Bool.and_true, decide_eq_true_eq, Array.length_toList] at hw
 rw [reach_eq] at hw
 exact hw
theorem weightsAll_mem {H : Type} {P : Program} {e : TypeId} : ∀ {ds : List (DataW H)} {d : DataW H}, d ∈ ds → (DataW.weightsAll P e ds).all (· ≤ reachBytes) = true → (d.weights P e).all (· ≤ reachBytes) = true
 | _ :: _, _, .head _, h => by
  simp only [DataW.weightsAll, List.all_append, Bool.and_eq_true] at h
  exact h.1
 | _ :: _, _, .tail _ hm, h => by
  simp only [DataW.weightsAll, List.all_append, Bool.and_eq_true] at h
  exact weightsAll_mem hm h.2
theorem opens_list {α : Type} (Q : Nat → α → Prop) (n : Nat) (h : ∀ i, i < n → ∃ a, Q i a) : ∃ l : List α, l.length = n ∧ ∀ i a, l[i]? = some a → Q i a := by
 induction n with
 | zero => exact ⟨[], rfl, fun i a hi => by simp at hi⟩
 | succ n ih =>
  obtain ⟨l, hl, hq⟩ := ih (fun i hi => h i (by omega))
  obtain ⟨a, ha⟩ := h n (by omega)
  refine ⟨l ++ [a], by simp [hl], fun i b hi => ?_⟩
  by_cases hin : i < n
  ·rw [List.getElem?_append_left (by omega)] at hi
   exact hq i b hi
  ·obtain ⟨hlt, _⟩ := List.getElem?_eq_some_iff.1 hi
   have e : i = l.length := by simp at hlt; omega
   subst e
   rw [List.getElem?_append_right (Nat.le_refl _)] at hi
   simp at hi
   subst hi
   rw [hl]
   exact ha
theorem opens_slice {P : Program} {t e : TypeId} {α : Type} {d : Kd α} {G : α → Prop} {B : Nat} (q : Nat) (ht : P.underlying t = some (.slice e)) (hc : P.cellsOf e = d.sz) (hB : P.bytesOf e = B) (he : Opens P e d G) :
  Opens P t (Kd.slice q d) (fun l => l.length ≤ maxLen ∧ l.length * B ≤ 140737488351232 ∧ ∀ x ∈ l, G x) := by
 constructor
 intro H enc w base spare held fuel cs x h
 rcases open_slice ht h with ⟨rfl, rfl⟩ | ⟨a, len, cap, m, n, D, Pl, rfl, hb, hl, hm, hmm, rfl, hi⟩
 ·exact ⟨[], ⟨none, 0, rfl, Nat.le_refl _, Kd.C_nil _ _⟩, fun _ => ⟨Nat.zero_le _, by simp, fun x hx => by simp at hx⟩⟩
 ·have hlm : len ≤ m := by rw [hmm]; split <;> omega
  obtain ⟨l, hll, hlq⟩ := opens_list (fun i a_ => ∃ cs', w.cells? base (a.add (i * P.cellsOf e)) (P.cellsOf e) = some cs' ∧ d.K w a_ cs' ∧ (((D i).weights P e).all (· ≤ reachBytes) = true → G a_)) len (fun i hil => by
   obtain ⟨cs', hc1, ht1⟩ := hi i (by omega)
   obtain ⟨a_, hk, hg⟩ := he.out ht1
   exact ⟨a_, cs', hc1, hk, hg⟩)
  refine ⟨l, ⟨some a, cap, by rw [hll], by omega, ⟨rfl, ?_, fun _ => ⟨a, rfl, fun j p hj => ?_⟩⟩⟩, fun hw => ?_⟩
  ·rw [hll]
   have hmx : maxLen ≤ 9223372036854775807 := by first | decide | (unfold maxLen; omega)
   omega
  ·obtain ⟨cs', hc1, hk, _⟩ := hlq j p hj
   obtain ⟨_, hcl, hat⟩ := World.cells?_some hc1
   refine ⟨cs', d.K_len hk, hk, fun i u hu => ?_⟩
   obtain ⟨hlt, _⟩ := List.getElem?_eq_some_iff.1 hu
   have := hat i (by omega)
   rw [← Go.Deep.add_add, ← hc, this, hu]
  ·simp only [DataW.weights, ht, List.all_cons, List.all_append, Bool.and_eq_true, decide_eq_true_eq, List.length_map, List.length_range] at hw
   obtain ⟨hw1, hw2, _⟩ := hw
   rw [reach_eq, hB] at hw1
   refine ⟨by omega, ?_, fun x hx => ?_⟩
   ·rw [hll]
    exact Nat.le_trans (Nat.mul_le_mul_right _ (by omega)) hw1
   ·obtain ⟨j, hj⟩ := List.getElem?_of_mem hx
    obtain ⟨cs', _, _, hg⟩ := hlq j x hj
    obtain ⟨hlt, _⟩ := List.getElem?_eq_some_iff.1 hj
    exact hg (weightsAll_mem (List.mem_map.2 ⟨j, List.mem_range.2 (by omega), rfl⟩) hw2)
theorem opensL_one {P : Program} {f : Field} {off : Nat} {α : Type} {d : Kd α} {G : α → Prop} (ho : f.offset = off) (hc : P.cellsOf f.type = d.sz) (h : Opens P f.type d G) : OpensL P [f] off d G := by
 constructor
 intro H enc w base spare held n cs xs hl hx hr
 match xs, hx with
 | [x], _ =>
  have h0 := hr 0 f rfl
  rw [ho, hc, List.take_of_length_le (by rw [List.length_drop]; omega)] at h0
  obtain ⟨a, hk, hg⟩ := h.out h0
  refine ⟨a, hk, fun hw => hg ?_⟩
  simpa [DataW.weightsEach] using hw
theorem opensL_cons {P : Program} {f : Field} {fs : List Field} {off : Nat} {α β : Type} {d : Kd α} {d' : Kd β} {G : α → Prop} {G' : β → Prop} (ho : f.offset = off) (hc : P.cellsOf f.type = d.sz) (h : Opens P f.type d G) (h' : OpensL P fs (off + d.sz) d' G') :
  OpensL P (f :: fs) off (Kd.pair d d') (fun p => G p.1 ∧ G' p.2) := by
 constructor
 intro H enc w base spare held n cs xs hl hx hr
 match xs, hx with
 | x :: xs, hx =>
  have hl' : cs.length = off + (d.sz + d'.sz) := hl
  have h0 := hr 0 f rfl
  rw [ho, hc] at h0
  obtain ⟨a, hk, hg⟩ := h.out h0
  obtain ⟨b, hk', hg'⟩ := h'.out (enc := enc) (w := w) (base := base) (spare := spare) (held := held) (n := n) (cs := cs) (xs := xs) (by omega) (by simpa using hx) (fun i g hi => by simpa using hr (i + 1) g (by simpa using hi))
  refine ⟨(a, b), ⟨_, _, ?_, hk, hk'⟩, fun hw => ?_⟩
  ·rw [← List.drop_drop, List.take_append_drop]
  ·simp only [List.map_cons, DataW.weightsEach, List.all_append, Bool.and_eq_true] at hw
   exact ⟨hg hw.1, hg' hw.2⟩
theorem opens_struct {P : Program} {t : TypeId} {fs : Array Field} {α : Type} {d : Kd α} {G : α → Prop} (ht : P.underlying t = some (.struct fs)) (hc : P.cellsOf t = d.sz) (h : OpensL P fs.toList 0 d G) : Opens P t d G := by
 constructor
 intro H enc w base spare held fuel cs x hx
 obtain ⟨xs, n, _, rfl, hl, hxl, hr⟩ := DataW.trod_struct ht hx
 obtain ⟨a, hk, hg⟩ := h.out (enc := enc) (w := w) (base := base) (spare := spare) (held := held) (n := n) (cs := cs) (xs := xs) (by omega) (by simpa using hxl) (fun i f hi => hr i f (by simpa using hi))
 refine ⟨a, hk, fun hw => hg ?_⟩
 simpa [DataW.weights, ht] using hw
theorem opens_iso {P : Program} {t : TypeId} {α β : Type} {d : Kd α} {G : α → Prop} {f : β → α} (g : α → β) (hf : ∀ a, f (g a) = a) (h : Opens P t d G) : Opens P t (Kd.iso d f) (fun b => G (f b)) := by
 constructor
 intro H enc w base spare held fuel cs x hx
 obtain ⟨a, hk, hg⟩ := h.out hx
 refine ⟨g a, ?_, fun hw => ?_⟩
 ·show d.K w (f (g a)) cs
  rw [hf]
  exact hk
 ·show G (f (g a))
  rw [hf]
  exact hg hw
theorem Opens.imp {P : Program} {t : TypeId} {α : Type} {d : Kd α} {G G' : α → Prop} (h : Opens P t d G) (hG : ∀ a, G a → G' a) : Opens P t d G' := by
 constructor
 intro H enc w base spare held fuel cs x hx
 obtain ⟨a, hk, hg⟩ := h.out hx
 exact ⟨a, hk, fun hw => hG a (hg hw)⟩
/-- The j-th argument, out of the row's own weights. -/
theorem sized_any {H : Type} {P : Program} {ts : List TypeId} {ds : List (DataW H)} (h : (DataW.weightsEach P ts ds).all (· ≤ reachBytes) = true) {j : Nat} {t : TypeId} {d : DataW H} (ht : ts[j]? = some t) (hd : ds[j]? = some d) : (d.weights P t).all (· ≤ reachBytes) = true :=
 List.all_eq_true.2 fun n hn => List.all_eq_true.1 h n (DataW.weights_mem_each ht hd n hn)
end
def G_T99 (x : S99) : Prop := ((Lit.int .i64 x.f0).wf = true) ∧ ((Lit.int .i64 x.f1).wf = true) ∧ (x.f2.size ≤ 140737488351232) ∧ ((Lit.int .i64 x.f3).wf = true) ∧ ((Lit.int .i64 x.f4).wf = true)
set_option maxRecDepth 100000 in
theorem opens_T99 : Opens Try.prog 99 k99 G_T99 := opens_iso (fun p => ⟨p.1, p.2.1, p.2.2.1, p.2.2.2.1, p.2.2.2.2⟩) (fun _ => rfl) (opens_struct Try.underlying99 z0 (opensL_cons rfl z0 (opens_int Try.underlying3) (opensL_cons rfl z0 (opens_int Try.underlying3) (opensL_cons rfl z0 (opens_string Try.underlying9) (opensL_cons rfl z0 (opens_int Try.underlying3) (opensL_one rfl z0 (opens_int Try.underlying3)))))))
def G_T24 (x : S24) : Prop := (x.f0.length ≤ maxLen ∧ x.f0.length * 48 ≤ 140737488351232 ∧ ∀ x2_ ∈ x.f0, G_T99 x2_)
set_option maxRecDepth 100000 in
theorem opens_T24 : Opens Try.prog 24 k24 G_T24 := opens_iso (fun p => ⟨p⟩) (fun _ => rfl) (opens_struct Try.underlying24 z0 (opensL_one rfl z0 (opens_slice 99 Try.underlying22 z0 z0 opens_T99)))

/-- THE ONE PURE STATEMENT of laws_FnExactRebalance: yours. -/
def laws_FnExactRebalance.Pure : Prop := ∀ (l0_0 : List (S99)), (l0_0.length ≤ maxLen ∧ l0_0.length * 48 ≤ 140737488351232 ∧ ∀ x2_ ∈ l0_0, G_T99 x2_) → ∃ k, laws_FnExactRebalance.f k l0_0 = some true
theorem laws_FnExactRebalance.walk (P : laws_FnExactRebalance.Pure) (A0_0 : Option Addr) (c0_0 : Nat) (l0_0 : List (S99)) (w : World) (hr0_0 : Kd.C k99 w A0_0 l0_0.length l0_0) (hc0_0 : l0_0.length ≤ c0_0) (hG0_0 : l0_0.length ≤ maxLen ∧ l0_0.length * 48 ≤ 140737488351232 ∧ ∀ x2_ ∈ l0_0, G_T99 x2_) :
  Calls Try.prog 10 #[.agg #[.slice A0_0 l0_0.length c0_0]] w fun e w' => e = .returned (.bool true) ∧ Below w.heap.size w w' := by
 obtain ⟨k, h⟩ := P l0_0 hG0_0
 refine (laws_FnExactRebalance.calls k _ _ l0_0 true ⟨rfl⟩ w hr0_0 hc0_0 h).mono ?_
 rintro e w' ⟨rfl, hd⟩
 exact ⟨rfl, hd⟩

end Go.Proofs.Ytmkenlejdaphnaa.AFnExactRebalance
