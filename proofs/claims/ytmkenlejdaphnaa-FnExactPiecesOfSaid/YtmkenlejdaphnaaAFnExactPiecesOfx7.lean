-- this session's own text: written by wip/tools/ownprint.py over the kit's print
import Derived.SizedLaws
import Derived.Deep.Slices
import Derived.Deep.Fields
import Derived.ChangeSame
import Derived.Test.YtmkenlejdaphnaaAFnExactPiecesOfx0
import Derived.Test.YtmkenlejdaphnaaAFnExactPiecesOfx1
import Derived.Test.YtmkenlejdaphnaaAFnExactPiecesOfx2
import Derived.Test.YtmkenlejdaphnaaAFnExactPiecesOfx4
import Derived.Test.YtmkenlejdaphnaaAFnExactPiecesOfx5
import Derived.Test.YtmkenlejdaphnaaAFnExactPiecesOfx6
namespace Go.Proofs.Ytmkenlejdaphnaa.AFnExactPiecesOf
open Go.RowKit Go.Proofs.YtmkenlejdaphnaaW.PrintWords Go.Proofs.YtmkenlejdaphnaaW.PrintLast Go.Proofs.YtmkenlejdaphnaaW.PrintMore
attribute [local go_sem] max2_int min2_int max_two min_two max_three min_three max_four min_four   -- for this text's walks alone
set_option linter.unusedVariables false
set_option linter.unusedSimpArgs false

/-! ### laws_FnExactPiecesOf: function 8 -/
mutual
def laws_FnExactPiecesOf.j0 : Nat → List ByteArray → Bool → List ByteArray → Bool → Bool → List (S99) → List (S58) → Option (Bool)
 | 0, _, _, _, _, _, _, _ => none
 | k + 1, x4, x5, x7, x8, x40, x183000, x195000 => if x40 = true then (some false) else ((laws_toRope.f k x183000).bind fun t200 => ((laws_eqRope.f k x195000 t200).bind fun t203 => (if t203 = true then ((laws_markRope.f k x195000 1).bind fun bt204 => (if bt204.1 < 0 then (laws_FnExactPiecesOf.j1 k x4 x5 x7 true x183000) else ((laws_eqStringS.f k x7 x4).bind fun t206 => (if t206 = true then (laws_FnExactPiecesOf.j1 k x4 x5 x7 (x8 != x5) x183000) else (laws_FnExactPiecesOf.j1 k x4 x5 x7 true x183000))))) else (some false))))
def laws_FnExactPiecesOf.j1 : Nat → List ByteArray → Bool → List ByteArray → Bool → List (S99) → Option (Bool)
 | 0, _, _, _, _, _ => none
 | k + 1, x4, x5, x7, x61, x183000 => if x61 = true then (some false) else ((laws_markStringS.f k x7 1).bind fun bt207 => ((laws_heldStringS.f k bt207.2 1).bind fun t209 => (if t209 < 0 then (some false) else (if t209 = bt207.1 then ((laws_toRope.f k x183000).bind fun t210 => ((impl_PiecesOf.f k t210).bind fun bt213 => ((laws_eqStringS.f k bt213.1 x4).bind fun t217 => (if t217 = true then (laws_FnExactPiecesOf.j2 k bt207.2 bt207.1 (bt213.2 != x5)) else (laws_FnExactPiecesOf.j2 k bt207.2 bt207.1 true))))) else (some false)))))
def laws_FnExactPiecesOf.j2 : Nat → List ByteArray → Int → Bool → Option (Bool)
 | 0, _, _, _ => none
 | k + 1, x7, x10, x87 => if x87 = true then (some false) else ((laws_heldStringS.f k x7 1).bind fun t218 => (if t218 < 0 then (some false) else (if t218 = x10 then (some true) else (some false))))
end
def laws_FnExactPiecesOf.f (k : Nat) (l0_0 : List (S99)) : Option (Bool) := (laws_szRope.f k l0_0 1048576).bind fun t183 => (if t183 < 0 then (some true) else ((laws_toRope.f k l0_0).bind fun t184 => ((spec_PiecesOf.f k t184).bind fun bt187 => ((laws_toRope.f k l0_0).bind fun t191 => ((impl_PiecesOf.f k t191).bind fun bt195 => ((laws_eqStringS.f k bt195.1 bt187.1).bind fun t199 => (if t199 = true then (laws_FnExactPiecesOf.j0 k bt187.1 bt187.2 bt195.1 bt195.2 (bt195.2 != bt187.2) l0_0 t191) else (laws_FnExactPiecesOf.j0 k bt187.1 bt187.2 bt195.1 bt195.2 true l0_0 t191))))))))
theorem laws_FnExactPiecesOf.mono_l : ∀ k, (∀ y0 y1 y2 y3 y4 y5 y6, LeO (laws_FnExactPiecesOf.j0 k y0 y1 y2 y3 y4 y5 y6) (laws_FnExactPiecesOf.j0 (k + 1) y0 y1 y2 y3 y4 y5 y6)) ∧ (∀ y0 y1 y2 y3 y4, LeO (laws_FnExactPiecesOf.j1 k y0 y1 y2 y3 y4) (laws_FnExactPiecesOf.j1 (k + 1) y0 y1 y2 y3 y4)) ∧ (∀ y0 y1 y2, LeO (laws_FnExactPiecesOf.j2 k y0 y1 y2) (laws_FnExactPiecesOf.j2 (k + 1) y0 y1 y2))
 | 0 => ⟨fun _ _ _ _ _ _ _ r h => by simp [laws_FnExactPiecesOf.j0] at h, fun _ _ _ _ _ r h => by simp [laws_FnExactPiecesOf.j1] at h, fun _ _ _ r h => by simp [laws_FnExactPiecesOf.j2] at h⟩
 | k + 1 => by
  obtain ⟨ih0, ih1, ih2⟩ := laws_FnExactPiecesOf.mono_l k
  refine ⟨?_, ?_, ?_⟩
  ·intro y0 y1 y2 y3 y4 y5 y6
   unfold laws_FnExactPiecesOf.j0
   repeat' first
   | (with_reducible exact ih0 _ _ _ _ _ _ _)
   | (with_reducible exact ih1 _ _ _ _ _)
   | (with_reducible exact ih2 _ _ _)
   | (with_reducible exact impl_PiecesOf.mono _ _)
   | (with_reducible exact laws_eqRope.mono _ _ _)
   | (with_reducible exact laws_eqStringS.mono _ _ _)
   | (with_reducible exact laws_heldStringS.mono _ _ _)
   | (with_reducible exact laws_markRope.mono _ _ _)
   | (with_reducible exact laws_markStringS.mono _ _ _)
   | (with_reducible exact laws_szRope.mono _ _ _)
   | (with_reducible exact laws_toRope.mono _ _)
   | (with_reducible exact spec_PiecesOf.mono _ _)
   | (with_reducible exact LeO.refl _)
   | (with_reducible exact LeO.none _)
   | (with_reducible refine LeO.ite ?_ ?_)
   | (with_reducible refine LeO.bind ?_ (fun _ => ?_))
   | exact ih0 _ _ _ _ _ _ _
   | exact ih1 _ _ _ _ _
   | exact ih2 _ _ _
   | exact impl_PiecesOf.mono _ _
   | exact laws_eqRope.mono _ _ _
   | exact laws_eqStringS.mono _ _ _
   | exact laws_heldStringS.mono _ _ _
   | exact laws_markRope.mono _ _ _
   | exact laws_markStringS.mono _ _ _
   | exact laws_szRope.mono _ _ _
   | exact laws_toRope.mono _ _
   | exact spec_PiecesOf.mono _ _
   | exact LeO.none _
   | refine LeO.ite ?_ ?_
   | refine LeO.bind ?_ (fun _ => ?_)
  ·intro y0 y1 y2 y3 y4
   unfold laws_FnExactPiecesOf.j1
   repeat' first
   | (with_reducible exact ih0 _ _ _ _ _ _ _)
   | (with_reducible exact ih1 _ _ _ _ _)
   | (with_reducible exact ih2 _ _ _)
   | (with_reducible exact impl_PiecesOf.mono _ _)
   | (with_reducible exact laws_eqRope.mono _ _ _)
   | (with_reducible exact laws_eqStringS.mono _ _ _)
   | (with_reducible exact laws_heldStringS.mono _ _ _)
   | (with_reducible exact laws_markRope.mono _ _ _)
   | (with_reducible exact laws_markStringS.mono _ _ _)
   | (with_reducible exact laws_szRope.mono _ _ _)
   | (with_reducible exact laws_toRope.mono _ _)
   | (with_reducible exact spec_PiecesOf.mono _ _)
   | (with_reducible exact LeO.refl _)
   | (with_reducible exact LeO.none _)
   | (with_reducible refine LeO.ite ?_ ?_)
   | (with_reducible refine LeO.bind ?_ (fun _ => ?_))
   | exact ih0 _ _ _ _ _ _ _
   | exact ih1 _ _ _ _ _
   | exact ih2 _ _ _
   | exact impl_PiecesOf.mono _ _
   | exact laws_eqRope.mono _ _ _
   | exact laws_eqStringS.mono _ _ _
   | exact laws_heldStringS.mono _ _ _
   | exact laws_markRope.mono _ _ _
   | exact laws_markStringS.mono _ _ _
   | exact laws_szRope.mono _ _ _
   | exact laws_toRope.mono _ _
   | exact spec_PiecesOf.mono _ _
   | exact LeO.none _
   | refine LeO.ite ?_ ?_
   | refine LeO.bind ?_ (fun _ => ?_)
  ·intro y0 y1 y2
   unfold laws_FnExactPiecesOf.j2
   repeat' first
   | (with_reducible exact ih0 _ _ _ _ _ _ _)
   | (with_reducible exact ih1 _ _ _ _ _)
   | (with_reducible exact ih2 _ _ _)
   | (with_reducible exact impl_PiecesOf.mono _ _)
   | (with_reducible exact laws_eqRope.mono _ _ _)
   | (with_reducible exact laws_eqStringS.mono _ _ _)
   | (with_reducible exact laws_heldStringS.mono _ _ _)
   | (with_reducible exact laws_markRope.mono _ _ _)
   | (with_reducible exact laws_markStringS.mono _ _ _)
   | (with_reducible exact laws_szRope.mono _ _ _)
   | (with_reducible exact laws_toRope.mono _ _)
   | (with_reducible exact spec_PiecesOf.mono _ _)
   | (with_reducible exact LeO.refl _)
   | (with_reducible exact LeO.none _)
   | (with_reducible refine LeO.ite ?_ ?_)
   | (with_reducible refine LeO.bind ?_ (fun _ => ?_))
   | exact ih0 _ _ _ _ _ _ _
   | exact ih1 _ _ _ _ _
   | exact ih2 _ _ _
   | exact impl_PiecesOf.mono _ _
   | exact laws_eqRope.mono _ _ _
   | exact laws_eqStringS.mono _ _ _
   | exact laws_heldStringS.mono _ _ _
   | exact laws_markRope.mono _ _ _
   | exact laws_markStringS.mono _ _ _
   | exact laws_szRope.mono _ _ _
   | exact laws_toRope.mono _ _
   | exact spec_PiecesOf.mono _ _
   | exact LeO.none _
   | refine LeO.ite ?_ ?_
   | refine LeO.bind ?_ (fun _ => ?_)
theorem laws_FnExactPiecesOf.mono : ∀ a0 k, LeO (laws_FnExactPiecesOf.f k a0) (laws_FnExactPiecesOf.f (k + 1) a0) := by
 intro a0 k
 obtain ⟨ih0, ih1, ih2⟩ := laws_FnExactPiecesOf.mono_l k
 unfold laws_FnExactPiecesOf.f
 repeat' first
   | (with_reducible exact ih0 _ _ _ _ _ _ _)
   | (with_reducible exact ih1 _ _ _ _ _)
   | (with_reducible exact ih2 _ _ _)
   | (with_reducible exact impl_PiecesOf.mono _ _)
   | (with_reducible exact laws_eqRope.mono _ _ _)
   | (with_reducible exact laws_eqStringS.mono _ _ _)
   | (with_reducible exact laws_heldStringS.mono _ _ _)
   | (with_reducible exact laws_markRope.mono _ _ _)
   | (with_reducible exact laws_markStringS.mono _ _ _)
   | (with_reducible exact laws_szRope.mono _ _ _)
   | (with_reducible exact laws_toRope.mono _ _)
   | (with_reducible exact spec_PiecesOf.mono _ _)
   | (with_reducible exact LeO.refl _)
   | (with_reducible exact LeO.none _)
   | (with_reducible refine LeO.ite ?_ ?_)
   | (with_reducible refine LeO.bind ?_ (fun _ => ?_))
   | exact ih0 _ _ _ _ _ _ _
   | exact ih1 _ _ _ _ _
   | exact ih2 _ _ _
   | exact impl_PiecesOf.mono _ _
   | exact laws_eqRope.mono _ _ _
   | exact laws_eqStringS.mono _ _ _
   | exact laws_heldStringS.mono _ _ _
   | exact laws_markRope.mono _ _ _
   | exact laws_markStringS.mono _ _ _
   | exact laws_szRope.mono _ _ _
   | exact laws_toRope.mono _ _
   | exact spec_PiecesOf.mono _ _
   | exact LeO.none _
   | refine LeO.ite ?_ ?_
   | refine LeO.bind ?_ (fun _ => ?_)
set_option maxHeartbeats 8000000 in
set_option maxRecDepth 100000 in
theorem laws_FnExactPiecesOf.calls (k : Nat) (A0_0 : Option Addr) (c0_0 : Nat) (l0_0 : List (S99)) (r : Bool) (HRT : Aside0 (r = true)) (w : World) (hr0_0 : Kd.C k99 w A0_0 l0_0.length l0_0) (hc0_0 : l0_0.length ≤ c0_0) (h : laws_FnExactPiecesOf.f k l0_0 = some r) :
  Calls Try.prog 8 #[.agg #[.slice A0_0 l0_0.length c0_0]] w fun e w' => e = .returned (.bool r) ∧ Below w.heap.size w w' := by
 have hu24 := Try.underlying24
 have hu29 := Try.underlying29
 have HR0_0 := Aside0.mk hr0_0
 have HC0_0 := Aside0.mk hc0_0
 clear hr0_0 hc0_0
 have HB := Aside0.mk (Below.refl w.heap.size w)
 have H : ((laws_szRope.f k l0_0 1048576).bind fun t183 => (if t183 < 0 then (some true) else ((laws_toRope.f k l0_0).bind fun t184 => ((spec_PiecesOf.f k t184).bind fun bt187 => ((laws_toRope.f k l0_0).bind fun t191 => ((impl_PiecesOf.f k t191).bind fun bt195 => ((laws_eqStringS.f k bt195.1 bt187.1).bind fun t199 => (if t199 = true then (laws_FnExactPiecesOf.j0 k bt187.1 bt187.2 bt195.1 bt195.2 (bt195.2 != bt187.2) l0_0 t191) else (laws_FnExactPiecesOf.j0 k bt187.1 bt187.2 bt195.1 bt195.2 true l0_0 t191))))))))) = some r := h
 clear h
 replace H := Option.bind_eq_some_iff.mp H
 obtain ⟨t183, A20, H⟩ := H
 try dsimp only at H
 have A2 := Aside0.mk A20
 clear A20
 by_cases c3 : t183 < 0
 ·rw [if_pos c3] at H
  have c3b0 : decide (t183 < 0) = true := decide_eq_true c3
  clear c3
  first | (cases H.trans (congrArg some HRT.out); done) | skip
  all_goals
   obtain rfl := Option.some.inj H
   go_enter Try.func8, Try.ntmps8
   go_wp2_with (first | ((with_reducible refine gate_dst (N := 1) rfl ?_); refine box_event ?hg (N := 1) ?hd (cs := #[.slice A0_0 l0_0.length c0_0]) (t := 24) ?hr ?_; (case hd => rfl); (case hg => rfl); (case hr => first | (go_simp; done) | (go_simp; rfl)); intro gb182 hg w4 hbox hb; have n0_ := Aside0.mk (below_step z7 hb); have n1_ := Aside0.mk (hbox); have n2_ := Aside0.mk ((by rw [hg]; exact (below_size z7) : w.heap.size ≤ gb182)); have n3_ := Aside0.mk ((by rw [hg]; exact (below_size z7) : w.heap.size ≤ gb182)); clear HB; have HB := n0_; have BK182 := n1_; have GW182 := n2_; have GE182 := n3_; clear n0_ n1_ n2_ n3_; clear hb hbox hg; have hcz5_0 : w4.cell? ⟨gb182, 0, none⟩ = some (.slice A0_0 l0_0.length c0_0) := (blk_cell BK182.out 0).trans rfl; have hfz5_0 := blk_frozen BK182.out 0) | ((with_reducible refine gate_callee (f := 14) rfl ?_); refine goesL_ (some 16) rfl rfl Try.func14 z0 rfl #[.agg #[.slice A0_0 l0_0.length c0_0], .int .i64 1048576] rfl z8 ?_; (with_reducible refine (laws_szRope.calls k _ _ l0_0 1048576 t183 _ ?side1 ?side2 A2.out).mono ?_); (case side1 => repeat (first | exact (Kd.C_below HR0_0.out HB.out) | (with_reducible refine Kd.C_alloc ?_ _) | (with_reducible refine Kd.C_drewN ?_ _) | (with_reducible refine Kd.C_drew ?_))); (case side2 => exact HC0_0.out); rintro e w6 ⟨rfl, hb⟩; refine ⟨_, rfl, ?_⟩; have n0_ := Aside0.mk (blk_below (g := gb182) (o := .cells #[.slice A0_0 l0_0.length c0_0] 24 (0, 0)) z5 hb); have n1_ := Aside0.mk (below_step z10 hb); clear BK182; clear HB; have BK182 := n0_; have HB := n1_; clear n0_ n1_; (try clear hb); (try clear hb2); (try clear hk); (try clear hi)))
   go_ret
   exact ⟨by first | rfl | (simp [errW_none, errW_some] <;> rfl) | (simp [*, errW_none, errW_some] <;> rfl), by repeat (first | (with_reducible first | exact HB.out | apply below_alloc | apply pw_below_drewN | apply below_drew1 | refine below_set ?_ GE182.out) | exact HB.out)⟩
 ·rw [if_neg c3] at H
  have c3b0 : decide (t183 < 0) = false := decide_eq_false c3
  clear c3
  replace H := Option.bind_eq_some_iff.mp H
  obtain ⟨t184, A70, H⟩ := H
  try dsimp only at H
  have A7 := Aside0.mk A70
  clear A70
  replace H := Option.bind_eq_some_iff.mp H
  obtain ⟨⟨t187, t190⟩, A80, H⟩ := H
  try dsimp only at H
  have A8 := Aside0.mk A80
  clear A80
  replace H := Option.bind_eq_some_iff.mp H
  obtain ⟨t191, A90, H⟩ := H
  try dsimp only at H
  have A9 := Aside0.mk A90
  clear A90
  replace H := Option.bind_eq_some_iff.mp H
  obtain ⟨⟨t195, t198⟩, A100, H⟩ := H
  try dsimp only at H
  have A10 := Aside0.mk A100
  clear A100
  have HC11 := Aside0.mk H
  clear H
  go_enter Try.func8, Try.ntmps8
  go_upto_region 8 with (first | ((with_reducible refine gate_dst (N := 1) rfl ?_); refine box_event ?hg (N := 1) ?hd (cs := #[.slice A0_0 l0_0.length c0_0]) (t := 24) ?hr ?_; (case hd => rfl); (case hg => rfl); (case hr => first | (go_simp; done) | (go_simp; rfl)); intro gb182 hg w12 hbox hb; have n0_ := Aside0.mk (below_step z7 hb); have n1_ := Aside0.mk (hbox); have n2_ := Aside0.mk ((by rw [hg]; exact (below_size z7) : w.heap.size ≤ gb182)); have n3_ := Aside0.mk ((by rw [hg]; exact (below_size z7) : w.heap.size ≤ gb182)); clear HB; have HB := n0_; have BK182 := n1_; have GW182 := n2_; have GE182 := n3_; clear n0_ n1_ n2_ n3_; clear hb hbox hg; have hcz13_0 : w12.cell? ⟨gb182, 0, none⟩ = some (.slice A0_0 l0_0.length c0_0) := (blk_cell BK182.out 0).trans rfl; have hfz13_0 := blk_frozen BK182.out 0) | ((with_reducible refine gate_callee (f := 14) rfl ?_); refine goesL_ (some 16) rfl rfl Try.func14 z0 rfl #[.agg #[.slice A0_0 l0_0.length c0_0], .int .i64 1048576] rfl z8 ?_; (with_reducible refine (laws_szRope.calls k _ _ l0_0 1048576 t183 _ ?side1 ?side2 A2.out).mono ?_); (case side1 => repeat (first | exact (Kd.C_below HR0_0.out HB.out) | (with_reducible refine Kd.C_alloc ?_ _) | (with_reducible refine Kd.C_drewN ?_ _) | (with_reducible refine Kd.C_drew ?_))); (case side2 => exact HC0_0.out); rintro e w14 ⟨rfl, hb⟩; refine ⟨_, rfl, ?_⟩; have n0_ := Aside0.mk (blk_below (g := gb182) (o := .cells #[.slice A0_0 l0_0.length c0_0] 24 (0, 0)) z5 hb); have n1_ := Aside0.mk (below_step z10 hb); clear BK182; clear HB; have BK182 := n0_; have HB := n1_; clear n0_ n1_; (try clear hb); (try clear hb2); (try clear hk); (try clear hi); have hcz15_0 : w14.cell? ⟨gb182, 0, none⟩ = some (.slice A0_0 l0_0.length c0_0) := (blk_cell BK182.out 0).trans rfl; have hfz15_0 := blk_frozen BK182.out 0) | ((with_reducible refine gate_callee (f := 16) rfl ?_); refine goesL_ (some 21) rfl rfl Try.func16 z0 rfl #[.agg #[.slice A0_0 l0_0.length c0_0]] rfl z8 ?_; (with_reducible refine (laws_toRope.calls k _ _ l0_0 t184 _ ?side1 ?side2 A7.out).mono ?_); (case side1 => repeat (first | exact (Kd.C_below HR0_0.out HB.out) | (with_reducible refine Kd.C_alloc ?_ _) | (with_reducible refine Kd.C_drewN ?_ _) | (with_reducible refine Kd.C_drew ?_))); (case side2 => exact HC0_0.out); rintro e w16 ⟨v185, rfl, ho0, hb⟩; refine ⟨_, rfl, ?_⟩; have n0_ := Aside0.mk (Kd.R_lower ho0 (below_size z10)); have n1_ := Aside0.mk (blk_below (g := gb182) (o := .cells #[.slice A0_0 l0_0.length c0_0] 24 (0, 0)) z5 hb); have n2_ := Aside0.mk (below_step z10 hb); clear BK182; clear HB; have HO186 := n0_; have BK182 := n1_; have HB := n2_; clear n0_ n1_ n2_; (try clear hb); (try clear hb2); (try clear hk); (try clear hi); (try clear ho0); obtain ⟨Ao17, co17, eo17⟩ := Kd.R_slice HO186.out; subst eo17) | ((with_reducible refine gate_callee (f := 29) rfl ?_); refine goesL_ (some 22) rfl rfl Try.func29 z0 rfl #[.agg #[.slice Ao17 t184.length co17]] rfl z8 ?_; (with_reducible refine (spec_PiecesOf.calls k _ _ t184 t187 t190 _ ?side1 ?side2 A8.out).mono ?_); (case side1 => repeat (first | exact (Kd.R_reads' HO186.out).2.2 | (with_reducible refine Kd.C_alloc ?_ _) | (with_reducible refine Kd.C_drewN ?_ _) | (with_reducible refine Kd.C_drew ?_))); (case side2 => exact (Kd.R_reads' HO186.out).2.1); rintro e w18 ⟨v188, rfl, ho0, hb⟩; refine ⟨_, rfl, ?_⟩; have n0_ := Aside0.mk (Kd.R_below (by (with_reducible repeat (first | apply Kd.R_alloc | apply Kd.R_drewN | apply Kd.R_drew)); exact HO186.out) hb); have n1_ := Aside0.mk (Kd.R_lower ho0 (below_size z10)); have n2_ := Aside0.mk (blk_below (g := gb182) (o := .cells #[.slice A0_0 l0_0.length c0_0] 24 (0, 0)) z5 hb); have n3_ := Aside0.mk (below_step z10 hb); clear HO186; clear BK182; clear HB; have HO186 := n0_; have HO189 := n1_; have BK182 := n2_; have HB := n3_; clear n0_ n1_ n2_ n3_; (try clear hb); (try clear hb2); (try clear hk); (try clear hi); (try clear ho0); have hcz19_0 : w18.cell? ⟨gb182, 0, none⟩ = some (.slice A0_0 l0_0.length c0_0) := (blk_cell BK182.out 0).trans rfl; have hfz19_0 := blk_frozen BK182.out 0) | ((with_reducible refine gate_callee (f := 16) rfl ?_); refine goesL_ (some 26) rfl rfl Try.func16 z0 rfl #[.agg #[.slice A0_0 l0_0.length c0_0]] rfl z8 ?_; (with_reducible refine (laws_toRope.calls k _ _ l0_0 t191 _ ?side1 ?side2 A9.out).mono ?_); (case side1 => repeat (first | exact (Kd.C_below HR0_0.out HB.out) | (with_reducible refine Kd.C_alloc ?_ _) | (with_reducible refine Kd.C_drewN ?_ _) | (with_reducible refine Kd.C_drew ?_))); (case side2 => exact HC0_0.out); rintro e w20 ⟨v192, rfl, ho0, hb⟩; refine ⟨_, rfl, ?_⟩; have n0_ := Aside0.mk (Kd.R_elder' (by (with_reducible repeat (first | apply Kd.R_alloc | apply Kd.R_drewN | apply Kd.R_drew)); exact HO186.out) (Kd.R_base ho0) hb); have n1_ := Aside0.mk (Kd.R_below (by (with_reducible repeat (first | apply Kd.R_alloc | apply Kd.R_drewN | apply Kd.R_drew)); exact HO189.out) hb); have n2_ := Aside0.mk (Kd.R_lower (Kd.R_new' ho0 (Kd.R_lt (by (with_reducible repeat (first | apply Kd.R_alloc | apply Kd.R_drewN | apply Kd.R_drew)); exact HO186.out))) (below_size z10)); have n3_ := Aside0.mk (blk_below (g := gb182) (o := .cells #[.slice A0_0 l0_0.length c0_0] 24 (0, 0)) z5 hb); have n4_ := Aside0.mk (below_step z10 hb); clear HO186; clear HO189; clear BK182; clear HB; have HO186 := n0_; have HO189 := n1_; have HO193 := n2_; have BK182 := n3_; have HB := n4_; clear n0_ n1_ n2_ n3_ n4_; (try clear hb); (try clear hb2); (try clear hk); (try clear hi); (try clear ho0)) | ((with_reducible refine gate_dst (N := 6) rfl ?_); refine box_event ?hg (N := 6) ?hd (cs := #[.slice none 0 0]) (t := 29) ?hr ?_; (case hd => rfl); (case hg => rfl); (case hr => first | (go_simp; done) | (go_simp; rfl)); intro gb194 hg w21 hbox hb; have n0_ := Aside0.mk (Kd.R_below (by (with_reducible repeat (first | apply Kd.R_alloc | apply Kd.R_drewN | apply Kd.R_drew)); exact HO186.out) hb); have n1_ := Aside0.mk (Kd.R_below (by (with_reducible repeat (first | apply Kd.R_alloc | apply Kd.R_drewN | apply Kd.R_drew)); exact HO189.out) hb); have n2_ := Aside0.mk (Kd.R_below (by (with_reducible repeat (first | apply Kd.R_alloc | apply Kd.R_drewN | apply Kd.R_drew)); exact HO193.out) hb); have n3_ := Aside0.mk (blk_below (g := gb182) (o := .cells #[.slice A0_0 l0_0.length c0_0] 24 (0, 0)) z5 hb); have n4_ := Aside0.mk (below_step z10 hb); have n5_ := Aside0.mk (hbox); have n6_ := Aside0.mk ((by rw [hg]; exact (below_size z10) : w.heap.size ≤ gb194)); have n7_ := Aside0.mk ((by rw [hg]; exact (below_size z10) : w.heap.size ≤ gb194)); have n8_ := Aside0.mk ((by rw [hg]; exact Nat.ne_of_lt (blk_lt (g := gb182) (o := .cells #[.slice A0_0 l0_0.length c0_0] 24 (0, 0)) z5) : gb182 ≠ gb194)); have n9_ := Aside0.mk ((by rw [hg]; exact Nat.ne_of_gt (blk_lt (g := gb182) (o := .cells #[.slice A0_0 l0_0.length c0_0] 24 (0, 0)) z5) : gb194 ≠ gb182)); clear HO186; clear HO189; clear HO193; clear BK182; clear HB; have HO186 := n0_; have HO189 := n1_; have HO193 := n2_; have BK182 := n3_; have HB := n4_; have BK194 := n5_; have GW194 := n6_; have GE194 := n7_; have NB182_194 := n8_; have NB194_182 := n9_; clear n0_ n1_ n2_ n3_ n4_ n5_ n6_ n7_ n8_ n9_; clear hb hbox hg; obtain ⟨Ao22, co22, eo22⟩ := Kd.R_slice HO193.out; subst eo22; have hnb23 := NB194_182.out; have hnc23 := NB182_194.out; have hcz24_0 : w21.cell? ⟨gb194, 0, none⟩ = some (.slice none 0 0) := (blk_cell BK194.out 0).trans rfl; have hfz24_0 := blk_frozen BK194.out 0) | ((with_reducible refine gate_callee (f := 30) rfl ?_); refine goesL_ (some 29) rfl rfl Try.func30 z0 rfl #[.agg #[.slice Ao22 t191.length co22]] rfl z8 ?_; (with_reducible refine (impl_PiecesOf.calls k _ _ t191 t195 t198 _ ?side1 ?side2 A10.out).mono ?_); (case side1 => refine (Kd.R_reads' (e := 58) (base := w.heap.size) (ok := fun k_ => (True ∧ some k_ ≠ (.slice Ao17 t184.length co17 : Value).ownBlock)) (n := t191.length) (c := co22) ?_).2.2; exact (by (with_reducible repeat (first | apply Kd.R_alloc | apply Kd.R_drewN | apply Kd.R_drew)); exact (Kd.R_mono (Kd.R_far (p := ⟨gb194, 0, none⟩) (Kd.R_types HO193.out BK194.out (by decide)) (fun _ hk => hk.2) (.slice Ao22 t191.length co22)) (fun _ h_ => h_.1)))); (case side2 => exact (Kd.R_reads' HO193.out).2.1); rintro e w25 ⟨v196, rfl, ho0, hb⟩; refine ⟨_, rfl, ?_⟩; have n0_ := Aside0.mk (Kd.R_below (by (with_reducible repeat (first | apply Kd.R_alloc | apply Kd.R_drewN | apply Kd.R_drew)); exact (Kd.R_mono (Kd.R_far (p := ⟨gb194, 0, none⟩) (Kd.R_types HO186.out BK194.out (by decide)) (fun _ hk => hk.2) (.slice Ao22 t191.length co22)) (fun _ h_ => h_.1))) hb); have n1_ := Aside0.mk (Kd.R_elder' (by (with_reducible repeat (first | apply Kd.R_alloc | apply Kd.R_drewN | apply Kd.R_drew)); exact (Kd.R_mono (Kd.R_far (p := ⟨gb194, 0, none⟩) (Kd.R_types HO189.out BK194.out (by decide)) (fun _ hk => hk.2) (.slice Ao22 t191.length co22)) (fun _ h_ => h_.1))) (Kd.R_base ho0) hb); have n2_ := Aside0.mk (Kd.R_below (by (with_reducible repeat (first | apply Kd.R_alloc | apply Kd.R_drewN | apply Kd.R_drew)); exact (Kd.R_mono (Kd.R_far (p := ⟨gb194, 0, none⟩) (Kd.R_types HO193.out BK194.out (by decide)) (fun _ hk => hk.2) (.slice Ao22 t191.length co22)) (fun _ h_ => h_.1))) hb); have n3_ := Aside0.mk (Kd.R_lower (Kd.R_new' ho0 (Kd.R_lt (by (with_reducible repeat (first | apply Kd.R_alloc | apply Kd.R_drewN | apply Kd.R_drew)); exact (Kd.R_mono (Kd.R_far (p := ⟨gb194, 0, none⟩) (Kd.R_types HO189.out BK194.out (by decide)) (fun _ hk => hk.2) (.slice Ao22 t191.length co22)) (fun _ h_ => h_.1))))) (below_size z11)); have n4_ := Aside0.mk (blk_below (g := gb182) (o := .cells #[.slice A0_0 l0_0.length c0_0] 24 (0, 0)) (by (with_reducible repeat (first | refine blk_drewN ?_ _ | refine blk_drew ?_ | refine blk_alloc ?_ _)); refine blk_far ?_ NB182_194.out _; (with_reducible repeat (first | refine blk_drewN ?_ _ | refine blk_drew ?_ | refine blk_alloc ?_ _)); exact BK182.out) hb); have n5_ := Aside0.mk (blk_below (g := gb194) (o := .cells #[.slice Ao22 t191.length co22] 29 (0, 0)) (by (with_reducible repeat (first | refine blk_drewN ?_ _ | refine blk_drew ?_ | refine blk_alloc ?_ _)); refine blk_put (cs := #[.slice none 0 0]) ?_ 0 _ rfl; (with_reducible repeat (first | refine blk_drewN ?_ _ | refine blk_drew ?_ | refine blk_alloc ?_ _)); exact BK194.out) hb); have n6_ := Aside0.mk (below_step z11 hb); clear HO186; clear HO189; clear HO193; clear BK182; clear BK194; clear HB; have HO186 := n0_; have HO189 := n1_; have HO193 := n2_; have HO197 := n3_; have BK182 := n4_; have BK194 := n5_; have HB := n6_; clear n0_ n1_ n2_ n3_ n4_ n5_ n6_; (try clear hb); (try clear hb2); (try clear hk); (try clear hi); (try clear ho0)))
  (try simp only [Act.put, List.setIfInBounds_toArray, List.set_cons_zero, List.set_cons_succ])
  go_cut [40] (fun v40 wc => ∃ (kq : Nat) (x40_10 : Bool), v40 = .bool x40_10 ∧ Aside0 (laws_FnExactPiecesOf.j0 kq t187 t190 t195 t198 x40_10 l0_0 t191 = some r) ∧ Aside0 (kq ≤ k) ∧ Aside0 (Kd.R Kd.string 9 wc w.heap.size (fun k_ => some k_ ≠ (v196 : Value).ownBlock) v188 t187) ∧ Aside0 (Kd.R Kd.string 9 wc w.heap.size (fun k_ => some k_ ≠ (v188 : Value).ownBlock) v196 t195) ∧ Aside0 (Kd.R k58 58 wc w.heap.size (fun _ => True) (.slice Ao22 t191.length co22) t191) ∧ Aside0 (wc.heap[gb182]? = some (.cells #[(.slice A0_0 l0_0.length c0_0)] 24 (0, 0))) ∧ Aside0 (wc.heap[gb194]? = some (.cells #[(.slice Ao22 t191.length co22)] 29 (0, 0))) ∧ Aside0 (Below w.heap.size w wc))
  case first =>
   have H := HC11.out
   clear HC11
   replace H := Option.bind_eq_some_iff.mp H
   obtain ⟨t199, A260, H⟩ := H
   try dsimp only at H
   have A26 := Aside0.mk A260
   clear A260
   by_cases c27 : t199 = true
   ·subst c27
    rw [if_pos rfl] at H
    have H' := Aside0.mk H
    clear H
    obtain ⟨Ao28, co28, eo28⟩ := Kd.R_slice HO197.out
    subst eo28
    obtain ⟨Ao29, co29, eo29⟩ := Kd.R_slice HO189.out
    subst eo29
    go_wp2_with (first | ((with_reducible refine gate_callee (f := 31) rfl ?_); refine goesL_ (some 34) rfl rfl Try.func31 z0 rfl #[.slice Ao28 t195.length co28, .slice Ao29 t187.length co29] rfl z8 ?_; (with_reducible refine (laws_eqStringS.calls k _ _ t195 _ _ t187 true _ ?side1 ?side2 ?side3 ?side4 A26.out).mono ?_); (case side1 => repeat (first | exact (Kd.R_reads' HO197.out).2.2 | (with_reducible refine Kd.C_alloc ?_ _) | (with_reducible refine Kd.C_drewN ?_ _) | (with_reducible refine Kd.C_drew ?_))); (case side2 => exact (Kd.R_reads' HO197.out).2.1); (case side3 => repeat (first | exact (Kd.R_reads' HO189.out).2.2 | (with_reducible refine Kd.C_alloc ?_ _) | (with_reducible refine Kd.C_drewN ?_ _) | (with_reducible refine Kd.C_drew ?_))); (case side4 => exact (Kd.R_reads' HO189.out).2.1); rintro e w' ⟨rfl, ⟨nd, rfl⟩⟩; refine ⟨_, rfl, ?_⟩))
    go_meet
    case rel => exact ⟨_, ((t198 != t190)), z1, H', ⟨by first | omega | exact Nat.le_refl _⟩, ⟨by (with_reducible repeat (first | apply Kd.R_alloc | apply Kd.R_drewN | apply Kd.R_drew)); exact Kd.R_mono HO189.out (fun _ hk => hk.2)⟩, ⟨by (with_reducible repeat (first | apply Kd.R_alloc | apply Kd.R_drewN | apply Kd.R_drew)); exact Kd.R_mono HO197.out (fun _ hk => hk.2)⟩, ⟨by (with_reducible repeat (first | apply Kd.R_alloc | apply Kd.R_drewN | apply Kd.R_drew)); exact Kd.R_mono HO193.out (fun _ hk => trivial)⟩, ⟨by (with_reducible repeat (first | refine blk_drewN ?_ _ | refine blk_drew ?_ | refine blk_alloc ?_ _)); exact BK182.out⟩, ⟨by (with_reducible repeat (first | refine blk_drewN ?_ _ | refine blk_drew ?_ | refine blk_alloc ?_ _)); exact BK194.out⟩, ⟨by repeat (first | (with_reducible first | exact HB.out | apply below_alloc | apply pw_below_drewN | apply below_drew1 | refine below_set ?_ GE182.out | refine below_set ?_ GE194.out) | exact HB.out)⟩⟩
   ·replace c27 := Bool.eq_false_iff.mpr c27
    subst c27
    rw [if_neg (show ¬ (false = true) by decide)] at H
    have H' := Aside0.mk H
    clear H
    obtain ⟨Ao30, co30, eo30⟩ := Kd.R_slice HO197.out
    subst eo30
    obtain ⟨Ao31, co31, eo31⟩ := Kd.R_slice HO189.out
    subst eo31
    go_wp2_with (first | ((with_reducible refine gate_callee (f := 31) rfl ?_); refine goesL_ (some 34) rfl rfl Try.func31 z0 rfl #[.slice Ao30 t195.length co30, .slice Ao31 t187.length co31] rfl z8 ?_; (with_reducible refine (laws_eqStringS.calls k _ _ t195 _ _ t187 false _ ?side1 ?side2 ?side3 ?side4 A26.out).mono ?_); (case side1 => repeat (first | exact (Kd.R_reads' HO197.out).2.2 | (with_reducible refine Kd.C_alloc ?_ _) | (with_reducible refine Kd.C_drewN ?_ _) | (with_reducible refine Kd.C_drew ?_))); (case side2 => exact (Kd.R_reads' HO197.out).2.1); (case side3 => repeat (first | exact (Kd.R_reads' HO189.out).2.2 | (with_reducible refine Kd.C_alloc ?_ _) | (with_reducible refine Kd.C_drewN ?_ _) | (with_reducible refine Kd.C_drew ?_))); (case side4 => exact (Kd.R_reads' HO189.out).2.1); rintro e w' ⟨rfl, ⟨nd, rfl⟩⟩; refine ⟨_, rfl, ?_⟩))
    go_meet
    case rel => exact ⟨_, (true), z1, H', ⟨by first | omega | exact Nat.le_refl _⟩, ⟨by (with_reducible repeat (first | apply Kd.R_alloc | apply Kd.R_drewN | apply Kd.R_drew)); exact Kd.R_mono HO189.out (fun _ hk => hk.2)⟩, ⟨by (with_reducible repeat (first | apply Kd.R_alloc | apply Kd.R_drewN | apply Kd.R_drew)); exact Kd.R_mono HO197.out (fun _ hk => hk.2)⟩, ⟨by (with_reducible repeat (first | apply Kd.R_alloc | apply Kd.R_drewN | apply Kd.R_drew)); exact Kd.R_mono HO193.out (fun _ hk => trivial)⟩, ⟨by (with_reducible repeat (first | refine blk_drewN ?_ _ | refine blk_drew ?_ | refine blk_alloc ?_ _)); exact BK182.out⟩, ⟨by (with_reducible repeat (first | refine blk_drewN ?_ _ | refine blk_drew ?_ | refine blk_alloc ?_ _)); exact BK194.out⟩, ⟨by repeat (first | (with_reducible first | exact HB.out | apply below_alloc | apply pw_below_drewN | apply below_drew1 | refine below_set ?_ GE182.out | refine below_set ?_ GE194.out) | exact HB.out)⟩⟩
  case rest =>
   clear HC11
   try clear c1
   try clear c2
   try clear p2
   try clear c3
   try clear c3b0
   try clear c8
   try clear c14
   try clear c16
   try clear c23
   try clear c27
   try clear c29
   try clear c30
   try clear c31
   try clear hcz13_0
   try clear hcz15_0
   try clear hcz19_0
   try clear hcz24_0
   try clear hcz5_0
   try clear hfz13_0
   try clear hfz15_0
   try clear hfz19_0
   try clear hfz24_0
   try clear hfz5_0
   obtain ⟨kq, x40_10, rfl, HA, HJ10, HO_4, HO_7, HO_195000, BK182, BK194, HB⟩ := hcut
   cases kq with
   | zero => exact absurd HA.out (by simp [laws_FnExactPiecesOf.j0])
   | succ kj10 =>
    have H := HA.out
    clear HA
    simp only [laws_FnExactPiecesOf.j0] at H
    by_cases c32 : x40_10 = true
    ·subst c32
     rw [if_pos rfl] at H
     first | (cases H.trans (congrArg some HRT.out); done) | skip
     all_goals
      obtain rfl := Option.some.inj H
      go_wp2
      go_ret
      exact ⟨by first | rfl | (simp [errW_none, errW_some] <;> rfl) | (simp [*, errW_none, errW_some] <;> rfl), by repeat (first | (with_reducible first | exact HB.out | apply below_alloc | apply pw_below_drewN | apply below_drew1 | refine below_set ?_ GE182.out | refine below_set ?_ GE194.out) | exact HB.out)⟩
    ·replace c32 := Bool.eq_false_iff.mpr c32
     subst c32
     rw [if_neg (show ¬ (false = true) by decide)] at H
     replace H := Option.bind_eq_some_iff.mp H
     obtain ⟨t200, A330, H⟩ := H
     try dsimp only at H
     have A33 := Aside0.mk A330
     clear A330
     replace H := Option.bind_eq_some_iff.mp H
     obtain ⟨t203, A340, H⟩ := H
     try dsimp only at H
     have A34 := Aside0.mk A340
     clear A340
     by_cases c35 : t203 = true
     ·subst c35
      rw [if_pos rfl] at H
      replace H := Option.bind_eq_some_iff.mp H
      obtain ⟨⟨t204, t205⟩, A360, H⟩ := H
      try dsimp only at H
      have A36 := Aside0.mk A360
      clear A360
      have HC37 := Aside0.mk H
      clear H
      try go_wp2
      have n0_ := Aside0.mk (Kd.R_drew HO_4.out)
      have n1_ := Aside0.mk (Kd.R_drew HO_7.out)
      have n2_ := Aside0.mk (Kd.R_drew HO_195000.out)
      have n3_ := Aside0.mk (blk_drew BK182.out)
      have n4_ := Aside0.mk (blk_drew BK194.out)
      have n5_ := Aside0.mk (below_drew1 HB.out)
      clear HO_4
      clear HO_7
      clear HO_195000
      clear BK182
      clear BK194
      clear HB
      have HO_4 := n0_
      have HO_7 := n1_
      have HO_195000 := n2_
      have BK182 := n3_
      have BK194 := n4_
      have HB := n5_
      clear n0_ n1_ n2_ n3_ n4_ n5_
      refine start_ (n := 5) (S := fun w' => w'.cell? ⟨gb194, 0, none⟩ = some (.slice Ao22 t191.length co22) ∧ w'.cell? ⟨gb182, 0, none⟩ = some (.slice A0_0 l0_0.length c0_0)) (ds := []) #[false, false, false, false, false] z0 rfl rfl ⟨(blk_cell BK194.out 0).trans rfl, (blk_cell BK182.out 0).trans rfl⟩ (fun hHeld => ?_)
      generalize wc.drew = w38 at HO_4 HO_7 HO_195000 BK182 BK194 HB hHeld ⊢
      refine tA 0 41 ?_ (hy := by rintro w' ⟨s0, s1⟩; go_simp; with_reducible rfl)
      refine tA 1 42 ?_ (hy := by rintro w' ⟨s0, s1⟩; go_simp; with_reducible rfl)
      refine one_ (i := 2) (N := some 43) #[true, true, true, false, false] rfl rfl z0 (by decide) (fun K hK => ?_)
      refine goes_ Try.func16 z0 rfl #[.agg #[.slice A0_0 l0_0.length c0_0]] (by rfl) rfl rfl z8 ?_
      with_reducible refine (laws_toRope.calls kj10 _ _ l0_0 t200 _ ?side1 ?side2 A33.out).mono ?_
      (case side1 => repeat (first | exact (Kd.C_below HR0_0.out HB.out) | (with_reducible refine Kd.C_alloc ?_ _) | (with_reducible refine Kd.C_drewN ?_ _) | (with_reducible refine Kd.C_drew ?_)))
      (case side2 => exact HC0_0.out)
      rintro e w39 ⟨v201, rfl, ho0, hb⟩
      refine ⟨_, rfl, ?_⟩
      have n0_ := Aside0.mk (Kd.R_below (by (with_reducible repeat (first | apply Kd.R_alloc | apply Kd.R_drewN | apply Kd.R_drew)); exact HO_4.out) hb)
      have n1_ := Aside0.mk (Kd.R_below (by (with_reducible repeat (first | apply Kd.R_alloc | apply Kd.R_drewN | apply Kd.R_drew)); exact HO_7.out) hb)
      have n2_ := Aside0.mk (Kd.R_elder' z3 (Kd.R_base ho0) hb)
      have n3_ := Aside0.mk (Kd.R_lower (Kd.R_new' ho0 (Kd.R_lt z3)) (below_size z11))
      have n4_ := Aside0.mk (blk_below (g := gb182) (o := .cells #[.slice A0_0 l0_0.length c0_0] 24 (0, 0)) z5 hb)
      have n5_ := Aside0.mk (blk_below (g := gb194) (o := .cells #[.slice Ao22 t191.length co22] 29 (0, 0)) z6 hb)
      have n6_ := Aside0.mk (below_step z11 hb)
      clear HO_4
      clear HO_7
      clear HO_195000
      clear BK182
      clear BK194
      clear HB
      have HO_4 := n0_
      have HO_7 := n1_
      have HO_195000 := n2_
      have HO202 := n3_
      have BK182 := n4_
      have BK194 := n5_
      have HB := n6_
      clear n0_ n1_ n2_ n3_ n4_ n5_ n6_
      (try clear hb)
      (try clear hb2)
      (try clear hk)
      (try clear hi)
      (try clear ho0)
      obtain ⟨Ao40, co40, eo40⟩ := Kd.R_slice HO202.out
      (first | subst eo40 | (injection eo40 with f1_ f2_ f3_; have f4_ := f1_.symm; have f5_ := f3_.symm; clear f1_ f2_ f3_; subst f4_; subst f5_))
      refine hK.out _ _ ⟨(blk_cell BK194.out 0).trans rfl, (blk_cell BK182.out 0).trans rfl⟩ (fun hHeld => ?_)
      clear hK K
      refine norm_ (a' := ?_) ?_ ?_
      rotate_left
      ·show Act.put _ (some 43) _ = _
       simp only [Act.put, List.setIfInBounds_toArray, List.set_cons_zero, List.set_cons_succ, i64_w, i32_w]
       rfl
      refine one_ (i := 3) (N := some 44) #[true, true, true, true, false] rfl rfl z0 (by decide) (fun K hK => ?_)
      refine goes_ Try.func18 z0 rfl #[.agg #[.slice Ao22 t191.length co22], .agg #[.slice Ao40 t200.length co40]] (by rfl) rfl rfl z8 ?_
      with_reducible refine (laws_eqRope.calls kj10 _ _ t191 _ _ t200 true _ ?side1 ?side2 ?side3 ?side4 A34.out).mono ?_
      (case side1 => repeat (first | exact (Kd.R_reads' HO_195000.out).2.2 | (with_reducible refine Kd.C_alloc ?_ _) | (with_reducible refine Kd.C_drewN ?_ _) | (with_reducible refine Kd.C_drew ?_)))
      (case side2 => exact (Kd.R_reads' HO_195000.out).2.1)
      (case side3 => repeat (first | exact (Kd.R_reads' HO202.out).2.2 | (with_reducible refine Kd.C_alloc ?_ _) | (with_reducible refine Kd.C_drewN ?_ _) | (with_reducible refine Kd.C_drew ?_)))
      (case side4 => exact (Kd.R_reads' HO202.out).2.1)
      rintro e w41 ⟨rfl, hb⟩
      refine ⟨_, rfl, ?_⟩
      have n0_ := Aside0.mk (Kd.R_below (by (with_reducible repeat (first | apply Kd.R_alloc | apply Kd.R_drewN | apply Kd.R_drew)); exact HO_4.out) hb)
      have n1_ := Aside0.mk (Kd.R_below (by (with_reducible repeat (first | apply Kd.R_alloc | apply Kd.R_drewN | apply Kd.R_drew)); exact HO_7.out) hb)
      have n2_ := Aside0.mk (Kd.R_below z3 hb)
      have n3_ := Aside0.mk (Kd.R_below (by (with_reducible repeat (first | apply Kd.R_alloc | apply Kd.R_drewN | apply Kd.R_drew)); exact HO202.out) hb)
      have n4_ := Aside0.mk (blk_below (g := gb182) (o := .cells #[.slice A0_0 l0_0.length c0_0] 24 (0, 0)) z5 hb)
      have n5_ := Aside0.mk (blk_below (g := gb194) (o := .cells #[.slice Ao22 t191.length co22] 29 (0, 0)) z6 hb)
      have n6_ := Aside0.mk (below_step z11 hb)
      clear HO_4
      clear HO_7
      clear HO_195000
      clear HO202
      clear BK182
      clear BK194
      clear HB
      have HO_4 := n0_
      have HO_7 := n1_
      have HO_195000 := n2_
      have HO202 := n3_
      have BK182 := n4_
      have BK194 := n5_
      have HB := n6_
      clear n0_ n1_ n2_ n3_ n4_ n5_ n6_
      (try clear hb)
      (try clear hb2)
      (try clear hk)
      (try clear hi)
      refine hK.out _ _ ⟨(blk_cell BK194.out 0).trans rfl, (blk_cell BK182.out 0).trans rfl⟩ (fun hHeld => ?_)
      clear hK K
      refine norm_ (a' := ?_) ?_ ?_
      rotate_left
      ·show Act.put _ (some 44) _ = _
       simp only [Act.put, List.setIfInBounds_toArray, List.set_cons_zero, List.set_cons_succ, i64_w, i32_w]
       rfl
      refine pA 4 45 ?_
      refine done_ z0 ?_
      have hnb42 := NB194_182.out
      have hnc42 := NB182_194.out
      have hcz43_0 : w41.cell? ⟨gb194, 0, none⟩ = some (.slice Ao22 t191.length co22) := (blk_cell BK194.out 0).trans rfl
      have hfz43_0 := blk_frozen BK194.out 0
      go_upto_region 14 with (first | ((with_reducible refine gate_callee (f := 27) rfl ?_); refine goesL_ (some 48) rfl rfl Try.func27 z0 rfl #[.agg #[.slice Ao22 t191.length co22], .int .i64 1] rfl z8 ?_; (with_reducible refine (laws_markRope.calls kj10 (fun k_ => some k_ = (.slice Ao22 t191.length co22 : Value).ownBlock) (.slice Ao22 t191.length co22) t191 1 t204 t205 w _ ?side1 ?side2 A36.out).mono ?_); (case side1 => repeat (first | (with_reducible first | exact HB.out | apply below_alloc | apply pw_below_drewN | apply below_drew1 | refine below_set ?_ GE182.out | refine below_set ?_ GE194.out) | exact HB.out)); (case side2 => exact Kd.R_tight rfl HO_195000.out); rintro e w44 ⟨rfl, hy0, hb, hkp⟩; refine ⟨_, rfl, ?_⟩; have n0_ := Aside0.mk (Kd.R_mono (ok' := fun k_ => some k_ ≠ (v196 : Value).ownBlock) (Kd.R_keptB ((Kd.R_apart' HO_4.out (Kd.R_typed HO_195000.out) (by decide))) hkp (fun k_ hk_ hs_ => (hk_.2) hs_)) (fun k_ hk_ => hk_.1.1)); have n1_ := Aside0.mk (Kd.R_mono (ok' := fun k_ => some k_ ≠ (v188 : Value).ownBlock) (Kd.R_keptB ((Kd.R_apart' HO_7.out (Kd.R_typed HO_195000.out) (by decide))) hkp (fun k_ hk_ hs_ => (hk_.2) hs_)) (fun k_ hk_ => hk_.1.1)); have n2_ := Aside0.mk (Kd.R_reok rfl hy0 (fun k_ e_ => HO_195000.out.1 k_ e_)); have n3_ := Aside0.mk (blk_kept z5 hkp (fun hs_ => (fun e_ => (Kd.R_ne HO_195000.out BK182.out (by decide)) e_) hs_)); have n4_ := Aside0.mk (blk_kept z6 hkp (fun hs_ => (fun e_ => (Kd.R_ne HO_195000.out BK194.out (by decide)) e_) hs_)); have n5_ := Aside0.mk (Kd.R_mono (ok' := fun k_ => some k_ ≠ (.slice Ao22 t191.length co22 : Value).ownBlock) (Kd.R_keptB (HO202.out) hkp (fun k_ hk_ hs_ => (hk_.2) hs_)) (fun k_ hk_ => hk_.1.2)); have n6_ := Aside0.mk (hb); clear HO_4; clear HO_7; clear HO_195000; clear BK182; clear BK194; clear HO202; clear HB; have HO_4 := n0_; have HO_7 := n1_; have HO_195000 := n2_; have BK182 := n3_; have BK194 := n4_; have HO202 := n5_; have HB := n6_; clear n0_ n1_ n2_ n3_ n4_ n5_ n6_; (try clear hb); (try clear hkp); (try clear hy0)))
      (try simp only [Act.put, List.setIfInBounds_toArray, List.set_cons_zero, List.set_cons_succ])
      go_cut [61] (fun v61 wc => ∃ (kq : Nat) (x61_36 : Bool), v61 = .bool x61_36 ∧ Aside0 (laws_FnExactPiecesOf.j1 kq t187 t190 t195 x61_36 l0_0 = some r) ∧ Aside0 (kq ≤ kj10) ∧ Aside0 (Kd.R Kd.string 9 wc w.heap.size (fun k_ => some k_ ≠ (v196 : Value).ownBlock) v188 t187) ∧ Aside0 (Kd.R Kd.string 9 wc w.heap.size (fun k_ => some k_ ≠ (v188 : Value).ownBlock) v196 t195) ∧ Aside0 (Kd.R k58 58 wc w.heap.size (fun _ => True) (.slice Ao22 t191.length co22) t205) ∧ Aside0 (wc.heap[gb182]? = some (.cells #[(.slice A0_0 l0_0.length c0_0)] 24 (0, 0))) ∧ Aside0 (wc.heap[gb194]? = some (.cells #[(.slice Ao22 t191.length co22)] 29 (0, 0))) ∧ Aside0 (Below w.heap.size w wc))
      case first =>
       have H := HC37.out
       clear HC37
       by_cases c45 : t204 < 0
       ·rw [if_pos c45] at H
        have c45b0 : decide (t204 < 0) = true := decide_eq_true c45
        clear c45
        (first | rw [c45b0] | (simp only [i64_w, i32_w]; rw [c45b0]) | skip)
        have H' := Aside0.mk H
        clear H
        go_wp2
        go_meet
        case rel => exact ⟨_, (true), z1, H', ⟨by have := HJ10.out; first | omega | exact Nat.le_refl _⟩, ⟨by (with_reducible repeat (first | apply Kd.R_alloc | apply Kd.R_drewN | apply Kd.R_drew)); exact HO_4.out⟩, ⟨by (with_reducible repeat (first | apply Kd.R_alloc | apply Kd.R_drewN | apply Kd.R_drew)); exact HO_7.out⟩, ⟨by (with_reducible repeat (first | apply Kd.R_alloc | apply Kd.R_drewN | apply Kd.R_drew)); exact Kd.R_mono HO_195000.out (fun _ hk => trivial)⟩, ⟨by (with_reducible repeat (first | refine blk_drewN ?_ _ | refine blk_drew ?_ | refine blk_alloc ?_ _)); exact BK182.out⟩, ⟨by (with_reducible repeat (first | refine blk_drewN ?_ _ | refine blk_drew ?_ | refine blk_alloc ?_ _)); exact BK194.out⟩, ⟨by repeat (first | (with_reducible first | exact HB.out | apply below_alloc | apply pw_below_drewN | apply below_drew1 | refine below_set ?_ GE182.out | refine below_set ?_ GE194.out) | exact HB.out)⟩⟩
       ·rw [if_neg c45] at H
        have c45b0 : decide (t204 < 0) = false := decide_eq_false c45
        clear c45
        (first | rw [c45b0] | (simp only [i64_w, i32_w]; rw [c45b0]) | skip)
        replace H := Option.bind_eq_some_iff.mp H
        obtain ⟨t206, A460, H⟩ := H
        try dsimp only at H
        have A46 := Aside0.mk A460
        clear A460
        by_cases c47 : t206 = true
        ·subst c47
         rw [if_pos rfl] at H
         have H' := Aside0.mk H
         clear H
         obtain ⟨Ao48, co48, eo48⟩ := Kd.R_slice HO_7.out
         subst eo48
         obtain ⟨Ao49, co49, eo49⟩ := Kd.R_slice HO_4.out
         subst eo49
         go_wp2_with (first | (go_at_call 31; (with_reducible refine (laws_eqStringS.calls kj10 _ _ t195 _ _ t187 true _ ?side1 ?side2 ?side3 ?side4 A46.out).mono ?_); (case side1 => repeat (first | exact (Kd.R_reads' HO_7.out).2.2 | (with_reducible refine Kd.C_alloc ?_ _) | (with_reducible refine Kd.C_drewN ?_ _) | (with_reducible refine Kd.C_drew ?_))); (case side2 => exact (Kd.R_reads' HO_7.out).2.1); (case side3 => repeat (first | exact (Kd.R_reads' HO_4.out).2.2 | (with_reducible refine Kd.C_alloc ?_ _) | (with_reducible refine Kd.C_drewN ?_ _) | (with_reducible refine Kd.C_drew ?_))); (case side4 => exact (Kd.R_reads' HO_4.out).2.1); rintro e w' ⟨rfl, ⟨nd, rfl⟩⟩))
         go_meet
         case rel => exact ⟨_, ((t198 != t190)), z1, H', ⟨by have := HJ10.out; first | omega | exact Nat.le_refl _⟩, ⟨by (with_reducible repeat (first | apply Kd.R_alloc | apply Kd.R_drewN | apply Kd.R_drew)); exact HO_4.out⟩, ⟨by (with_reducible repeat (first | apply Kd.R_alloc | apply Kd.R_drewN | apply Kd.R_drew)); exact HO_7.out⟩, ⟨by (with_reducible repeat (first | apply Kd.R_alloc | apply Kd.R_drewN | apply Kd.R_drew)); exact Kd.R_mono HO_195000.out (fun _ hk => trivial)⟩, ⟨by (with_reducible repeat (first | refine blk_drewN ?_ _ | refine blk_drew ?_ | refine blk_alloc ?_ _)); exact BK182.out⟩, ⟨by (with_reducible repeat (first | refine blk_drewN ?_ _ | refine blk_drew ?_ | refine blk_alloc ?_ _)); exact BK194.out⟩, ⟨by repeat (first | (with_reducible first | exact HB.out | apply below_alloc | apply pw_below_drewN | apply below_drew1 | refine below_set ?_ GE182.out | refine below_set ?_ GE194.out) | exact HB.out)⟩⟩
        ·replace c47 := Bool.eq_false_iff.mpr c47
         subst c47
         rw [if_neg (show ¬ (false = true) by decide)] at H
         have H' := Aside0.mk H
         clear H
         obtain ⟨Ao50, co50, eo50⟩ := Kd.R_slice HO_7.out
         subst eo50
         obtain ⟨Ao51, co51, eo51⟩ := Kd.R_slice HO_4.out
         subst eo51
         go_wp2_with (first | (go_at_call 31; (with_reducible refine (laws_eqStringS.calls kj10 _ _ t195 _ _ t187 false _ ?side1 ?side2 ?side3 ?side4 A46.out).mono ?_); (case side1 => repeat (first | exact (Kd.R_reads' HO_7.out).2.2 | (with_reducible refine Kd.C_alloc ?_ _) | (with_reducible refine Kd.C_drewN ?_ _) | (with_reducible refine Kd.C_drew ?_))); (case side2 => exact (Kd.R_reads' HO_7.out).2.1); (case side3 => repeat (first | exact (Kd.R_reads' HO_4.out).2.2 | (with_reducible refine Kd.C_alloc ?_ _) | (with_reducible refine Kd.C_drewN ?_ _) | (with_reducible refine Kd.C_drew ?_))); (case side4 => exact (Kd.R_reads' HO_4.out).2.1); rintro e w' ⟨rfl, ⟨nd, rfl⟩⟩))
         go_meet
         case rel => exact ⟨_, (true), z1, H', ⟨by have := HJ10.out; first | omega | exact Nat.le_refl _⟩, ⟨by (with_reducible repeat (first | apply Kd.R_alloc | apply Kd.R_drewN | apply Kd.R_drew)); exact HO_4.out⟩, ⟨by (with_reducible repeat (first | apply Kd.R_alloc | apply Kd.R_drewN | apply Kd.R_drew)); exact HO_7.out⟩, ⟨by (with_reducible repeat (first | apply Kd.R_alloc | apply Kd.R_drewN | apply Kd.R_drew)); exact Kd.R_mono HO_195000.out (fun _ hk => trivial)⟩, ⟨by (with_reducible repeat (first | refine blk_drewN ?_ _ | refine blk_drew ?_ | refine blk_alloc ?_ _)); exact BK182.out⟩, ⟨by (with_reducible repeat (first | refine blk_drewN ?_ _ | refine blk_drew ?_ | refine blk_alloc ?_ _)); exact BK194.out⟩, ⟨by repeat (first | (with_reducible first | exact HB.out | apply below_alloc | apply pw_below_drewN | apply below_drew1 | refine below_set ?_ GE182.out | refine below_set ?_ GE194.out) | exact HB.out)⟩⟩
      case rest =>
       clear HC37
       try clear c1
       try clear c2
       try clear p2
       try clear c3
       try clear c3b0
       try clear c4
       try clear c8
       try clear c14
       try clear c16
       try clear c18
       try clear c23
       try clear c27
       try clear c29
       try clear c30
       try clear c31
       try clear c32
       try clear c35
       try clear c42
       try clear c45
       try clear c45b0
       try clear c47
       try clear hcz13_0
       try clear hcz15_0
       try clear hcz19_0
       try clear hcz24_0
       try clear hcz43_0
       try clear hcz5_0
       try clear hfz13_0
       try clear hfz15_0
       try clear hfz19_0
       try clear hfz24_0
       try clear hfz43_0
       try clear hfz5_0
       try clear p2
       obtain ⟨kq, x61_36, rfl, HA, HJ36, HO_4, HO_7, HO_195000, BK182, BK194, HB⟩ := hcut
       have hl195000_36 := (Kd.R_reads' HO_195000.out).1
       rw [hl195000_36] at HO_195000
       (try simp only [hl195000_36])
       (try simp only [hl195000_36] at BK182)
       (try simp only [hl195000_36] at BK194)
       (try simp only [hl195000_36] at HO_4)
       (try simp only [hl195000_36] at HO_7)
       cases kq with
       | zero => exact absurd HA.out (by simp [laws_FnExactPiecesOf.j1])
       | succ kj36 =>
        have H := HA.out
        clear HA
        simp only [laws_FnExactPiecesOf.j1] at H
        by_cases c52 : x61_36 = true
        ·subst c52
         rw [if_pos rfl] at H
         first | (cases H.trans (congrArg some HRT.out); done) | skip
         all_goals
          obtain rfl := Option.some.inj H
          go_wp2
          go_ret
          exact ⟨by first | rfl | (simp [errW_none, errW_some] <;> rfl) | (simp [*, errW_none, errW_some] <;> rfl), by repeat (first | (with_reducible first | exact HB.out | apply below_alloc | apply pw_below_drewN | apply below_drew1 | refine below_set ?_ GE182.out | refine below_set ?_ GE194.out) | exact HB.out)⟩
        ·replace c52 := Bool.eq_false_iff.mpr c52
         subst c52
         rw [if_neg (show ¬ (false = true) by decide)] at H
         replace H := Option.bind_eq_some_iff.mp H
         obtain ⟨⟨t207, t208⟩, A530, H⟩ := H
         try dsimp only at H
         have A53 := Aside0.mk A530
         clear A530
         replace H := Option.bind_eq_some_iff.mp H
         obtain ⟨t209, A540, H⟩ := H
         try dsimp only at H
         have A54 := Aside0.mk A540
         clear A540
         by_cases c55 : t209 < 0
         ·rw [if_pos c55] at H
          have c55b0 : decide (t209 < 0) = true := decide_eq_true c55
          clear c55
          first | (cases H.trans (congrArg some HRT.out); done) | skip
          all_goals
           obtain rfl := Option.some.inj H
           obtain ⟨Ao56, co56, eo56⟩ := Kd.R_slice HO_7.out
           subst eo56
           go_wp2_with (first | ((with_reducible refine gate_callee (f := 32) rfl ?_); refine goesL_ (some 64) rfl rfl Try.func32 z0 rfl #[.slice Ao56 t195.length co56, .int .i64 1] rfl z8 ?_; (with_reducible refine (laws_markStringS.calls kj36 (fun k_ => some k_ = (.slice Ao56 t195.length co56 : Value).ownBlock) (.slice Ao56 t195.length co56) t195 1 t207 t208 w _ ?side1 ?side2 A53.out).mono ?_); (case side1 => repeat (first | (with_reducible first | exact HB.out | apply below_alloc | apply pw_below_drewN | apply below_drew1 | refine below_set ?_ GE182.out | refine below_set ?_ GE194.out) | exact HB.out)); (case side2 => exact Kd.R_tight rfl HO_7.out); rintro e w57 ⟨rfl, hy0, hb, hkp⟩; refine ⟨_, rfl, ?_⟩; have n0_ := Aside0.mk (Kd.R_mono (ok' := fun k_ => some k_ ≠ (.slice Ao56 t195.length co56 : Value).ownBlock) (Kd.R_keptB (HO_4.out) hkp (fun k_ hk_ hs_ => (hk_) hs_)) (fun k_ hk_ => hk_.1)); have n1_ := Aside0.mk (Kd.R_reok rfl hy0 (fun k_ e_ => HO_7.out.1 k_ e_)); have n2_ := Aside0.mk (Kd.R_mono (ok' := fun k_ => True) (Kd.R_keptB ((Kd.R_apart' HO_195000.out (Kd.R_typed HO_7.out) (by decide))) hkp (fun k_ hk_ hs_ => (hk_.2) hs_)) (fun k_ hk_ => trivial)); have n3_ := Aside0.mk (blk_kept z5 hkp (fun hs_ => (fun e_ => (Kd.R_ne HO_7.out BK182.out (by decide)) e_) hs_)); have n4_ := Aside0.mk (blk_kept z6 hkp (fun hs_ => (fun e_ => (Kd.R_ne HO_7.out BK194.out (by decide)) e_) hs_)); have n5_ := Aside0.mk (hb); clear HO_4; clear HO_7; clear HO_195000; clear BK182; clear BK194; clear HB; have HO_4 := n0_; have HO_7 := n1_; have HO_195000 := n2_; have BK182 := n3_; have BK194 := n4_; have HB := n5_; clear n0_ n1_ n2_ n3_ n4_ n5_; (try clear hb); (try clear hkp); (try clear hy0)) | ((with_reducible refine gate_callee (f := 33) rfl ?_); refine goesL_ (some 67) rfl rfl Try.func33 z0 rfl #[.slice Ao56 t208.length co56, .int .i64 1] rfl (by (try simp only [List.map_toArray, List.map_cons, List.map_nil]); first | done | (rw [show t208.length = t195.length from (Kd.R_reads' HO_7.out).1.symm] <;> rfl) | rfl | (simp only [List.length_drop, List.length_take]; rfl)) ?_; (with_reducible refine (laws_heldStringS.calls kj36 _ _ t208 1 t209 _ ?side1 ?side2 A54.out).mono ?_); (case side1 => repeat (first | exact (Kd.R_reads' HO_7.out).2.2 | (with_reducible refine Kd.C_alloc ?_ _) | (with_reducible refine Kd.C_drewN ?_ _) | (with_reducible refine Kd.C_drew ?_))); (case side2 => rw [show t208.length = t195.length from (Kd.R_reads' HO_7.out).1.symm]; exact (Kd.R_reads' HO_7.out).2.1); rintro e w58 ⟨rfl, hb⟩; refine ⟨_, rfl, ?_⟩; have n0_ := Aside0.mk (Kd.R_below (by (with_reducible repeat (first | apply Kd.R_alloc | apply Kd.R_drewN | apply Kd.R_drew)); exact HO_4.out) hb); have n1_ := Aside0.mk (Kd.R_below (by (with_reducible repeat (first | apply Kd.R_alloc | apply Kd.R_drewN | apply Kd.R_drew)); exact HO_7.out) hb); have n2_ := Aside0.mk (Kd.R_below z3 hb); have n3_ := Aside0.mk (blk_below (g := gb182) (o := .cells #[.slice A0_0 l0_0.length c0_0] 24 (0, 0)) z5 hb); have n4_ := Aside0.mk (blk_below (g := gb194) (o := .cells #[.slice Ao22 t205.length co22] 29 (0, 0)) z6 hb); have n5_ := Aside0.mk (below_step z11 hb); clear HO_4; clear HO_7; clear HO_195000; clear BK182; clear BK194; clear HB; have HO_4 := n0_; have HO_7 := n1_; have HO_195000 := n2_; have BK182 := n3_; have BK194 := n4_; have HB := n5_; clear n0_ n1_ n2_ n3_ n4_ n5_; (try clear hb); (try clear hb2); (try clear hk); (try clear hi)))
           go_ret
           exact ⟨by first | rfl | (simp [errW_none, errW_some] <;> rfl) | (simp [*, errW_none, errW_some] <;> rfl), by repeat (first | (with_reducible first | exact HB.out | apply below_alloc | apply pw_below_drewN | apply below_drew1 | refine below_set ?_ GE182.out | refine below_set ?_ GE194.out) | exact HB.out)⟩
         ·rw [if_neg c55] at H
          have c55b0 : decide (t209 < 0) = false := decide_eq_false c55
          clear c55
          by_cases c59 : t209 = t207
          ·rw [if_pos c59] at H
           have c59b0 : (t209 == t207) = true := beq_iff_eq.mpr c59
           have c59b1 : (t209 != t207) = false := bne_eq_false_iff_eq.mpr c59
           clear c59
           replace H := Option.bind_eq_some_iff.mp H
           obtain ⟨t210, A600, H⟩ := H
           try dsimp only at H
           have A60 := Aside0.mk A600
           clear A600
           replace H := Option.bind_eq_some_iff.mp H
           obtain ⟨⟨t213, t216⟩, A610, H⟩ := H
           try dsimp only at H
           have A61 := Aside0.mk A610
           clear A610
           have HC62 := Aside0.mk H
           clear H
           obtain ⟨Ao63, co63, eo63⟩ := Kd.R_slice HO_7.out
           subst eo63
           go_upto_region 25 with (first | ((with_reducible refine gate_callee (f := 32) rfl ?_); refine goesL_ (some 64) rfl rfl Try.func32 z0 rfl #[.slice Ao63 t195.length co63, .int .i64 1] rfl z8 ?_; (with_reducible refine (laws_markStringS.calls kj36 (fun k_ => some k_ = (.slice Ao63 t195.length co63 : Value).ownBlock) (.slice Ao63 t195.length co63) t195 1 t207 t208 w _ ?side1 ?side2 A53.out).mono ?_); (case side1 => repeat (first | (with_reducible first | exact HB.out | apply below_alloc | apply pw_below_drewN | apply below_drew1 | refine below_set ?_ GE182.out | refine below_set ?_ GE194.out) | exact HB.out)); (case side2 => exact Kd.R_tight rfl HO_7.out); rintro e w64 ⟨rfl, hy0, hb, hkp⟩; refine ⟨_, rfl, ?_⟩; have n0_ := Aside0.mk (Kd.R_mono (ok' := fun k_ => some k_ ≠ (.slice Ao63 t195.length co63 : Value).ownBlock) (Kd.R_keptB (HO_4.out) hkp (fun k_ hk_ hs_ => (hk_) hs_)) (fun k_ hk_ => hk_.1)); have n1_ := Aside0.mk (Kd.R_reok rfl hy0 (fun k_ e_ => HO_7.out.1 k_ e_)); have n2_ := Aside0.mk (Kd.R_mono (ok' := fun k_ => True) (Kd.R_keptB ((Kd.R_apart' HO_195000.out (Kd.R_typed HO_7.out) (by decide))) hkp (fun k_ hk_ hs_ => (hk_.2) hs_)) (fun k_ hk_ => trivial)); have n3_ := Aside0.mk (blk_kept z5 hkp (fun hs_ => (fun e_ => (Kd.R_ne HO_7.out BK182.out (by decide)) e_) hs_)); have n4_ := Aside0.mk (blk_kept z6 hkp (fun hs_ => (fun e_ => (Kd.R_ne HO_7.out BK194.out (by decide)) e_) hs_)); have n5_ := Aside0.mk (hb); clear HO_4; clear HO_7; clear HO_195000; clear BK182; clear BK194; clear HB; have HO_4 := n0_; have HO_7 := n1_; have HO_195000 := n2_; have BK182 := n3_; have BK194 := n4_; have HB := n5_; clear n0_ n1_ n2_ n3_ n4_ n5_; (try clear hb); (try clear hkp); (try clear hy0)) | ((with_reducible refine gate_callee (f := 33) rfl ?_); refine goesL_ (some 67) rfl rfl Try.func33 z0 rfl #[.slice Ao63 t208.length co63, .int .i64 1] rfl (by (try simp only [List.map_toArray, List.map_cons, List.map_nil]); first | done | (rw [show t208.length = t195.length from (Kd.R_reads' HO_7.out).1.symm] <;> rfl) | rfl | (simp only [List.length_drop, List.length_take]; rfl)) ?_; (with_reducible refine (laws_heldStringS.calls kj36 _ _ t208 1 t209 _ ?side1 ?side2 A54.out).mono ?_); (case side1 => repeat (first | exact (Kd.R_reads' HO_7.out).2.2 | (with_reducible refine Kd.C_alloc ?_ _) | (with_reducible refine Kd.C_drewN ?_ _) | (with_reducible refine Kd.C_drew ?_))); (case side2 => rw [show t208.length = t195.length from (Kd.R_reads' HO_7.out).1.symm]; exact (Kd.R_reads' HO_7.out).2.1); rintro e w65 ⟨rfl, hb⟩; refine ⟨_, rfl, ?_⟩; have n0_ := Aside0.mk (Kd.R_below (by (with_reducible repeat (first | apply Kd.R_alloc | apply Kd.R_drewN | apply Kd.R_drew)); exact HO_4.out) hb); have n1_ := Aside0.mk (Kd.R_below (by (with_reducible repeat (first | apply Kd.R_alloc | apply Kd.R_drewN | apply Kd.R_drew)); exact HO_7.out) hb); have n2_ := Aside0.mk (Kd.R_below z3 hb); have n3_ := Aside0.mk (blk_below (g := gb182) (o := .cells #[.slice A0_0 l0_0.length c0_0] 24 (0, 0)) z5 hb); have n4_ := Aside0.mk (blk_below (g := gb194) (o := .cells #[.slice Ao22 t205.length co22] 29 (0, 0)) z6 hb); have n5_ := Aside0.mk (below_step z11 hb); clear HO_4; clear HO_7; clear HO_195000; clear BK182; clear BK194; clear HB; have HO_4 := n0_; have HO_7 := n1_; have HO_195000 := n2_; have BK182 := n3_; have BK194 := n4_; have HB := n5_; clear n0_ n1_ n2_ n3_ n4_ n5_; (try clear hb); (try clear hb2); (try clear hk); (try clear hi); have hnb66 := NB182_194.out; have hnc66 := NB194_182.out; have hcz67_0 : w65.cell? ⟨gb182, 0, none⟩ = some (.slice A0_0 l0_0.length c0_0) := (blk_cell BK182.out 0).trans rfl; have hfz67_0 := blk_frozen BK182.out 0) | ((with_reducible refine gate_callee (f := 16) rfl ?_); refine goesL_ (some 75) rfl rfl Try.func16 z0 rfl #[.agg #[.slice A0_0 l0_0.length c0_0]] rfl z8 ?_; (with_reducible refine (laws_toRope.calls kj36 _ _ l0_0 t210 _ ?side1 ?side2 A60.out).mono ?_); (case side1 => repeat (first | exact (Kd.C_below HR0_0.out HB.out) | (with_reducible refine Kd.C_alloc ?_ _) | (with_reducible refine Kd.C_drewN ?_ _) | (with_reducible refine Kd.C_drew ?_))); (case side2 => exact HC0_0.out); rintro e w68 ⟨v211, rfl, ho0, hb⟩; refine ⟨_, rfl, ?_⟩; have n0_ := Aside0.mk (Kd.R_below (by (with_reducible repeat (first | apply Kd.R_alloc | apply Kd.R_drewN | apply Kd.R_drew)); exact HO_4.out) hb); have n1_ := Aside0.mk (Kd.R_below (by (with_reducible repeat (first | apply Kd.R_alloc | apply Kd.R_drewN | apply Kd.R_drew)); exact HO_7.out) hb); have n2_ := Aside0.mk (Kd.R_elder' z3 (Kd.R_base ho0) hb); have n3_ := Aside0.mk (Kd.R_lower (Kd.R_new' ho0 (Kd.R_lt z3)) (below_size z11)); have n4_ := Aside0.mk (blk_below (g := gb182) (o := .cells #[.slice A0_0 l0_0.length c0_0] 24 (0, 0)) z5 hb); have n5_ := Aside0.mk (blk_below (g := gb194) (o := .cells #[.slice Ao22 t205.length co22] 29 (0, 0)) z6 hb); have n6_ := Aside0.mk (below_step z11 hb); clear HO_4; clear HO_7; clear HO_195000; clear BK182; clear BK194; clear HB; have HO_4 := n0_; have HO_7 := n1_; have HO_195000 := n2_; have HO212 := n3_; have BK182 := n4_; have BK194 := n5_; have HB := n6_; clear n0_ n1_ n2_ n3_ n4_ n5_ n6_; (try clear hb); (try clear hb2); (try clear hk); (try clear hi); (try clear ho0); obtain ⟨Ao69, co69, eo69⟩ := Kd.R_slice HO212.out; subst eo69) | ((with_reducible refine gate_callee (f := 30) rfl ?_); refine goesL_ (some 76) rfl rfl Try.func30 z0 rfl #[.agg #[.slice Ao69 t210.length co69]] rfl z8 ?_; (with_reducible refine (impl_PiecesOf.calls kj36 _ _ t210 t213 t216 _ ?side1 ?side2 A61.out).mono ?_); (case side1 => repeat (first | exact (Kd.R_reads' HO212.out).2.2 | (with_reducible refine Kd.C_alloc ?_ _) | (with_reducible refine Kd.C_drewN ?_ _) | (with_reducible refine Kd.C_drew ?_))); (case side2 => exact (Kd.R_reads' HO212.out).2.1); rintro e w70 ⟨v214, rfl, ho0, hb⟩; refine ⟨_, rfl, ?_⟩; have n0_ := Aside0.mk (Kd.R_elder' (by (with_reducible repeat (first | apply Kd.R_alloc | apply Kd.R_drewN | apply Kd.R_drew)); exact HO_4.out) (Kd.R_base ho0) hb); have n1_ := Aside0.mk (Kd.R_elder' (by (with_reducible repeat (first | apply Kd.R_alloc | apply Kd.R_drewN | apply Kd.R_drew)); exact HO_7.out) (Kd.R_base ho0) hb); have n2_ := Aside0.mk (Kd.R_below z3 hb); have n3_ := Aside0.mk (Kd.R_below (by (with_reducible repeat (first | apply Kd.R_alloc | apply Kd.R_drewN | apply Kd.R_drew)); exact HO212.out) hb); have n4_ := Aside0.mk (Kd.R_lower (Kd.R_new' (Kd.R_new' ho0 (Kd.R_lt (by (with_reducible repeat (first | apply Kd.R_alloc | apply Kd.R_drewN | apply Kd.R_drew)); exact HO_4.out))) (Kd.R_lt (by (with_reducible repeat (first | apply Kd.R_alloc | apply Kd.R_drewN | apply Kd.R_drew)); exact HO_7.out))) (below_size z11)); have n5_ := Aside0.mk (blk_below (g := gb182) (o := .cells #[.slice A0_0 l0_0.length c0_0] 24 (0, 0)) z5 hb); have n6_ := Aside0.mk (blk_below (g := gb194) (o := .cells #[.slice Ao22 t205.length co22] 29 (0, 0)) z6 hb); have n7_ := Aside0.mk (below_step z11 hb); clear HO_4; clear HO_7; clear HO_195000; clear HO212; clear BK182; clear BK194; clear HB; have HO_4 := n0_; have HO_7 := n1_; have HO_195000 := n2_; have HO212 := n3_; have HO215 := n4_; have BK182 := n5_; have BK194 := n6_; have HB := n7_; clear n0_ n1_ n2_ n3_ n4_ n5_ n6_ n7_; (try clear hb); (try clear hb2); (try clear hk); (try clear hi); (try clear ho0)))
           (try simp only [Act.put, List.setIfInBounds_toArray, List.set_cons_zero, List.set_cons_succ])
           go_cut [87] (fun v87 wc => ∃ (kq : Nat) (x87_61 : Bool), v87 = .bool x87_61 ∧ Aside0 (laws_FnExactPiecesOf.j2 kq t208 t207 x87_61 = some r) ∧ Aside0 (kq ≤ kj36) ∧ Aside0 (Kd.R Kd.string 9 wc w.heap.size (fun _ => True) (.slice Ao63 t195.length co63) t208) ∧ Aside0 (Kd.R k58 58 wc w.heap.size (fun _ => True) (.slice Ao22 t205.length co22) t205) ∧ Aside0 (wc.heap[gb182]? = some (.cells #[(.slice A0_0 l0_0.length c0_0)] 24 (0, 0))) ∧ Aside0 (wc.heap[gb194]? = some (.cells #[(.slice Ao22 t205.length co22)] 29 (0, 0))) ∧ Aside0 (Below w.heap.size w wc))
           case first =>
            have H := HC62.out
            clear HC62
            replace H := Option.bind_eq_some_iff.mp H
            obtain ⟨t217, A710, H⟩ := H
            try dsimp only at H
            have A71 := Aside0.mk A710
            clear A710
            by_cases c72 : t217 = true
            ·subst c72
             rw [if_pos rfl] at H
             have H' := Aside0.mk H
             clear H
             obtain ⟨Ao73, co73, eo73⟩ := Kd.R_slice HO215.out
             subst eo73
             obtain ⟨Ao74, co74, eo74⟩ := Kd.R_slice HO_4.out
             subst eo74
             go_wp2_with (first | ((with_reducible refine gate_callee (f := 31) rfl ?_); refine goesL_ (some 81) rfl rfl Try.func31 z0 rfl #[.slice Ao73 t213.length co73, .slice Ao74 t187.length co74] rfl z8 ?_; (with_reducible refine (laws_eqStringS.calls kj36 _ _ t213 _ _ t187 true _ ?side1 ?side2 ?side3 ?side4 A71.out).mono ?_); (case side1 => repeat (first | exact (Kd.R_reads' HO215.out).2.2 | (with_reducible refine Kd.C_alloc ?_ _) | (with_reducible refine Kd.C_drewN ?_ _) | (with_reducible refine Kd.C_drew ?_))); (case side2 => exact (Kd.R_reads' HO215.out).2.1); (case side3 => repeat (first | exact (Kd.R_reads' HO_4.out).2.2 | (with_reducible refine Kd.C_alloc ?_ _) | (with_reducible refine Kd.C_drewN ?_ _) | (with_reducible refine Kd.C_drew ?_))); (case side4 => exact (Kd.R_reads' HO_4.out).2.1); rintro e w' ⟨rfl, ⟨nd, rfl⟩⟩; refine ⟨_, rfl, ?_⟩))
             go_meet
             case rel => exact ⟨_, ((t216 != t190)), z1, H', ⟨by have := HJ10.out; have := HJ36.out; first | omega | exact Nat.le_refl _⟩, ⟨by (try simp only [hl195000_36]); (with_reducible repeat (first | apply Kd.R_alloc | apply Kd.R_drewN | apply Kd.R_drew)); exact Kd.R_mono HO_7.out (fun _ hk => trivial)⟩, ⟨by (try simp only [hl195000_36]); (with_reducible repeat (first | apply Kd.R_alloc | apply Kd.R_drewN | apply Kd.R_drew)); exact Kd.R_mono HO_195000.out (fun _ hk => trivial)⟩, ⟨by (try simp only [hl195000_36]); (with_reducible repeat (first | refine blk_drewN ?_ _ | refine blk_drew ?_ | refine blk_alloc ?_ _)); exact BK182.out⟩, ⟨by (try simp only [hl195000_36]); (with_reducible repeat (first | refine blk_drewN ?_ _ | refine blk_drew ?_ | refine blk_alloc ?_ _)); exact BK194.out⟩, ⟨by repeat (first | (with_reducible first | exact HB.out | apply below_alloc | apply pw_below_drewN | apply below_drew1 | refine below_set ?_ GE182.out | refine below_set ?_ GE194.out) | exact HB.out)⟩⟩
            ·replace c72 := Bool.eq_false_iff.mpr c72
             subst c72
             rw [if_neg (show ¬ (false = true) by decide)] at H
             have H' := Aside0.mk H
             clear H
             obtain ⟨Ao75, co75, eo75⟩ := Kd.R_slice HO215.out
             subst eo75
             obtain ⟨Ao76, co76, eo76⟩ := Kd.R_slice HO_4.out
             subst eo76
             go_wp2_with (first | ((with_reducible refine gate_callee (f := 31) rfl ?_); refine goesL_ (some 81) rfl rfl Try.func31 z0 rfl #[.slice Ao75 t213.length co75, .slice Ao76 t187.length co76] rfl z8 ?_; (with_reducible refine (laws_eqStringS.calls kj36 _ _ t213 _ _ t187 false _ ?side1 ?side2 ?side3 ?side4 A71.out).mono ?_); (case side1 => repeat (first | exact (Kd.R_reads' HO215.out).2.2 | (with_reducible refine Kd.C_alloc ?_ _) | (with_reducible refine Kd.C_drewN ?_ _) | (with_reducible refine Kd.C_drew ?_))); (case side2 => exact (Kd.R_reads' HO215.out).2.1); (case side3 => repeat (first | exact (Kd.R_reads' HO_4.out).2.2 | (with_reducible refine Kd.C_alloc ?_ _) | (with_reducible refine Kd.C_drewN ?_ _) | (with_reducible refine Kd.C_drew ?_))); (case side4 => exact (Kd.R_reads' HO_4.out).2.1); rintro e w' ⟨rfl, ⟨nd, rfl⟩⟩; refine ⟨_, rfl, ?_⟩))
             go_meet
             case rel => exact ⟨_, (true), z1, H', ⟨by have := HJ10.out; have := HJ36.out; first | omega | exact Nat.le_refl _⟩, ⟨by (try simp only [hl195000_36]); (with_reducible repeat (first | apply Kd.R_alloc | apply Kd.R_drewN | apply Kd.R_drew)); exact Kd.R_mono HO_7.out (fun _ hk => trivial)⟩, ⟨by (try simp only [hl195000_36]); (with_reducible repeat (first | apply Kd.R_alloc | apply Kd.R_drewN | apply Kd.R_drew)); exact Kd.R_mono HO_195000.out (fun _ hk => trivial)⟩, ⟨by (try simp only [hl195000_36]); (with_reducible repeat (first | refine blk_drewN ?_ _ | refine blk_drew ?_ | refine blk_alloc ?_ _)); exact BK182.out⟩, ⟨by (try simp only [hl195000_36]); (with_reducible repeat (first | refine blk_drewN ?_ _ | refine blk_drew ?_ | refine blk_alloc ?_ _)); exact BK194.out⟩, ⟨by repeat (first | (with_reducible first | exact HB.out | apply below_alloc | apply pw_below_drewN | apply below_drew1 | refine below_set ?_ GE182.out | refine below_set ?_ GE194.out) | exact HB.out)⟩⟩
           case rest =>
            clear HC62
            try clear c1
            try clear c2
            try clear p2
            try clear c3
            try clear c3b0
            try clear c4
            try clear c5
            try clear c6
            try clear c7
            try clear c8
            try clear c14
            try clear c16
            try clear c18
            try clear c23
            try clear c27
            try clear c29
            try clear c30
            try clear c31
            try clear c32
            try clear c33
            try clear c35
            try clear c42
            try clear c45
            try clear c45b0
            try clear c47
            try clear c52
            try clear c55
            try clear c55b0
            try clear c59
            try clear c59b0
            try clear c59b1
            try clear c66
            try clear c72
            try clear hcz13_0
            try clear hcz15_0
            try clear hcz19_0
            try clear hcz24_0
            try clear hcz43_0
            try clear hcz5_0
            try clear hcz67_0
            try clear hfz13_0
            try clear hfz15_0
            try clear hfz19_0
            try clear hfz24_0
            try clear hfz43_0
            try clear hfz5_0
            try clear hfz67_0
            try clear p2
            obtain ⟨kq, x87_61, rfl, HA, HJ61, HO_7, HO_195000, BK182, BK194, HB⟩ := hcut
            have hl7_61 := (Kd.R_reads' HO_7.out).1
            rw [hl7_61] at HO_7
            (try simp only [hl7_61])
            (try simp only [hl7_61] at BK182)
            (try simp only [hl7_61] at BK194)
            (try simp only [hl7_61] at HO_195000)
            cases kq with
            | zero => exact absurd HA.out (by simp [laws_FnExactPiecesOf.j2])
            | succ kj61 =>
             have H := HA.out
             clear HA
             simp only [laws_FnExactPiecesOf.j2] at H
             by_cases c77 : x87_61 = true
             ·subst c77
              rw [if_pos rfl] at H
              first | (cases H.trans (congrArg some HRT.out); done) | skip
              all_goals
               obtain rfl := Option.some.inj H
               go_wp2
               go_ret
               exact ⟨by first | rfl | (simp [errW_none, errW_some] <;> rfl) | (simp [*, errW_none, errW_some] <;> rfl), by repeat (first | (with_reducible first | exact HB.out | apply below_alloc | apply pw_below_drewN | apply below_drew1 | refine below_set ?_ GE182.out | refine below_set ?_ GE194.out) | exact HB.out)⟩
             ·replace c77 := Bool.eq_false_iff.mpr c77
              subst c77
              rw [if_neg (show ¬ (false = true) by decide)] at H
              replace H := Option.bind_eq_some_iff.mp H
              obtain ⟨t218, A780, H⟩ := H
              try dsimp only at H
              have A78 := Aside0.mk A780
              clear A780
              by_cases c79 : t218 < 0
              ·rw [if_pos c79] at H
               have c79b0 : decide (t218 < 0) = true := decide_eq_true c79
               clear c79
               first | (cases H.trans (congrArg some HRT.out); done) | skip
               all_goals
                obtain rfl := Option.some.inj H
                go_wp2_with (first | ((with_reducible refine gate_callee (f := 33) rfl ?_); refine goesL_ (some 90) rfl rfl Try.func33 z0 rfl #[.slice Ao63 t208.length co63, .int .i64 1] rfl z8 ?_; (with_reducible refine (laws_heldStringS.calls kj61 _ _ t208 1 t218 _ ?side1 ?side2 A78.out).mono ?_); (case side1 => repeat (first | exact (Kd.R_reads' HO_7.out).2.2 | (with_reducible refine Kd.C_alloc ?_ _) | (with_reducible refine Kd.C_drewN ?_ _) | (with_reducible refine Kd.C_drew ?_))); (case side2 => exact (Kd.R_reads' HO_7.out).2.1); rintro e w80 ⟨rfl, hb⟩; refine ⟨_, rfl, ?_⟩; have n0_ := Aside0.mk (Kd.R_below (by (with_reducible repeat (first | apply Kd.R_alloc | apply Kd.R_drewN | apply Kd.R_drew)); exact HO_7.out) hb); have n1_ := Aside0.mk (Kd.R_below z3 hb); have n2_ := Aside0.mk (blk_below (g := gb182) (o := .cells #[.slice A0_0 l0_0.length c0_0] 24 (0, 0)) z5 hb); have n3_ := Aside0.mk (blk_below (g := gb194) (o := .cells #[.slice Ao22 t205.length co22] 29 (0, 0)) z6 hb); have n4_ := Aside0.mk (below_step z11 hb); clear HO_7; clear HO_195000; clear BK182; clear BK194; clear HB; have HO_7 := n0_; have HO_195000 := n1_; have BK182 := n2_; have BK194 := n3_; have HB := n4_; clear n0_ n1_ n2_ n3_ n4_; (try clear hb); (try clear hb2); (try clear hk); (try clear hi)))
                go_ret
                exact ⟨by first | rfl | (simp [errW_none, errW_some] <;> rfl) | (simp [*, errW_none, errW_some] <;> rfl), by repeat (first | (with_reducible first | exact HB.out | apply below_alloc | apply pw_below_drewN | apply below_drew1 | refine below_set ?_ GE182.out | refine below_set ?_ GE194.out) | exact HB.out)⟩
              ·rw [if_neg c79] at H
               have c79b0 : decide (t218 < 0) = false := decide_eq_false c79
               clear c79
               by_cases c81 : t218 = t207
               ·rw [if_pos c81] at H
                have c81b0 : (t218 == t207) = true := beq_iff_eq.mpr c81
                have c81b1 : (t218 != t207) = false := bne_eq_false_iff_eq.mpr c81
                clear c81
                first | (cases H.trans (congrArg some HRT.out); done) | skip
                all_goals
                 obtain rfl := Option.some.inj H
                 go_wp2_with (first | ((with_reducible refine gate_callee (f := 33) rfl ?_); refine goesL_ (some 90) rfl rfl Try.func33 z0 rfl #[.slice Ao63 t208.length co63, .int .i64 1] rfl z8 ?_; (with_reducible refine (laws_heldStringS.calls kj61 _ _ t208 1 t218 _ ?side1 ?side2 A78.out).mono ?_); (case side1 => repeat (first | exact (Kd.R_reads' HO_7.out).2.2 | (with_reducible refine Kd.C_alloc ?_ _) | (with_reducible refine Kd.C_drewN ?_ _) | (with_reducible refine Kd.C_drew ?_))); (case side2 => exact (Kd.R_reads' HO_7.out).2.1); rintro e w82 ⟨rfl, hb⟩; refine ⟨_, rfl, ?_⟩; have n0_ := Aside0.mk (Kd.R_below (by (with_reducible repeat (first | apply Kd.R_alloc | apply Kd.R_drewN | apply Kd.R_drew)); exact HO_7.out) hb); have n1_ := Aside0.mk (Kd.R_below z3 hb); have n2_ := Aside0.mk (blk_below (g := gb182) (o := .cells #[.slice A0_0 l0_0.length c0_0] 24 (0, 0)) z5 hb); have n3_ := Aside0.mk (blk_below (g := gb194) (o := .cells #[.slice Ao22 t205.length co22] 29 (0, 0)) z6 hb); have n4_ := Aside0.mk (below_step z11 hb); clear HO_7; clear HO_195000; clear BK182; clear BK194; clear HB; have HO_7 := n0_; have HO_195000 := n1_; have BK182 := n2_; have BK194 := n3_; have HB := n4_; clear n0_ n1_ n2_ n3_ n4_; (try clear hb); (try clear hb2); (try clear hk); (try clear hi)))
                 go_ret
                 exact ⟨by first | rfl | (simp [errW_none, errW_some] <;> rfl) | (simp [*, errW_none, errW_some] <;> rfl), by repeat (first | (with_reducible first | exact HB.out | apply below_alloc | apply pw_below_drewN | apply below_drew1 | refine below_set ?_ GE182.out | refine below_set ?_ GE194.out) | exact HB.out)⟩
               ·rw [if_neg c81] at H
                have c81b0 : (t218 == t207) = false := beq_eq_false_iff_ne.mpr c81
                have c81b1 : (t218 != t207) = true := bne_iff_ne.mpr c81
                first | (cases H.trans (congrArg some HRT.out); done) | skip
                all_goals
                 obtain rfl := Option.some.inj H
                 go_wp2_with (first | ((with_reducible refine gate_callee (f := 33) rfl ?_); refine goesL_ (some 90) rfl rfl Try.func33 z0 rfl #[.slice Ao63 t208.length co63, .int .i64 1] rfl z8 ?_; (with_reducible refine (laws_heldStringS.calls kj61 _ _ t208 1 t218 _ ?side1 ?side2 A78.out).mono ?_); (case side1 => repeat (first | exact (Kd.R_reads' HO_7.out).2.2 | (with_reducible refine Kd.C_alloc ?_ _) | (with_reducible refine Kd.C_drewN ?_ _) | (with_reducible refine Kd.C_drew ?_))); (case side2 => exact (Kd.R_reads' HO_7.out).2.1); rintro e w83 ⟨rfl, hb⟩; refine ⟨_, rfl, ?_⟩; have n0_ := Aside0.mk (Kd.R_below (by (with_reducible repeat (first | apply Kd.R_alloc | apply Kd.R_drewN | apply Kd.R_drew)); exact HO_7.out) hb); have n1_ := Aside0.mk (Kd.R_below z3 hb); have n2_ := Aside0.mk (blk_below (g := gb182) (o := .cells #[.slice A0_0 l0_0.length c0_0] 24 (0, 0)) z5 hb); have n3_ := Aside0.mk (blk_below (g := gb194) (o := .cells #[.slice Ao22 t205.length co22] 29 (0, 0)) z6 hb); have n4_ := Aside0.mk (below_step z11 hb); clear HO_7; clear HO_195000; clear BK182; clear BK194; clear HB; have HO_7 := n0_; have HO_195000 := n1_; have BK182 := n2_; have BK194 := n3_; have HB := n4_; clear n0_ n1_ n2_ n3_ n4_; (try clear hb); (try clear hb2); (try clear hk); (try clear hi)))
                 go_ret
                 exact ⟨by first | rfl | (simp [errW_none, errW_some] <;> rfl) | (simp [*, errW_none, errW_some] <;> rfl), by repeat (first | (with_reducible first | exact HB.out | apply below_alloc | apply pw_below_drewN | apply below_drew1 | refine below_set ?_ GE182.out | refine below_set ?_ GE194.out) | exact HB.out)⟩
          ·rw [if_neg c59] at H
           have c59b0 : (t209 == t207) = false := beq_eq_false_iff_ne.mpr c59
           have c59b1 : (t209 != t207) = true := bne_iff_ne.mpr c59
           first | (cases H.trans (congrArg some HRT.out); done) | skip
           all_goals
            obtain rfl := Option.some.inj H
            obtain ⟨Ao84, co84, eo84⟩ := Kd.R_slice HO_7.out
            subst eo84
            go_wp2_with (first | ((with_reducible refine gate_callee (f := 32) rfl ?_); refine goesL_ (some 64) rfl rfl Try.func32 z0 rfl #[.slice Ao84 t195.length co84, .int .i64 1] rfl z8 ?_; (with_reducible refine (laws_markStringS.calls kj36 (fun k_ => some k_ = (.slice Ao84 t195.length co84 : Value).ownBlock) (.slice Ao84 t195.length co84) t195 1 t207 t208 w _ ?side1 ?side2 A53.out).mono ?_); (case side1 => repeat (first | (with_reducible first | exact HB.out | apply below_alloc | apply pw_below_drewN | apply below_drew1 | refine below_set ?_ GE182.out | refine below_set ?_ GE194.out) | exact HB.out)); (case side2 => exact Kd.R_tight rfl HO_7.out); rintro e w85 ⟨rfl, hy0, hb, hkp⟩; refine ⟨_, rfl, ?_⟩; have n0_ := Aside0.mk (Kd.R_mono (ok' := fun k_ => some k_ ≠ (.slice Ao84 t195.length co84 : Value).ownBlock) (Kd.R_keptB (HO_4.out) hkp (fun k_ hk_ hs_ => (hk_) hs_)) (fun k_ hk_ => hk_.1)); have n1_ := Aside0.mk (Kd.R_reok rfl hy0 (fun k_ e_ => HO_7.out.1 k_ e_)); have n2_ := Aside0.mk (Kd.R_mono (ok' := fun k_ => True) (Kd.R_keptB ((Kd.R_apart' HO_195000.out (Kd.R_typed HO_7.out) (by decide))) hkp (fun k_ hk_ hs_ => (hk_.2) hs_)) (fun k_ hk_ => trivial)); have n3_ := Aside0.mk (blk_kept z5 hkp (fun hs_ => (fun e_ => (Kd.R_ne HO_7.out BK182.out (by decide)) e_) hs_)); have n4_ := Aside0.mk (blk_kept z6 hkp (fun hs_ => (fun e_ => (Kd.R_ne HO_7.out BK194.out (by decide)) e_) hs_)); have n5_ := Aside0.mk (hb); clear HO_4; clear HO_7; clear HO_195000; clear BK182; clear BK194; clear HB; have HO_4 := n0_; have HO_7 := n1_; have HO_195000 := n2_; have BK182 := n3_; have BK194 := n4_; have HB := n5_; clear n0_ n1_ n2_ n3_ n4_ n5_; (try clear hb); (try clear hkp); (try clear hy0)) | ((with_reducible refine gate_callee (f := 33) rfl ?_); refine goesL_ (some 67) rfl rfl Try.func33 z0 rfl #[.slice Ao84 t208.length co84, .int .i64 1] rfl (by (try simp only [List.map_toArray, List.map_cons, List.map_nil]); first | done | (rw [show t208.length = t195.length from (Kd.R_reads' HO_7.out).1.symm] <;> rfl) | rfl | (simp only [List.length_drop, List.length_take]; rfl)) ?_; (with_reducible refine (laws_heldStringS.calls kj36 _ _ t208 1 t209 _ ?side1 ?side2 A54.out).mono ?_); (case side1 => repeat (first | exact (Kd.R_reads' HO_7.out).2.2 | (with_reducible refine Kd.C_alloc ?_ _) | (with_reducible refine Kd.C_drewN ?_ _) | (with_reducible refine Kd.C_drew ?_))); (case side2 => rw [show t208.length = t195.length from (Kd.R_reads' HO_7.out).1.symm]; exact (Kd.R_reads' HO_7.out).2.1); rintro e w86 ⟨rfl, hb⟩; refine ⟨_, rfl, ?_⟩; have n0_ := Aside0.mk (Kd.R_below (by (with_reducible repeat (first | apply Kd.R_alloc | apply Kd.R_drewN | apply Kd.R_drew)); exact HO_4.out) hb); have n1_ := Aside0.mk (Kd.R_below (by (with_reducible repeat (first | apply Kd.R_alloc | apply Kd.R_drewN | apply Kd.R_drew)); exact HO_7.out) hb); have n2_ := Aside0.mk (Kd.R_below z3 hb); have n3_ := Aside0.mk (blk_below (g := gb182) (o := .cells #[.slice A0_0 l0_0.length c0_0] 24 (0, 0)) z5 hb); have n4_ := Aside0.mk (blk_below (g := gb194) (o := .cells #[.slice Ao22 t205.length co22] 29 (0, 0)) z6 hb); have n5_ := Aside0.mk (below_step z11 hb); clear HO_4; clear HO_7; clear HO_195000; clear BK182; clear BK194; clear HB; have HO_4 := n0_; have HO_7 := n1_; have HO_195000 := n2_; have BK182 := n3_; have BK194 := n4_; have HB := n5_; clear n0_ n1_ n2_ n3_ n4_ n5_; (try clear hb); (try clear hb2); (try clear hk); (try clear hi)))
            go_ret
            exact ⟨by first | rfl | (simp [errW_none, errW_some] <;> rfl) | (simp [*, errW_none, errW_some] <;> rfl), by repeat (first | (with_reducible first | exact HB.out | apply below_alloc | apply pw_below_drewN | apply below_drew1 | refine below_set ?_ GE182.out | refine below_set ?_ GE194.out) | exact HB.out)⟩
     ·replace c35 := Bool.eq_false_iff.mpr c35
      subst c35
      rw [if_neg (show ¬ (false = true) by decide)] at H
      first | (cases H.trans (congrArg some HRT.out); done) | skip
      all_goals
       obtain rfl := Option.some.inj H
       try go_wp2
       have n0_ := Aside0.mk (Kd.R_drew HO_4.out)
       have n1_ := Aside0.mk (Kd.R_drew HO_7.out)
       have n2_ := Aside0.mk (Kd.R_drew HO_195000.out)
       have n3_ := Aside0.mk (blk_drew BK182.out)
       have n4_ := Aside0.mk (blk_drew BK194.out)
       have n5_ := Aside0.mk (below_drew1 HB.out)
       clear HO_4
       clear HO_7
       clear HO_195000
       clear BK182
       clear BK194
       clear HB
       have HO_4 := n0_
       have HO_7 := n1_
       have HO_195000 := n2_
       have BK182 := n3_
       have BK194 := n4_
       have HB := n5_
       clear n0_ n1_ n2_ n3_ n4_ n5_
       refine start_ (n := 5) (S := fun w' => w'.cell? ⟨gb194, 0, none⟩ = some (.slice Ao22 t191.length co22) ∧ w'.cell? ⟨gb182, 0, none⟩ = some (.slice A0_0 l0_0.length c0_0)) (ds := []) #[false, false, false, false, false] z0 rfl rfl ⟨(blk_cell BK194.out 0).trans rfl, (blk_cell BK182.out 0).trans rfl⟩ (fun hHeld => ?_)
       generalize wc.drew = w87 at HO_4 HO_7 HO_195000 BK182 BK194 HB hHeld ⊢
       refine tA 0 41 ?_ (hy := by rintro w' ⟨s0, s1⟩; go_simp; with_reducible rfl)
       refine tA 1 42 ?_ (hy := by rintro w' ⟨s0, s1⟩; go_simp; with_reducible rfl)
       refine one_ (i := 2) (N := some 43) #[true, true, true, false, false] rfl rfl z0 (by decide) (fun K hK => ?_)
       refine goes_ Try.func16 z0 rfl #[.agg #[.slice A0_0 l0_0.length c0_0]] (by rfl) rfl rfl z8 ?_
       with_reducible refine (laws_toRope.calls kj10 _ _ l0_0 t200 _ ?side1 ?side2 A33.out).mono ?_
       (case side1 => repeat (first | exact (Kd.C_below HR0_0.out HB.out) | (with_reducible refine Kd.C_alloc ?_ _) | (with_reducible refine Kd.C_drewN ?_ _) | (with_reducible refine Kd.C_drew ?_)))
       (case side2 => exact HC0_0.out)
       rintro e w88 ⟨v201, rfl, ho0, hb⟩
       refine ⟨_, rfl, ?_⟩
       have n0_ := Aside0.mk (Kd.R_below (by (with_reducible repeat (first | apply Kd.R_alloc | apply Kd.R_drewN | apply Kd.R_drew)); exact HO_4.out) hb)
       have n1_ := Aside0.mk (Kd.R_below (by (with_reducible repeat (first | apply Kd.R_alloc | apply Kd.R_drewN | apply Kd.R_drew)); exact HO_7.out) hb)
       have n2_ := Aside0.mk (Kd.R_elder' z3 (Kd.R_base ho0) hb)
       have n3_ := Aside0.mk (Kd.R_lower (Kd.R_new' ho0 (Kd.R_lt z3)) (below_size z11))
       have n4_ := Aside0.mk (blk_below (g := gb182) (o := .cells #[.slice A0_0 l0_0.length c0_0] 24 (0, 0)) z5 hb)
       have n5_ := Aside0.mk (blk_below (g := gb194) (o := .cells #[.slice Ao22 t191.length co22] 29 (0, 0)) z6 hb)
       have n6_ := Aside0.mk (below_step z11 hb)
       clear HO_4
       clear HO_7
       clear HO_195000
       clear BK182
       clear BK194
       clear HB
       have HO_4 := n0_
       have HO_7 := n1_
       have HO_195000 := n2_
       have HO202 := n3_
       have BK182 := n4_
       have BK194 := n5_
       have HB := n6_
       clear n0_ n1_ n2_ n3_ n4_ n5_ n6_
       (try clear hb)
       (try clear hb2)
       (try clear hk)
       (try clear hi)
       (try clear ho0)
       obtain ⟨Ao89, co89, eo89⟩ := Kd.R_slice HO202.out
       (first | subst eo89 | (injection eo89 with f1_ f2_ f3_; have f4_ := f1_.symm; have f5_ := f3_.symm; clear f1_ f2_ f3_; subst f4_; subst f5_))
       refine hK.out _ _ ⟨(blk_cell BK194.out 0).trans rfl, (blk_cell BK182.out 0).trans rfl⟩ (fun hHeld => ?_)
       clear hK K
       refine norm_ (a' := ?_) ?_ ?_
       rotate_left
       ·show Act.put _ (some 43) _ = _
        simp only [Act.put, List.setIfInBounds_toArray, List.set_cons_zero, List.set_cons_succ, i64_w, i32_w]
        rfl
       refine one_ (i := 3) (N := some 44) #[true, true, true, true, false] rfl rfl z0 (by decide) (fun K hK => ?_)
       refine goes_ Try.func18 z0 rfl #[.agg #[.slice Ao22 t191.length co22], .agg #[.slice Ao89 t200.length co89]] (by rfl) rfl rfl z8 ?_
       with_reducible refine (laws_eqRope.calls kj10 _ _ t191 _ _ t200 false _ ?side1 ?side2 ?side3 ?side4 A34.out).mono ?_
       (case side1 => repeat (first | exact (Kd.R_reads' HO_195000.out).2.2 | (with_reducible refine Kd.C_alloc ?_ _) | (with_reducible refine Kd.C_drewN ?_ _) | (with_reducible refine Kd.C_drew ?_)))
       (case side2 => exact (Kd.R_reads' HO_195000.out).2.1)
       (case side3 => repeat (first | exact (Kd.R_reads' HO202.out).2.2 | (with_reducible refine Kd.C_alloc ?_ _) | (with_reducible refine Kd.C_drewN ?_ _) | (with_reducible refine Kd.C_drew ?_)))
       (case side4 => exact (Kd.R_reads' HO202.out).2.1)
       rintro e w90 ⟨rfl, hb⟩
       refine ⟨_, rfl, ?_⟩
       have n0_ := Aside0.mk (Kd.R_below (by (with_reducible repeat (first | apply Kd.R_alloc | apply Kd.R_drewN | apply Kd.R_drew)); exact HO_4.out) hb)
       have n1_ := Aside0.mk (Kd.R_below (by (with_reducible repeat (first | apply Kd.R_alloc | apply Kd.R_drewN | apply Kd.R_drew)); exact HO_7.out) hb)
       have n2_ := Aside0.mk (Kd.R_below z3 hb)
       have n3_ := Aside0.mk (Kd.R_below (by (with_reducible repeat (first | apply Kd.R_alloc | apply Kd.R_drewN | apply Kd.R_drew)); exact HO202.out) hb)
       have n4_ := Aside0.mk (blk_below (g := gb182) (o := .cells #[.slice A0_0 l0_0.length c0_0] 24 (0, 0)) z5 hb)
       have n5_ := Aside0.mk (blk_below (g := gb194) (o := .cells #[.slice Ao22 t191.length co22] 29 (0, 0)) z6 hb)
       have n6_ := Aside0.mk (below_step z11 hb)
       clear HO_4
       clear HO_7
       clear HO_195000
       clear HO202
       clear BK182
       clear BK194
       clear HB
       have HO_4 := n0_
       have HO_7 := n1_
       have HO_195000 := n2_
       have HO202 := n3_
       have BK182 := n4_
       have BK194 := n5_
       have HB := n6_
       clear n0_ n1_ n2_ n3_ n4_ n5_ n6_
       (try clear hb)
       (try clear hb2)
       (try clear hk)
       (try clear hi)
       refine hK.out _ _ ⟨(blk_cell BK194.out 0).trans rfl, (blk_cell BK182.out 0).trans rfl⟩ (fun hHeld => ?_)
       clear hK K
       refine norm_ (a' := ?_) ?_ ?_
       rotate_left
       ·show Act.put _ (some 44) _ = _
        simp only [Act.put, List.setIfInBounds_toArray, List.set_cons_zero, List.set_cons_succ, i64_w, i32_w]
        rfl
       refine pA 4 45 ?_
       refine done_ z0 ?_
       try go_wp2
       go_ret
       exact ⟨by first | rfl | (simp [errW_none, errW_some] <;> rfl) | (simp [*, errW_none, errW_some] <;> rfl), by repeat (first | (with_reducible first | exact HB.out | apply below_alloc | apply pw_below_drewN | apply below_drew1 | refine below_set ?_ GE182.out | refine below_set ?_ GE194.out) | exact HB.out)⟩

/-! ### What an argument's reading gives: a value of its kind -/
section
open Go.ChangeShapes Go.WideShapes Go.Deep
/-- A value of type t, as an argument's reading has it, is of kind d, and G if the argument's weights are within reach. -/
structure Opens (P : Program) (t : TypeId) {α : Type} (d : Kd α) (G : α → Prop) : Prop where
 out : ∀ {H : Type} {enc : TypeId × Value → H} {w : World} {base : Nat} {spare : Nat → Bool} {held : Bool} {fuel : Nat} {cs : List Value} {x : DataW H × List MemPlace},
  DataW.trod enc P w base spare held fuel t cs = some x → ∃ a, d.K w a cs ∧ ((x.1.weights P t).all (· ≤ reachBytes) = true → G a)
/-- The same for fields in line, from a cell on. -/
structure OpensL (P : Program) (fs : List Field) (off : Nat) {α : Type} (d : Kd α) (G : α → Prop) : Prop where
 out : ∀ {H : Type} {enc : TypeId × Value → H} {w : World} {base : Nat} {spare : Nat → Bool} {held : Bool} {n : Nat} {cs : List Value} {xs : List (DataW H × List MemPlace)},
  cs.length = off + d.sz → xs.length = fs.length → (∀ (i : Nat) (f : Field), fs[i]? = some f → DataW.trod enc P w base spare held n f.type ((cs.drop f.offset).take (P.cellsOf f.type)) = xs[i]?) →
  ∃ a, d.K w a (cs.drop off) ∧ ((DataW.weightsEach P (fs.map (·.type)) (xs.map (·.1))).all (· ≤ reachBytes) = true → G a)
theorem reach_eq : reachBytes = 140737488351232 := by first | rfl | decide
theorem opens_int {P : Program} {t : TypeId} {k : IntKind} (ht : P.underlying t = some (.int k)) : Opens P t (Kd.int k) (fun n => (Lit.int k n).wf = true) := by
 constructor
 intro H enc w base spare held fuel cs x h
 obtain ⟨n, rfl, rfl, hw⟩ := DataW.trod_int ht h
 exact ⟨n, rfl, fun _ => hw⟩
theorem opens_bool {P : Program} {t : TypeId} (ht : P.underlying t = some .bool) : Opens P t Kd.bool (fun _ => True) := by
 constructor
 intro H enc w base spare held fuel cs x h
 obtain ⟨n, rfl, _⟩ := DataW.trod_bool ht h
 exact ⟨n, rfl, fun _ => trivial⟩
theorem opens_string {P : Program} {t : TypeId} (ht : P.underlying t = some .string) : Opens P t Kd.string (fun s => s.size ≤ 140737488351232) := by
 constructor
 intro H enc w base spare held fuel cs x h
 obtain ⟨s, rfl, rfl, _⟩ := DataW.trod_string ht h
 refine ⟨s, rfl, fun hw => ?_⟩
 simp only [DataW.weights, List.all_cons, List.all_nil, Bool.and_true, decide_eq_true_eq, Array.length_toList] at hw
 rw [reach_eq] at hw
 exact hw
theorem weightsAll_mem {H : Type} {P : Program} {e : TypeId} : ∀ {ds : List (DataW H)} {d : DataW H}, d ∈ ds → (DataW.weightsAll P e ds).all (· ≤ reachBytes) = true → (d.weights P e).all (· ≤ reachBytes) = true
 | _ :: _, _, .head _, h => by
  simp only [DataW.weightsAll, List.all_append, Bool.and_eq_true] at h
  exact h.1
 | _ :: _, _, .tail _ hm, h => by
  simp only [DataW.weightsAll, List.all_append, Bool.and_eq_true] at h
  exact weightsAll_mem hm h.2
theorem opens_list {α : Type} (Q : Nat → α → Prop) (n : Nat) (h : ∀ i, i < n → ∃ a, Q i a) : ∃ l : List α, l.length = n ∧ ∀ i a, l[i]? = some a → Q i a := by
 induction n with
 | zero => exact ⟨[], rfl, fun i a hi => by simp at hi⟩
 | succ n ih =>
  obtain ⟨l, hl, hq⟩ := ih (fun i hi => h i (by omega))
  obtain ⟨a, ha⟩ := h n (by omega)
  refine ⟨l ++ [a], by simp [hl], fun i b hi => ?_⟩
  by_cases hin : i < n
  ·rw [List.getElem?_append_left (by omega)] at hi
   exact hq i b hi
  ·obtain ⟨hlt, _⟩ := List.getElem?_eq_some_iff.1 hi
   have e : i = l.length := by simp at hlt; omega
   subst e
   rw [List.getElem?_append_right (Nat.le_refl _)] at hi
   simp at hi
   subst hi
   rw [hl]
   exact ha
theorem opens_slice {P : Program} {t e : TypeId} {α : Type} {d : Kd α} {G : α → Prop} {B : Nat} (q : Nat) (ht : P.underlying t = some (.slice e)) (hc : P.cellsOf e = d.sz) (hB : P.bytesOf e = B) (he : Opens P e d G) :
  Opens P t (Kd.slice q d) (fun l => l.length ≤ maxLen ∧ l.length * B ≤ 140737488351232 ∧ ∀ x ∈ l, G x) := by
 constructor
 intro H enc w base spare held fuel cs x h
 rcases open_slice ht h with ⟨rfl, rfl⟩ | ⟨a, len, cap, m, n, D, Pl, rfl, hb, hl, hm, hmm, rfl, hi⟩
 ·exact ⟨[], ⟨none, 0, rfl, Nat.le_refl _, Kd.C_nil _ _⟩, fun _ => ⟨Nat.zero_le _, by simp, fun x hx => by simp at hx⟩⟩
 ·have hlm : len ≤ m := by rw [hmm]; split <;> omega
  obtain ⟨l, hll, hlq⟩ := opens_list (fun i a_ => ∃ cs', w.cells? base (a.add (i * P.cellsOf e)) (P.cellsOf e) = some cs' ∧ d.K w a_ cs' ∧ (((D i).weights P e).all (· ≤ reachBytes) = true → G a_)) len (fun i hil => by
   obtain ⟨cs', hc1, ht1⟩ := hi i (by omega)
   obtain ⟨a_, hk, hg⟩ := he.out ht1
   exact ⟨a_, cs', hc1, hk, hg⟩)
  refine ⟨l, ⟨some a, cap, by rw [hll], by omega, ⟨rfl, ?_, fun _ => ⟨a, rfl, fun j p hj => ?_⟩⟩⟩, fun hw => ?_⟩
  ·rw [hll]
   have hmx : maxLen ≤ 9223372036854775807 := by first | decide | (unfold maxLen; omega)
   omega
  ·obtain ⟨cs', hc1, hk, _⟩ := hlq j p hj
   obtain ⟨_, hcl, hat⟩ := World.cells?_some hc1
   refine ⟨cs', d.K_len hk, hk, fun i u hu => ?_⟩
   obtain ⟨hlt, _⟩ := List.getElem?_eq_some_iff.1 hu
   have := hat i (by omega)
   rw [← Go.Deep.add_add, ← hc, this, hu]
  ·simp only [DataW.weights, ht, List.all_cons, List.all_append, Bool.and_eq_true, decide_eq_true_eq, List.length_map, List.length_range] at hw
   obtain ⟨hw1, hw2, _⟩ := hw
   rw [reach_eq, hB] at hw1
   refine ⟨by omega, ?_, fun x hx => ?_⟩
   ·rw [hll]
    exact Nat.le_trans (Nat.mul_le_mul_right _ (by omega)) hw1
   ·obtain ⟨j, hj⟩ := List.getElem?_of_mem hx
    obtain ⟨cs', _, _, hg⟩ := hlq j x hj
    obtain ⟨hlt, _⟩ := List.getElem?_eq_some_iff.1 hj
    exact hg (weightsAll_mem (List.mem_map.2 ⟨j, List.mem_range.2 (by omega), rfl⟩) hw2)
theorem opensL_one {P : Program} {f : Field} {off : Nat} {α : Type} {d : Kd α} {G : α → Prop} (ho : f.offset = off) (hc : P.cellsOf f.type = d.sz) (h : Opens P f.type d G) : OpensL P [f] off d G := by
 constructor
 intro H enc w base spare held n cs xs hl hx hr
 match xs, hx with
 | [x], _ =>
  have h0 := hr 0 f rfl
  rw [ho, hc, List.take_of_length_le (by rw [List.length_drop]; omega)] at h0
  obtain ⟨a, hk, hg⟩ := h.out h0
  refine ⟨a, hk, fun hw => hg ?_⟩
  simpa [DataW.weightsEach] using hw
theorem opensL_cons {P : Program} {f : Field} {fs : List Field} {off : Nat} {α β : Type} {d : Kd α} {d' : Kd β} {G : α → Prop} {G' : β → Prop} (ho : f.offset = off) (hc : P.cellsOf f.type = d.sz) (h : Opens P f.type d G) (h' : OpensL P fs (off + d.sz) d' G') :
  OpensL P (f :: fs) off (Kd.pair d d') (fun p => G p.1 ∧ G' p.2) := by
 constructor
 intro H enc w base spare held n cs xs hl hx hr
 match xs, hx with
 | x :: xs, hx =>
  have hl' : cs.length = off + (d.sz + d'.sz) := hl
  have h0 := hr 0 f rfl
  rw [ho, hc] at h0
  obtain ⟨a, hk, hg⟩ := h.out h0
  obtain ⟨b, hk', hg'⟩ := h'.out (enc := enc) (w := w) (base := base) (spare := spare) (held := held) (n := n) (cs := cs) (xs := xs) (by omega) (by simpa using hx) (fun i g hi => by simpa using hr (i + 1) g (by simpa using hi))
  refine ⟨(a, b), ⟨_, _, ?_, hk, hk'⟩, fun hw => ?_⟩
  ·rw [← List.drop_drop, List.take_append_drop]
  ·simp only [List.map_cons, DataW.weightsEach, List.all_append, Bool.and_eq_true] at hw
   exact ⟨hg hw.1, hg' hw.2⟩
theorem opens_struct {P : Program} {t : TypeId} {fs : Array Field} {α : Type} {d : Kd α} {G : α → Prop} (ht : P.underlying t = some (.struct fs)) (hc : P.cellsOf t = d.sz) (h : OpensL P fs.toList 0 d G) : Opens P t d G := by
 constructor
 intro H enc w base spare held fuel cs x hx
 obtain ⟨xs, n, _, rfl, hl, hxl, hr⟩ := DataW.trod_struct ht hx
 obtain ⟨a, hk, hg⟩ := h.out (enc := enc) (w := w) (base := base) (spare := spare) (held := held) (n := n) (cs := cs) (xs := xs) (by omega) (by simpa using hxl) (fun i f hi => hr i f (by simpa using hi))
 refine ⟨a, hk, fun hw => hg ?_⟩
 simpa [DataW.weights, ht] using hw
theorem opens_iso {P : Program} {t : TypeId} {α β : Type} {d : Kd α} {G : α → Prop} {f : β → α} (g : α → β) (hf : ∀ a, f (g a) = a) (h : Opens P t d G) : Opens P t (Kd.iso d f) (fun b => G (f b)) := by
 constructor
 intro H enc w base spare held fuel cs x hx
 obtain ⟨a, hk, hg⟩ := h.out hx
 refine ⟨g a, ?_, fun hw => ?_⟩
 ·show d.K w (f (g a)) cs
  rw [hf]
  exact hk
 ·show G (f (g a))
  rw [hf]
  exact hg hw
theorem Opens.imp {P : Program} {t : TypeId} {α : Type} {d : Kd α} {G G' : α → Prop} (h : Opens P t d G) (hG : ∀ a, G a → G' a) : Opens P t d G' := by
 constructor
 intro H enc w base spare held fuel cs x hx
 obtain ⟨a, hk, hg⟩ := h.out hx
 exact ⟨a, hk, fun hw => hG a (hg hw)⟩
/-- The j-th argument, out of the row's own weights. -/
theorem sized_any {H : Type} {P : Program} {ts : List TypeId} {ds : List (DataW H)} (h : (DataW.weightsEach P ts ds).all (· ≤ reachBytes) = true) {j : Nat} {t : TypeId} {d : DataW H} (ht : ts[j]? = some t) (hd : ds[j]? = some d) : (d.weights P t).all (· ≤ reachBytes) = true :=
 List.all_eq_true.2 fun n hn => List.all_eq_true.1 h n (DataW.weights_mem_each ht hd n hn)
end
def G_T99 (x : S99) : Prop := ((Lit.int .i64 x.f0).wf = true) ∧ ((Lit.int .i64 x.f1).wf = true) ∧ (x.f2.size ≤ 140737488351232) ∧ ((Lit.int .i64 x.f3).wf = true) ∧ ((Lit.int .i64 x.f4).wf = true)
set_option maxRecDepth 100000 in
theorem opens_T99 : Opens Try.prog 99 k99 G_T99 := opens_iso (fun p => ⟨p.1, p.2.1, p.2.2.1, p.2.2.2.1, p.2.2.2.2⟩) (fun _ => rfl) (opens_struct Try.underlying99 z0 (opensL_cons rfl z0 (opens_int Try.underlying3) (opensL_cons rfl z0 (opens_int Try.underlying3) (opensL_cons rfl z0 (opens_string Try.underlying9) (opensL_cons rfl z0 (opens_int Try.underlying3) (opensL_one rfl z0 (opens_int Try.underlying3)))))))
def G_T24 (x : S24) : Prop := (x.f0.length ≤ maxLen ∧ x.f0.length * 48 ≤ 140737488351232 ∧ ∀ x2_ ∈ x.f0, G_T99 x2_)
set_option maxRecDepth 100000 in
theorem opens_T24 : Opens Try.prog 24 k24 G_T24 := opens_iso (fun p => ⟨p⟩) (fun _ => rfl) (opens_struct Try.underlying24 z0 (opensL_one rfl z0 (opens_slice 99 Try.underlying22 z0 z0 opens_T99)))

/-- THE ONE PURE STATEMENT of laws_FnExactPiecesOf: yours. -/
def laws_FnExactPiecesOf.Pure : Prop := ∀ (l0_0 : List (S99)), (l0_0.length ≤ maxLen ∧ l0_0.length * 48 ≤ 140737488351232 ∧ ∀ x2_ ∈ l0_0, G_T99 x2_) → ∃ k, laws_FnExactPiecesOf.f k l0_0 = some true
theorem laws_FnExactPiecesOf.walk (P : laws_FnExactPiecesOf.Pure) (A0_0 : Option Addr) (c0_0 : Nat) (l0_0 : List (S99)) (w : World) (hr0_0 : Kd.C k99 w A0_0 l0_0.length l0_0) (hc0_0 : l0_0.length ≤ c0_0) (hG0_0 : l0_0.length ≤ maxLen ∧ l0_0.length * 48 ≤ 140737488351232 ∧ ∀ x2_ ∈ l0_0, G_T99 x2_) :
  Calls Try.prog 8 #[.agg #[.slice A0_0 l0_0.length c0_0]] w fun e w' => e = .returned (.bool true) ∧ Below w.heap.size w w' := by
 obtain ⟨k, h⟩ := P l0_0 hG0_0
 refine (laws_FnExactPiecesOf.calls k _ _ l0_0 true ⟨rfl⟩ w hr0_0 hc0_0 h).mono ?_
 rintro e w' ⟨rfl, hd⟩
 exact ⟨rfl, hd⟩

end Go.Proofs.Ytmkenlejdaphnaa.AFnExactPiecesOf
