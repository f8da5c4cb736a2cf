-- this session's own text: written by wip/tools/ownprint.py over the kit's print
import Derived.Test.YtibedlbjkaikiaaAFnBordersx0
import Derived.Test.YtibedlbjkaikiaaAFnBordersx4
import Derived.Test.YtibedlbjkaikiaaAFnBordersx5
import Derived.Test.YtibedlbjkaikiaaAFnBordersx6
namespace Go.Proofs.Ytibedlbjkaikiaa.AFnBorders
open Go.RowKit Go.Proofs.YtibedlbjkaikiaaW.PrintWords Go.Proofs.YtibedlbjkaikiaaW.PrintLast Go.Proofs.YtibedlbjkaikiaaW.PrintMore
attribute [local go_sem] max2_int min2_int max_two min_two max_three min_three max_four min_four   -- for this text's walks alone
set_option linter.unusedVariables false
set_option linter.unusedSimpArgs false

/-! ### laws_FnBorders: function 5 -/
mutual
def laws_FnBorders.j0 : Nat → ByteArray → List Int → Bool → Int → Bool → Option (Bool)
  | 0, _, _, _, _, _ => none
  | k + 1, x3, x4, x5, x8, x48 => if x48 = true then (some false) else (if x5 = true then (laws_FnBorders.l0 k x3 x4 x8 x4 (x4.length : Int) 0) else (some ((x4.length : Int) == 0)))
def laws_FnBorders.l0 : Nat → ByteArray → List Int → Int → List Int → Int → Int → Option (Bool)
  | 0, _, _, _, _, _, _ => none
  | k + 1, x3, x4, x8, x54, x55, x56 => if x56 < x55 then (if 0 ≤ x56 then (if x56 < (x54.length : Int) then (if 0 ≤ (wrap64 (x56 + 1)) then (if (wrap64 (x56 + 1)) ≤ (x3.size : Int) then (if (rd x54 x56) < 0 then (laws_FnBorders.j2 k x3 x4 x8 x56 (rd x54 x56) (x3.extract 0 ((wrap64 (x56 + 1)) : Int).toNat) x54 x55 x56 true) else (if (rd x54 x56) > x56 then (laws_FnBorders.j2 k x3 x4 x8 x56 (rd x54 x56) (x3.extract 0 ((wrap64 (x56 + 1)) : Int).toNat) x54 x55 x56 true) else (if 0 ≤ (rd x54 x56) then (if (rd x54 x56) ≤ ((x3.extract 0 ((wrap64 (x56 + 1)) : Int).toNat).size : Int) then (if 0 ≤ (wrap64 (((x3.extract 0 ((wrap64 (x56 + 1)) : Int).toNat).size : Int) - (rd x54 x56))) then (if (wrap64 (((x3.extract 0 ((wrap64 (x56 + 1)) : Int).toNat).size : Int) - (rd x54 x56))) ≤ ((x3.extract 0 ((wrap64 (x56 + 1)) : Int).toNat).size : Int) then (laws_FnBorders.j2 k x3 x4 x8 x56 (rd x54 x56) (x3.extract 0 ((wrap64 (x56 + 1)) : Int).toNat) x54 x55 x56 (((x3.extract 0 ((wrap64 (x56 + 1)) : Int).toNat).extract 0 ((rd x54 x56) : Int).toNat).toList != ((x3.extract 0 ((wrap64 (x56 + 1)) : Int).toNat).extract ((wrap64 (((x3.extract 0 ((wrap64 (x56 + 1)) : Int).toNat).size : Int) - (rd x54 x56))) : Int).toNat (x3.extract 0 ((wrap64 (x56 + 1)) : Int).toNat).size).toList)) else (none)) else (none)) else (none)) else (none)))) else (none)) else (none)) else (none)) else (none)) else (laws_FnBorders.l2 k x3 x4 x8 x8)
def laws_FnBorders.j2 : Nat → ByteArray → List Int → Int → Int → Int → ByteArray → List Int → Int → Int → Bool → Option (Bool)
  | 0, _, _, _, _, _, _, _, _, _, _ => none
  | k + 1, x3, x4, x8, x10, x11, x12, x54, x55, x56, x83 => if x83 = true then (some false) else (laws_FnBorders.l1 k x3 x4 x8 x10 x12 (wrap64 (x11 + 1)) x54 x55 x56)
def laws_FnBorders.l1 : Nat → ByteArray → List Int → Int → Int → ByteArray → Int → List Int → Int → Int → Option (Bool)
  | 0, _, _, _, _, _, _, _, _, _ => none
  | k + 1, x3, x4, x8, x10, x12, x13, x54, x55, x56 => if x13 ≤ x10 then (if 0 ≤ x13 then (if x13 ≤ (x12.size : Int) then (if 0 ≤ (wrap64 ((x12.size : Int) - x13)) then (if (wrap64 ((x12.size : Int) - x13)) ≤ (x12.size : Int) then (if (x12.extract 0 (x13 : Int).toNat).toList = (x12.extract ((wrap64 ((x12.size : Int) - x13)) : Int).toNat x12.size).toList then (some false) else (laws_FnBorders.l1 k x3 x4 x8 x10 x12 (wrap64 (x13 + 1)) x54 x55 x56)) else (none)) else (none)) else (none)) else (none)) else (laws_FnBorders.l0 k x3 x4 x8 x54 x55 (wrap64 (x56 + 1)))
def laws_FnBorders.l2 : Nat → ByteArray → List Int → Int → Int → Option (Bool)
  | 0, _, _, _, _ => none
  | k + 1, x3, x4, x8, x14 => if x14 < (x3.size : Int) then (if 0 ≤ x14 then (if 0 ≤ (wrap64 (x14 - x8)) then (if (wrap64 (x14 - x8)) < (x3.size : Int) then (if (bt x3 x14) = (bt x3 (wrap64 (x14 - x8))) then (laws_FnBorders.l2 k x3 x4 x8 (wrap64 (x14 + 1))) else (some false)) else (none)) else (none)) else (none)) else (if x8 > 0 then (if 0 ≤ (wrap64 ((x3.size : Int) - 1)) then (if (wrap64 ((x3.size : Int) - 1)) < (x4.length : Int) then (some (x8 == (wrap64 ((x3.size : Int) - (rd x4 (wrap64 ((x3.size : Int) - 1))))))) else (none)) else (none)) else (some false))
end
def laws_FnBorders.f (k : Nat) (l0 : List Int) : Option (Bool) := if (l0.length : Int) > 1048576 then (some true) else ((spec_DrawBordersOf.f k l0).bind fun t274 => ((impl_BordersOf.f k t274).bind fun bt275 => ((spec_BordersOf.f k t274).bind fun bt279 => ((impl_PeriodOf.f k t274).bind fun bt283 => (if (bt275.2 != bt279.2) = true then (laws_FnBorders.j0 k t274 bt275.1 bt275.2 bt283.1 true) else ((laws_sameInts.f k bt275.1 bt279.1).bind fun t285 => (if t285 = true then (laws_FnBorders.j0 k t274 bt275.1 bt275.2 bt283.1 (bt283.2 != bt279.2)) else (laws_FnBorders.j0 k t274 bt275.1 bt275.2 bt283.1 true))))))))
theorem laws_FnBorders.mono_l : ∀ k, (∀ y0 y1 y2 y3 y4, LeO (laws_FnBorders.j0 k y0 y1 y2 y3 y4) (laws_FnBorders.j0 (k + 1) y0 y1 y2 y3 y4)) ∧ (∀ y0 y1 y2 y3 y4 y5, LeO (laws_FnBorders.l0 k y0 y1 y2 y3 y4 y5) (laws_FnBorders.l0 (k + 1) y0 y1 y2 y3 y4 y5)) ∧ (∀ y0 y1 y2 y3 y4 y5 y6 y7 y8 y9, LeO (laws_FnBorders.j2 k y0 y1 y2 y3 y4 y5 y6 y7 y8 y9) (laws_FnBorders.j2 (k + 1) y0 y1 y2 y3 y4 y5 y6 y7 y8 y9)) ∧ (∀ y0 y1 y2 y3 y4 y5 y6 y7 y8, LeO (laws_FnBorders.l1 k y0 y1 y2 y3 y4 y5 y6 y7 y8) (laws_FnBorders.l1 (k + 1) y0 y1 y2 y3 y4 y5 y6 y7 y8)) ∧ (∀ y0 y1 y2 y3, LeO (laws_FnBorders.l2 k y0 y1 y2 y3) (laws_FnBorders.l2 (k + 1) y0 y1 y2 y3))
  | 0 => ⟨fun _ _ _ _ _ r h => by simp [laws_FnBorders.j0] at h, fun _ _ _ _ _ _ r h => by simp [laws_FnBorders.l0] at h, fun _ _ _ _ _ _ _ _ _ _ r h => by simp [laws_FnBorders.j2] at h, fun _ _ _ _ _ _ _ _ _ r h => by simp [laws_FnBorders.l1] at h, fun _ _ _ _ r h => by simp [laws_FnBorders.l2] at h⟩
  | k + 1 => by
    obtain ⟨ih0, ih1, ih2, ih3, ih4⟩ := laws_FnBorders.mono_l k
    refine ⟨?_, ?_, ?_, ?_, ?_⟩
    · intro y0 y1 y2 y3 y4
      unfold laws_FnBorders.j0
      repeat' first
      | (with_reducible exact ih0 _ _ _ _ _)
      | (with_reducible exact ih1 _ _ _ _ _ _)
      | (with_reducible exact ih2 _ _ _ _ _ _ _ _ _ _)
      | (with_reducible exact ih3 _ _ _ _ _ _ _ _ _)
      | (with_reducible exact ih4 _ _ _ _)
      | (with_reducible exact impl_BordersOf.mono _ _)
      | (with_reducible exact impl_PeriodOf.mono _ _)
      | (with_reducible exact laws_sameInts.mono _ _ _)
      | (with_reducible exact spec_BordersOf.mono _ _)
      | (with_reducible exact spec_DrawBordersOf.mono _ _)
      | (with_reducible exact LeO.refl _)
      | (with_reducible exact LeO.none _)
      | (with_reducible refine LeO.ite ?_ ?_)
      | (with_reducible refine LeO.bind ?_ (fun _ => ?_))
      | exact ih0 _ _ _ _ _
      | exact ih1 _ _ _ _ _ _
      | exact ih2 _ _ _ _ _ _ _ _ _ _
      | exact ih3 _ _ _ _ _ _ _ _ _
      | exact ih4 _ _ _ _
      | exact impl_BordersOf.mono _ _
      | exact impl_PeriodOf.mono _ _
      | exact laws_sameInts.mono _ _ _
      | exact spec_BordersOf.mono _ _
      | exact spec_DrawBordersOf.mono _ _
      | exact LeO.none _
      | refine LeO.ite ?_ ?_
      | refine LeO.bind ?_ (fun _ => ?_)
    · intro y0 y1 y2 y3 y4 y5
      unfold laws_FnBorders.l0
      repeat' first
      | (with_reducible exact ih0 _ _ _ _ _)
      | (with_reducible exact ih1 _ _ _ _ _ _)
      | (with_reducible exact ih2 _ _ _ _ _ _ _ _ _ _)
      | (with_reducible exact ih3 _ _ _ _ _ _ _ _ _)
      | (with_reducible exact ih4 _ _ _ _)
      | (with_reducible exact impl_BordersOf.mono _ _)
      | (with_reducible exact impl_PeriodOf.mono _ _)
      | (with_reducible exact laws_sameInts.mono _ _ _)
      | (with_reducible exact spec_BordersOf.mono _ _)
      | (with_reducible exact spec_DrawBordersOf.mono _ _)
      | (with_reducible exact LeO.refl _)
      | (with_reducible exact LeO.none _)
      | (with_reducible refine LeO.ite ?_ ?_)
      | (with_reducible refine LeO.bind ?_ (fun _ => ?_))
      | exact ih0 _ _ _ _ _
      | exact ih1 _ _ _ _ _ _
      | exact ih2 _ _ _ _ _ _ _ _ _ _
      | exact ih3 _ _ _ _ _ _ _ _ _
      | exact ih4 _ _ _ _
      | exact impl_BordersOf.mono _ _
      | exact impl_PeriodOf.mono _ _
      | exact laws_sameInts.mono _ _ _
      | exact spec_BordersOf.mono _ _
      | exact spec_DrawBordersOf.mono _ _
      | exact LeO.none _
      | refine LeO.ite ?_ ?_
      | refine LeO.bind ?_ (fun _ => ?_)
    · intro y0 y1 y2 y3 y4 y5 y6 y7 y8 y9
      unfold laws_FnBorders.j2
      repeat' first
      | (with_reducible exact ih0 _ _ _ _ _)
      | (with_reducible exact ih1 _ _ _ _ _ _)
      | (with_reducible exact ih2 _ _ _ _ _ _ _ _ _ _)
      | (with_reducible exact ih3 _ _ _ _ _ _ _ _ _)
      | (with_reducible exact ih4 _ _ _ _)
      | (with_reducible exact impl_BordersOf.mono _ _)
      | (with_reducible exact impl_PeriodOf.mono _ _)
      | (with_reducible exact laws_sameInts.mono _ _ _)
      | (with_reducible exact spec_BordersOf.mono _ _)
      | (with_reducible exact spec_DrawBordersOf.mono _ _)
      | (with_reducible exact LeO.refl _)
      | (with_reducible exact LeO.none _)
      | (with_reducible refine LeO.ite ?_ ?_)
      | (with_reducible refine LeO.bind ?_ (fun _ => ?_))
      | exact ih0 _ _ _ _ _
      | exact ih1 _ _ _ _ _ _
      | exact ih2 _ _ _ _ _ _ _ _ _ _
      | exact ih3 _ _ _ _ _ _ _ _ _
      | exact ih4 _ _ _ _
      | exact impl_BordersOf.mono _ _
      | exact impl_PeriodOf.mono _ _
      | exact laws_sameInts.mono _ _ _
      | exact spec_BordersOf.mono _ _
      | exact spec_DrawBordersOf.mono _ _
      | exact LeO.none _
      | refine LeO.ite ?_ ?_
      | refine LeO.bind ?_ (fun _ => ?_)
    · intro y0 y1 y2 y3 y4 y5 y6 y7 y8
      unfold laws_FnBorders.l1
      repeat' first
      | (with_reducible exact ih0 _ _ _ _ _)
      | (with_reducible exact ih1 _ _ _ _ _ _)
      | (with_reducible exact ih2 _ _ _ _ _ _ _ _ _ _)
      | (with_reducible exact ih3 _ _ _ _ _ _ _ _ _)
      | (with_reducible exact ih4 _ _ _ _)
      | (with_reducible exact impl_BordersOf.mono _ _)
      | (with_reducible exact impl_PeriodOf.mono _ _)
      | (with_reducible exact laws_sameInts.mono _ _ _)
      | (with_reducible exact spec_BordersOf.mono _ _)
      | (with_reducible exact spec_DrawBordersOf.mono _ _)
      | (with_reducible exact LeO.refl _)
      | (with_reducible exact LeO.none _)
      | (with_reducible refine LeO.ite ?_ ?_)
      | (with_reducible refine LeO.bind ?_ (fun _ => ?_))
      | exact ih0 _ _ _ _ _
      | exact ih1 _ _ _ _ _ _
      | exact ih2 _ _ _ _ _ _ _ _ _ _
      | exact ih3 _ _ _ _ _ _ _ _ _
      | exact ih4 _ _ _ _
      | exact impl_BordersOf.mono _ _
      | exact impl_PeriodOf.mono _ _
      | exact laws_sameInts.mono _ _ _
      | exact spec_BordersOf.mono _ _
      | exact spec_DrawBordersOf.mono _ _
      | exact LeO.none _
      | refine LeO.ite ?_ ?_
      | refine LeO.bind ?_ (fun _ => ?_)
    · intro y0 y1 y2 y3
      unfold laws_FnBorders.l2
      repeat' first
      | (with_reducible exact ih0 _ _ _ _ _)
      | (with_reducible exact ih1 _ _ _ _ _ _)
      | (with_reducible exact ih2 _ _ _ _ _ _ _ _ _ _)
      | (with_reducible exact ih3 _ _ _ _ _ _ _ _ _)
      | (with_reducible exact ih4 _ _ _ _)
      | (with_reducible exact impl_BordersOf.mono _ _)
      | (with_reducible exact impl_PeriodOf.mono _ _)
      | (with_reducible exact laws_sameInts.mono _ _ _)
      | (with_reducible exact spec_BordersOf.mono _ _)
      | (with_reducible exact spec_DrawBordersOf.mono _ _)
      | (with_reducible exact LeO.refl _)
      | (with_reducible exact LeO.none _)
      | (with_reducible refine LeO.ite ?_ ?_)
      | (with_reducible refine LeO.bind ?_ (fun _ => ?_))
      | exact ih0 _ _ _ _ _
      | exact ih1 _ _ _ _ _ _
      | exact ih2 _ _ _ _ _ _ _ _ _ _
      | exact ih3 _ _ _ _ _ _ _ _ _
      | exact ih4 _ _ _ _
      | exact impl_BordersOf.mono _ _
      | exact impl_PeriodOf.mono _ _
      | exact laws_sameInts.mono _ _ _
      | exact spec_BordersOf.mono _ _
      | exact spec_DrawBordersOf.mono _ _
      | exact LeO.none _
      | refine LeO.ite ?_ ?_
      | refine LeO.bind ?_ (fun _ => ?_)
theorem laws_FnBorders.mono : ∀ a0 k, LeO (laws_FnBorders.f k a0) (laws_FnBorders.f (k + 1) a0) := by
  intro a0 k
  obtain ⟨ih0, ih1, ih2, ih3, ih4⟩ := laws_FnBorders.mono_l k
  unfold laws_FnBorders.f
  repeat' first
      | (with_reducible exact ih0 _ _ _ _ _)
      | (with_reducible exact ih1 _ _ _ _ _ _)
      | (with_reducible exact ih2 _ _ _ _ _ _ _ _ _ _)
      | (with_reducible exact ih3 _ _ _ _ _ _ _ _ _)
      | (with_reducible exact ih4 _ _ _ _)
      | (with_reducible exact impl_BordersOf.mono _ _)
      | (with_reducible exact impl_PeriodOf.mono _ _)
      | (with_reducible exact laws_sameInts.mono _ _ _)
      | (with_reducible exact spec_BordersOf.mono _ _)
      | (with_reducible exact spec_DrawBordersOf.mono _ _)
      | (with_reducible exact LeO.refl _)
      | (with_reducible exact LeO.none _)
      | (with_reducible refine LeO.ite ?_ ?_)
      | (with_reducible refine LeO.bind ?_ (fun _ => ?_))
      | exact ih0 _ _ _ _ _
      | exact ih1 _ _ _ _ _ _
      | exact ih2 _ _ _ _ _ _ _ _ _ _
      | exact ih3 _ _ _ _ _ _ _ _ _
      | exact ih4 _ _ _ _
      | exact impl_BordersOf.mono _ _
      | exact impl_PeriodOf.mono _ _
      | exact laws_sameInts.mono _ _ _
      | exact spec_BordersOf.mono _ _
      | exact spec_DrawBordersOf.mono _ _
      | exact LeO.none _
      | refine LeO.ite ?_ ?_
      | refine LeO.bind ?_ (fun _ => ?_)
set_option maxHeartbeats 8000000 in
set_option maxRecDepth 100000 in
theorem laws_FnBorders.calls (k : Nat) (A0 : Option Addr) (c0 : Nat) (l0 : List Int) (r : Bool) (w : World) (hr0 : Kd.C (Kd.int .u8) w A0 l0.length l0) (hc0 : l0.length ≤ c0) (h : laws_FnBorders.f k l0 = some r) :
    Calls Try.prog 5 #[.slice A0 l0.length c0] w fun e w' => e = .returned (.bool r) ∧ Below w.heap.size w w' := by
  have HR0 := Aside0.mk hr0
  have HC0 := Aside0.mk hc0
  clear hr0 hc0
  have HB := Aside0.mk (Below.refl w.heap.size w)
  have H : (if (l0.length : Int) > 1048576 then (some true) else ((spec_DrawBordersOf.f k l0).bind fun t274 => ((impl_BordersOf.f k t274).bind fun bt275 => ((spec_BordersOf.f k t274).bind fun bt279 => ((impl_PeriodOf.f k t274).bind fun bt283 => (if (bt275.2 != bt279.2) = true then (laws_FnBorders.j0 k t274 bt275.1 bt275.2 bt283.1 true) else ((laws_sameInts.f k bt275.1 bt279.1).bind fun t285 => (if t285 = true then (laws_FnBorders.j0 k t274 bt275.1 bt275.2 bt283.1 (bt283.2 != bt279.2)) else (laws_FnBorders.j0 k t274 bt275.1 bt275.2 bt283.1 true))))))))) = some r := h
  clear h
  by_cases c2 : (l0.length : Int) > 1048576
  · rw [if_pos c2] at H
    have c2b0 : decide (1048576 < (l0.length : Int)) = true := decide_eq_true c2
    have c2b1 : decide (1048576 < l0.length) = true := decide_eq_true (by omega)
    clear c2
    obtain rfl := Option.some.inj H
    go_enter Try.func5, Try.ntmps5
    go_wp2
    repeat (go_quiet (fail); try go_wp2)
    go_ret
    exact ⟨by first | rfl | (simp [errW_none, errW_some] <;> rfl) | (simp [*, errW_none, errW_some] <;> rfl), by repeat (first | (with_reducible first | exact HB.out | apply below_alloc | apply pw_below_drewN | apply below_drew1) | exact HB.out)⟩
  · rw [if_neg c2] at H
    have c2b0 : decide (1048576 < (l0.length : Int)) = false := decide_eq_false c2
    have c2b1 : decide (1048576 < l0.length) = false := decide_eq_false (by omega)
    clear c2
    replace H := Option.bind_eq_some_iff.mp H
    obtain ⟨t274, A30, H⟩ := H
    replace H : ((impl_BordersOf.f k t274).bind fun bt275 => ((spec_BordersOf.f k t274).bind fun bt279 => ((impl_PeriodOf.f k t274).bind fun bt283 => (if (bt275.2 != bt279.2) = true then (laws_FnBorders.j0 k t274 bt275.1 bt275.2 bt283.1 true) else ((laws_sameInts.f k bt275.1 bt279.1).bind fun t285 => (if t285 = true then (laws_FnBorders.j0 k t274 bt275.1 bt275.2 bt283.1 (bt283.2 != bt279.2)) else (laws_FnBorders.j0 k t274 bt275.1 bt275.2 bt283.1 true))))))) = some r := H
    have A3 := Aside0.mk A30
    clear A30
    replace H := Option.bind_eq_some_iff.mp H
    obtain ⟨⟨t275, t276⟩, A40, H⟩ := H
    replace H : ((spec_BordersOf.f k t274).bind fun bt279 => ((impl_PeriodOf.f k t274).bind fun bt283 => (if (t276 != bt279.2) = true then (laws_FnBorders.j0 k t274 t275 t276 bt283.1 true) else ((laws_sameInts.f k t275 bt279.1).bind fun t285 => (if t285 = true then (laws_FnBorders.j0 k t274 t275 t276 bt283.1 (bt283.2 != bt279.2)) else (laws_FnBorders.j0 k t274 t275 t276 bt283.1 true)))))) = some r := H
    have A4 := Aside0.mk A40
    clear A40
    replace H := Option.bind_eq_some_iff.mp H
    obtain ⟨⟨t279, t280⟩, A50, H⟩ := H
    replace H : ((impl_PeriodOf.f k t274).bind fun bt283 => (if (t276 != t280) = true then (laws_FnBorders.j0 k t274 t275 t276 bt283.1 true) else ((laws_sameInts.f k t275 t279).bind fun t285 => (if t285 = true then (laws_FnBorders.j0 k t274 t275 t276 bt283.1 (bt283.2 != t280)) else (laws_FnBorders.j0 k t274 t275 t276 bt283.1 true))))) = some r := H
    have A5 := Aside0.mk A50
    clear A50
    replace H := Option.bind_eq_some_iff.mp H
    obtain ⟨⟨t283, t284⟩, A60, H⟩ := H
    replace H : (if (t276 != t280) = true then (laws_FnBorders.j0 k t274 t275 t276 t283 true) else ((laws_sameInts.f k t275 t279).bind fun t285 => (if t285 = true then (laws_FnBorders.j0 k t274 t275 t276 t283 (t284 != t280)) else (laws_FnBorders.j0 k t274 t275 t276 t283 true)))) = some r := H
    have A6 := Aside0.mk A60
    clear A60
    have HC7 := Aside0.mk H
    clear H
    go_enter Try.func5, Try.ntmps5
    go_upto_region 7 with (first | (go_at_call 18; (with_reducible refine (spec_DrawBordersOf.calls k _ _ l0 t274 _ ?side1 ?side2 A3.out).mono ?_); (case side1 => repeat (first | exact HR0.out | (with_reducible refine Kd.C_alloc ?_ _) | (with_reducible refine Kd.C_drewN ?_ _) | (with_reducible refine Kd.C_drew ?_))); (case side2 => exact HC0.out); rintro e w8 ⟨rfl, hb⟩; have n0_ := Aside0.mk (below_step (by repeat (first | (with_reducible first | exact HB.out | apply below_alloc | apply pw_below_drewN | apply below_drew1) | exact HB.out)) hb); clear HB; have HB := n0_; clear n0_; (try clear hb); (try clear hb2); (try clear hk); (try clear hi)) | (go_at_call 19; (with_reducible refine (impl_BordersOf.calls k t274 t275 t276 _ A4.out).mono ?_); rintro e w9 ⟨v277, rfl, ho0, hb⟩; have n0_ := Aside0.mk (Kd.R_lower ho0 (below_size (by repeat (first | (with_reducible first | exact HB.out | apply below_alloc | apply pw_below_drewN | apply below_drew1) | exact HB.out)))); have n1_ := Aside0.mk (below_step (by repeat (first | (with_reducible first | exact HB.out | apply below_alloc | apply pw_below_drewN | apply below_drew1) | exact HB.out)) hb); clear HB; have HO278 := n0_; have HB := n1_; clear n0_ n1_; (try clear hb); (try clear hb2); (try clear hk); (try clear hi); (try clear ho0)) | (go_at_call 20; (with_reducible refine (spec_BordersOf.calls k t274 t279 t280 _ A5.out).mono ?_); rintro e w10 ⟨v281, rfl, ho0, hb⟩; have n0_ := Aside0.mk (Kd.R_elder' (by (with_reducible repeat (first | apply Kd.R_alloc | apply Kd.R_drewN | apply Kd.R_drew)); exact HO278.out) (Kd.R_base ho0) hb); have n1_ := Aside0.mk (Kd.R_lower (Kd.R_new' ho0 (Kd.R_lt (by (with_reducible repeat (first | apply Kd.R_alloc | apply Kd.R_drewN | apply Kd.R_drew)); exact HO278.out))) (below_size (by repeat (first | (with_reducible first | exact HB.out | apply below_alloc | apply pw_below_drewN | apply below_drew1) | exact HB.out)))); have n2_ := Aside0.mk (below_step (by repeat (first | (with_reducible first | exact HB.out | apply below_alloc | apply pw_below_drewN | apply below_drew1) | exact HB.out)) hb); clear HO278; clear HB; have HO278 := n0_; have HO282 := n1_; have HB := n2_; clear n0_ n1_ n2_; (try clear hb); (try clear hb2); (try clear hk); (try clear hi); (try clear ho0)) | (go_at_call 21; (with_reducible refine (impl_PeriodOf.calls k t274 t283 t284 _ A6.out).mono ?_); rintro e w11 ⟨rfl, hb⟩; have n0_ := Aside0.mk (Kd.R_below (by (with_reducible repeat (first | apply Kd.R_alloc | apply Kd.R_drewN | apply Kd.R_drew)); exact HO278.out) hb); have n1_ := Aside0.mk (Kd.R_below (by (with_reducible repeat (first | apply Kd.R_alloc | apply Kd.R_drewN | apply Kd.R_drew)); exact HO282.out) hb); have n2_ := Aside0.mk (below_step (by repeat (first | (with_reducible first | exact HB.out | apply below_alloc | apply pw_below_drewN | apply below_drew1) | exact HB.out)) hb); clear HO278; clear HO282; clear HB; have HO278 := n0_; have HO282 := n1_; have HB := n2_; clear n0_ n1_ n2_; (try clear hb); (try clear hb2); (try clear hk); (try clear hi)))
    repeat (go_quiet (first | (go_at_call 18; (with_reducible refine (spec_DrawBordersOf.calls k _ _ l0 t274 _ ?side1 ?side2 A3.out).mono ?_); (case side1 => repeat (first | exact HR0.out | (with_reducible refine Kd.C_alloc ?_ _) | (with_reducible refine Kd.C_drewN ?_ _) | (with_reducible refine Kd.C_drew ?_))); (case side2 => exact HC0.out); rintro e w8 ⟨rfl, hb⟩; have n0_ := Aside0.mk (below_step (by repeat (first | (with_reducible first | exact HB.out | apply below_alloc | apply pw_below_drewN | apply below_drew1) | exact HB.out)) hb); clear HB; have HB := n0_; clear n0_; (try clear hb); (try clear hb2); (try clear hk); (try clear hi)) | (go_at_call 19; (with_reducible refine (impl_BordersOf.calls k t274 t275 t276 _ A4.out).mono ?_); rintro e w9 ⟨v277, rfl, ho0, hb⟩; have n0_ := Aside0.mk (Kd.R_lower ho0 (below_size (by repeat (first | (with_reducible first | exact HB.out | apply below_alloc | apply pw_below_drewN | apply below_drew1) | exact HB.out)))); have n1_ := Aside0.mk (below_step (by repeat (first | (with_reducible first | exact HB.out | apply below_alloc | apply pw_below_drewN | apply below_drew1) | exact HB.out)) hb); clear HB; have HO278 := n0_; have HB := n1_; clear n0_ n1_; (try clear hb); (try clear hb2); (try clear hk); (try clear hi); (try clear ho0)) | (go_at_call 20; (with_reducible refine (spec_BordersOf.calls k t274 t279 t280 _ A5.out).mono ?_); rintro e w10 ⟨v281, rfl, ho0, hb⟩; have n0_ := Aside0.mk (Kd.R_elder' (by (with_reducible repeat (first | apply Kd.R_alloc | apply Kd.R_drewN | apply Kd.R_drew)); exact HO278.out) (Kd.R_base ho0) hb); have n1_ := Aside0.mk (Kd.R_lower (Kd.R_new' ho0 (Kd.R_lt (by (with_reducible repeat (first | apply Kd.R_alloc | apply Kd.R_drewN | apply Kd.R_drew)); exact HO278.out))) (below_size (by repeat (first | (with_reducible first | exact HB.out | apply below_alloc | apply pw_below_drewN | apply below_drew1) | exact HB.out)))); have n2_ := Aside0.mk (below_step (by repeat (first | (with_reducible first | exact HB.out | apply below_alloc | apply pw_below_drewN | apply below_drew1) | exact HB.out)) hb); clear HO278; clear HB; have HO278 := n0_; have HO282 := n1_; have HB := n2_; clear n0_ n1_ n2_; (try clear hb); (try clear hb2); (try clear hk); (try clear hi); (try clear ho0)) | (go_at_call 21; (with_reducible refine (impl_PeriodOf.calls k t274 t283 t284 _ A6.out).mono ?_); rintro e w11 ⟨rfl, hb⟩; have n0_ := Aside0.mk (Kd.R_below (by (with_reducible repeat (first | apply Kd.R_alloc | apply Kd.R_drewN | apply Kd.R_drew)); exact HO278.out) hb); have n1_ := Aside0.mk (Kd.R_below (by (with_reducible repeat (first | apply Kd.R_alloc | apply Kd.R_drewN | apply Kd.R_drew)); exact HO282.out) hb); have n2_ := Aside0.mk (below_step (by repeat (first | (with_reducible first | exact HB.out | apply below_alloc | apply pw_below_drewN | apply below_drew1) | exact HB.out)) hb); clear HO278; clear HO282; clear HB; have HO278 := n0_; have HO282 := n1_; have HB := n2_; clear n0_ n1_ n2_; (try clear hb); (try clear hb2); (try clear hk); (try clear hi))); go_upto_region 7 with (first | (go_at_call 18; (with_reducible refine (spec_DrawBordersOf.calls k _ _ l0 t274 _ ?side1 ?side2 A3.out).mono ?_); (case side1 => repeat (first | exact HR0.out | (with_reducible refine Kd.C_alloc ?_ _) | (with_reducible refine Kd.C_drewN ?_ _) | (with_reducible refine Kd.C_drew ?_))); (case side2 => exact HC0.out); rintro e w8 ⟨rfl, hb⟩; have n0_ := Aside0.mk (below_step (by repeat (first | (with_reducible first | exact HB.out | apply below_alloc | apply pw_below_drewN | apply below_drew1) | exact HB.out)) hb); clear HB; have HB := n0_; clear n0_; (try clear hb); (try clear hb2); (try clear hk); (try clear hi)) | (go_at_call 19; (with_reducible refine (impl_BordersOf.calls k t274 t275 t276 _ A4.out).mono ?_); rintro e w9 ⟨v277, rfl, ho0, hb⟩; have n0_ := Aside0.mk (Kd.R_lower ho0 (below_size (by repeat (first | (with_reducible first | exact HB.out | apply below_alloc | apply pw_below_drewN | apply below_drew1) | exact HB.out)))); have n1_ := Aside0.mk (below_step (by repeat (first | (with_reducible first | exact HB.out | apply below_alloc | apply pw_below_drewN | apply below_drew1) | exact HB.out)) hb); clear HB; have HO278 := n0_; have HB := n1_; clear n0_ n1_; (try clear hb); (try clear hb2); (try clear hk); (try clear hi); (try clear ho0)) | (go_at_call 20; (with_reducible refine (spec_BordersOf.calls k t274 t279 t280 _ A5.out).mono ?_); rintro e w10 ⟨v281, rfl, ho0, hb⟩; have n0_ := Aside0.mk (Kd.R_elder' (by (with_reducible repeat (first | apply Kd.R_alloc | apply Kd.R_drewN | apply Kd.R_drew)); exact HO278.out) (Kd.R_base ho0) hb); have n1_ := Aside0.mk (Kd.R_lower (Kd.R_new' ho0 (Kd.R_lt (by (with_reducible repeat (first | apply Kd.R_alloc | apply Kd.R_drewN | apply Kd.R_drew)); exact HO278.out))) (below_size (by repeat (first | (with_reducible first | exact HB.out | apply below_alloc | apply pw_below_drewN | apply below_drew1) | exact HB.out)))); have n2_ := Aside0.mk (below_step (by repeat (first | (with_reducible first | exact HB.out | apply below_alloc | apply pw_below_drewN | apply below_drew1) | exact HB.out)) hb); clear HO278; clear HB; have HO278 := n0_; have HO282 := n1_; have HB := n2_; clear n0_ n1_ n2_; (try clear hb); (try clear hb2); (try clear hk); (try clear hi); (try clear ho0)) | (go_at_call 21; (with_reducible refine (impl_PeriodOf.calls k t274 t283 t284 _ A6.out).mono ?_); rintro e w11 ⟨rfl, hb⟩; have n0_ := Aside0.mk (Kd.R_below (by (with_reducible repeat (first | apply Kd.R_alloc | apply Kd.R_drewN | apply Kd.R_drew)); exact HO278.out) hb); have n1_ := Aside0.mk (Kd.R_below (by (with_reducible repeat (first | apply Kd.R_alloc | apply Kd.R_drewN | apply Kd.R_drew)); exact HO282.out) hb); have n2_ := Aside0.mk (below_step (by repeat (first | (with_reducible first | exact HB.out | apply below_alloc | apply pw_below_drewN | apply below_drew1) | exact HB.out)) hb); clear HO278; clear HO282; clear HB; have HO278 := n0_; have HO282 := n1_; have HB := n2_; clear n0_ n1_ n2_; (try clear hb); (try clear hb2); (try clear hk); (try clear hi))))
    (try simp only [Act.put, List.setIfInBounds_toArray, List.set_cons_zero, List.set_cons_succ])
    go_cut [48] (fun v48 wc => ∃ (kq : Nat) (x48_6 : Bool), v48 = .bool x48_6 ∧ Aside0 (laws_FnBorders.j0 kq t274 t275 t276 t283 x48_6 = some r) ∧ Aside0 (kq ≤ k) ∧ Aside0 (Kd.R (Kd.int .i64) 3 wc w.heap.size (fun _ => True) v277 t275) ∧ Aside0 (Below w.heap.size w wc))
    case first =>
      have H := HC7.out
      clear HC7
      by_cases c12 : (t276 != t280) = true
      · rw [if_pos c12] at H
        have c12b0 : (t276 != t280) = true := c12
        (try (have c12b1 : decide (t276 = t280) = false := by simpa using c12))
        (try (have c12b2 : (t276 == t280) = false := by simpa using c12))
        (try (have c12b3 : ¬ (t276 = t280) := by simpa using c12))
        clear c12
        (first | rw [c12b0] | (simp only [i64_w, i32_w]; rw [c12b0]) | skip)
        have H' := Aside0.mk H
        clear H
        go_wp2
        repeat (go_quiet (fail); try go_wp2)
        go_meet
        case rel => exact ⟨_, (true), (by first | rfl | (simp; done) | (simp [*]; done)), H', ⟨by first | omega | exact Nat.le_refl _⟩, ⟨by (with_reducible repeat (first | apply Kd.R_alloc | apply Kd.R_drewN | apply Kd.R_drew)); exact Kd.R_mono HO278.out (fun _ hk => trivial)⟩, ⟨by repeat (first | (with_reducible first | exact HB.out | apply below_alloc | apply pw_below_drewN | apply below_drew1) | exact HB.out)⟩⟩
      · rw [if_neg c12] at H
        have c12b0 : (t276 != t280) = false := by simpa using c12
        (try (have c12b1 : decide (t276 = t280) = true := by simpa using c12))
        (try (have c12b2 : (t276 == t280) = true := by simpa using c12))
        clear c12
        (first | rw [c12b0] | (simp only [i64_w, i32_w]; rw [c12b0]) | skip)
        replace H := Option.bind_eq_some_iff.mp H
        obtain ⟨t285, A130, H⟩ := H
        replace H : (if t285 = true then (laws_FnBorders.j0 k t274 t275 t276 t283 (t284 != t280)) else (laws_FnBorders.j0 k t274 t275 t276 t283 true)) = some r := H
        have A13 := Aside0.mk A130
        clear A130
        by_cases c14 : t285 = true
        · subst c14
          have H1 : (laws_FnBorders.j0 k t274 t275 t276 t283 (t284 != t280)) = some r := by rw [if_pos rfl] at H; exact H
          clear H
          have H := H1
          clear H1
          have H' := Aside0.mk H
          clear H
          obtain ⟨Ao15, co15, eo15⟩ := Kd.R_slice HO278.out
          subst eo15
          obtain ⟨Ao16, co16, eo16⟩ := Kd.R_slice HO282.out
          subst eo16
          go_wp2_with (first | (go_at_call 22; (with_reducible refine (laws_sameInts.calls k _ _ t275 _ _ t279 true _ ?side1 ?side2 ?side3 ?side4 A13.out).mono ?_); (case side1 => repeat (first | exact (Kd.R_reads' HO278.out).2.2 | (with_reducible refine Kd.C_alloc ?_ _) | (with_reducible refine Kd.C_drewN ?_ _) | (with_reducible refine Kd.C_drew ?_))); (case side2 => exact (Kd.R_reads' HO278.out).2.1); (case side3 => repeat (first | exact (Kd.R_reads' HO282.out).2.2 | (with_reducible refine Kd.C_alloc ?_ _) | (with_reducible refine Kd.C_drewN ?_ _) | (with_reducible refine Kd.C_drew ?_))); (case side4 => exact (Kd.R_reads' HO282.out).2.1); rintro e w' ⟨rfl, ⟨nd, rfl⟩⟩; (try first | exact ⟨rfl, _, World.drewN_drewN _ _ _⟩ | exact ⟨rfl, _, Eq.trans (World.drewN_drewN _ _ _) (congrArg (World.drewN _) (Nat.add_assoc _ _ _))⟩)))
          repeat (go_quiet (first | (go_at_call 22; (with_reducible refine (laws_sameInts.calls k _ _ t275 _ _ t279 true _ ?side1 ?side2 ?side3 ?side4 A13.out).mono ?_); (case side1 => repeat (first | exact (Kd.R_reads' HO278.out).2.2 | (with_reducible refine Kd.C_alloc ?_ _) | (with_reducible refine Kd.C_drewN ?_ _) | (with_reducible refine Kd.C_drew ?_))); (case side2 => exact (Kd.R_reads' HO278.out).2.1); (case side3 => repeat (first | exact (Kd.R_reads' HO282.out).2.2 | (with_reducible refine Kd.C_alloc ?_ _) | (with_reducible refine Kd.C_drewN ?_ _) | (with_reducible refine Kd.C_drew ?_))); (case side4 => exact (Kd.R_reads' HO282.out).2.1); rintro e w' ⟨rfl, ⟨nd, rfl⟩⟩; (try first | exact ⟨rfl, _, World.drewN_drewN _ _ _⟩ | exact ⟨rfl, _, Eq.trans (World.drewN_drewN _ _ _) (congrArg (World.drewN _) (Nat.add_assoc _ _ _))⟩))); try go_wp2_with (first | (go_at_call 22; (with_reducible refine (laws_sameInts.calls k _ _ t275 _ _ t279 true _ ?side1 ?side2 ?side3 ?side4 A13.out).mono ?_); (case side1 => repeat (first | exact (Kd.R_reads' HO278.out).2.2 | (with_reducible refine Kd.C_alloc ?_ _) | (with_reducible refine Kd.C_drewN ?_ _) | (with_reducible refine Kd.C_drew ?_))); (case side2 => exact (Kd.R_reads' HO278.out).2.1); (case side3 => repeat (first | exact (Kd.R_reads' HO282.out).2.2 | (with_reducible refine Kd.C_alloc ?_ _) | (with_reducible refine Kd.C_drewN ?_ _) | (with_reducible refine Kd.C_drew ?_))); (case side4 => exact (Kd.R_reads' HO282.out).2.1); rintro e w' ⟨rfl, ⟨nd, rfl⟩⟩; (try first | exact ⟨rfl, _, World.drewN_drewN _ _ _⟩ | exact ⟨rfl, _, Eq.trans (World.drewN_drewN _ _ _) (congrArg (World.drewN _) (Nat.add_assoc _ _ _))⟩))))
          go_meet
          case rel => exact ⟨_, ((t284 != t280)), (by first | rfl | (simp; done) | (simp [*]; done)), H', ⟨by first | omega | exact Nat.le_refl _⟩, ⟨by (with_reducible repeat (first | apply Kd.R_alloc | apply Kd.R_drewN | apply Kd.R_drew)); exact Kd.R_mono HO278.out (fun _ hk => trivial)⟩, ⟨by repeat (first | (with_reducible first | exact HB.out | apply below_alloc | apply pw_below_drewN | apply below_drew1) | exact HB.out)⟩⟩
        · replace c14 := Bool.eq_false_iff.mpr c14
          subst c14
          have H1 : (laws_FnBorders.j0 k t274 t275 t276 t283 true) = some r := by rw [if_neg (show ¬ (false = true) by decide)] at H; exact H
          clear H
          have H := H1
          clear H1
          have H' := Aside0.mk H
          clear H
          obtain ⟨Ao17, co17, eo17⟩ := Kd.R_slice HO278.out
          subst eo17
          obtain ⟨Ao18, co18, eo18⟩ := Kd.R_slice HO282.out
          subst eo18
          go_wp2_with (first | (go_at_call 22; (with_reducible refine (laws_sameInts.calls k _ _ t275 _ _ t279 false _ ?side1 ?side2 ?side3 ?side4 A13.out).mono ?_); (case side1 => repeat (first | exact (Kd.R_reads' HO278.out).2.2 | (with_reducible refine Kd.C_alloc ?_ _) | (with_reducible refine Kd.C_drewN ?_ _) | (with_reducible refine Kd.C_drew ?_))); (case side2 => exact (Kd.R_reads' HO278.out).2.1); (case side3 => repeat (first | exact (Kd.R_reads' HO282.out).2.2 | (with_reducible refine Kd.C_alloc ?_ _) | (with_reducible refine Kd.C_drewN ?_ _) | (with_reducible refine Kd.C_drew ?_))); (case side4 => exact (Kd.R_reads' HO282.out).2.1); rintro e w' ⟨rfl, ⟨nd, rfl⟩⟩; (try first | exact ⟨rfl, _, World.drewN_drewN _ _ _⟩ | exact ⟨rfl, _, Eq.trans (World.drewN_drewN _ _ _) (congrArg (World.drewN _) (Nat.add_assoc _ _ _))⟩)))
          repeat (go_quiet (first | (go_at_call 22; (with_reducible refine (laws_sameInts.calls k _ _ t275 _ _ t279 false _ ?side1 ?side2 ?side3 ?side4 A13.out).mono ?_); (case side1 => repeat (first | exact (Kd.R_reads' HO278.out).2.2 | (with_reducible refine Kd.C_alloc ?_ _) | (with_reducible refine Kd.C_drewN ?_ _) | (with_reducible refine Kd.C_drew ?_))); (case side2 => exact (Kd.R_reads' HO278.out).2.1); (case side3 => repeat (first | exact (Kd.R_reads' HO282.out).2.2 | (with_reducible refine Kd.C_alloc ?_ _) | (with_reducible refine Kd.C_drewN ?_ _) | (with_reducible refine Kd.C_drew ?_))); (case side4 => exact (Kd.R_reads' HO282.out).2.1); rintro e w' ⟨rfl, ⟨nd, rfl⟩⟩; (try first | exact ⟨rfl, _, World.drewN_drewN _ _ _⟩ | exact ⟨rfl, _, Eq.trans (World.drewN_drewN _ _ _) (congrArg (World.drewN _) (Nat.add_assoc _ _ _))⟩))); try go_wp2_with (first | (go_at_call 22; (with_reducible refine (laws_sameInts.calls k _ _ t275 _ _ t279 false _ ?side1 ?side2 ?side3 ?side4 A13.out).mono ?_); (case side1 => repeat (first | exact (Kd.R_reads' HO278.out).2.2 | (with_reducible refine Kd.C_alloc ?_ _) | (with_reducible refine Kd.C_drewN ?_ _) | (with_reducible refine Kd.C_drew ?_))); (case side2 => exact (Kd.R_reads' HO278.out).2.1); (case side3 => repeat (first | exact (Kd.R_reads' HO282.out).2.2 | (with_reducible refine Kd.C_alloc ?_ _) | (with_reducible refine Kd.C_drewN ?_ _) | (with_reducible refine Kd.C_drew ?_))); (case side4 => exact (Kd.R_reads' HO282.out).2.1); rintro e w' ⟨rfl, ⟨nd, rfl⟩⟩; (try first | exact ⟨rfl, _, World.drewN_drewN _ _ _⟩ | exact ⟨rfl, _, Eq.trans (World.drewN_drewN _ _ _) (congrArg (World.drewN _) (Nat.add_assoc _ _ _))⟩))))
          go_meet
          case rel => exact ⟨_, (true), (by first | rfl | (simp; done) | (simp [*]; done)), H', ⟨by first | omega | exact Nat.le_refl _⟩, ⟨by (with_reducible repeat (first | apply Kd.R_alloc | apply Kd.R_drewN | apply Kd.R_drew)); exact Kd.R_mono HO278.out (fun _ hk => trivial)⟩, ⟨by repeat (first | (with_reducible first | exact HB.out | apply below_alloc | apply pw_below_drewN | apply below_drew1) | exact HB.out)⟩⟩
    case rest =>
      clear HC7
      try clear c1
      try clear c2
      try clear c2b0
      try clear c2b1
      try clear p2
      try clear c5
      try clear c12
      try clear c12b0
      try clear c12b1
      try clear c12b2
      try clear c14
      obtain ⟨kq, x48_6, rfl, HA, HJ6, HO_4, HB⟩ := hcut
      cases kq with
      | zero => exact absurd HA.out (by simp [laws_FnBorders.j0])
      | succ kj6 =>
        have H := HA.out
        clear HA
        simp only [laws_FnBorders.j0] at H
        by_cases c19 : x48_6 = true
        · subst c19
          have H1 : (some false) = some r := by rw [if_pos rfl] at H; exact H
          clear H
          have H := H1
          clear H1
          obtain rfl := Option.some.inj H
          go_wp2
          repeat (go_quiet (fail); try go_wp2)
          go_ret
          exact ⟨by first | rfl | (simp [errW_none, errW_some] <;> rfl) | (simp [*, errW_none, errW_some] <;> rfl), by repeat (first | (with_reducible first | exact HB.out | apply below_alloc | apply pw_below_drewN | apply below_drew1) | exact HB.out)⟩
        · replace c19 := Bool.eq_false_iff.mpr c19
          subst c19
          have H1 : (if t276 = true then (laws_FnBorders.l0 kj6 t274 t275 t283 t275 (t275.length : Int) 0) else (some ((t275.length : Int) == 0))) = some r := by rw [if_neg (show ¬ (false = true) by decide)] at H; exact H
          clear H
          have H := H1
          clear H1
          by_cases c20 : t276 = true
          · subst c20
            have H1 : (laws_FnBorders.l0 kj6 t274 t275 t283 t275 (t275.length : Int) 0) = some r := by rw [if_pos rfl] at H; exact H
            clear H
            have H := H1
            clear H1
            have H' := Aside0.mk H
            clear H
            obtain ⟨Ao21, co21, eo21⟩ := Kd.R_slice HO_4.out
            subst eo21
            go_wp2
            repeat (go_quiet (fail); try go_wp2)
            go_loopg [56] kj6 (fun kq v56 w' => ∃ (x56_2 : Int), v56 = .int .i64 x56_2 ∧ Aside0 (laws_FnBorders.l0 kq t274 t275 t283 t275 (t275.length : Int) x56_2 = some r) ∧ Aside0 (kq ≤ kj6) ∧ Aside0 (Kd.R (Kd.int .i64) 3 w' w.heap.size (fun _ => True) (.slice Ao21 t275.length co21) t275) ∧ Aside0 (Kd.R (Kd.int .i64) 3 w' w.heap.size (fun _ => True) (.slice Ao21 t275.length co21) t275) ∧ Aside0 (Below w.heap.size w w'))
            case atStart => exact ⟨(0), (by first | rfl | (simp; done) | (simp [*]; done)), H', ⟨Nat.le_refl _⟩, ⟨by (with_reducible repeat (first | apply Kd.R_alloc | apply Kd.R_drewN | apply Kd.R_drew)); exact HO_4.out⟩, ⟨by (with_reducible repeat (first | apply Kd.R_alloc | apply Kd.R_drewN | apply Kd.R_drew)); exact HO_4.out⟩, ⟨by repeat (first | (with_reducible first | exact HB.out | apply below_alloc | apply pw_below_drewN | apply below_drew1) | exact HB.out)⟩⟩
            case round =>
              clear H'
              try clear c1
              try clear c2
              try clear c2b0
              try clear c2b1
              try clear p2
              try clear c5
              try clear c12
              try clear c12b0
              try clear c12b1
              try clear c12b2
              try clear c14
              try clear c19
              try clear c20
              try clear p2
              obtain ⟨x56_2, rfl, HA, HK2, HO_4, HO_54, HB⟩ := hrel
              cases gk with
              | zero => exact absurd HA.out (by simp [laws_FnBorders.l0])
              | succ k2 =>
                have H := HA.out
                clear HA
                simp only [laws_FnBorders.l0] at H
                by_cases c22 : x56_2 < (t275.length : Int)
                · rw [if_pos c22] at H
                  have c22b0 : decide (x56_2 < (t275.length : Int)) = true := decide_eq_true c22
                  clear c22
                  by_cases c23 : 0 ≤ x56_2
                  · rw [if_pos c23] at H
                    have c23b0 : decide (0 ≤ x56_2) = true := decide_eq_true c23
                    clear c23
                    by_cases c24 : x56_2 < (t275.length : Int)
                    · rw [if_pos c24] at H
                      have c24b0 : decide (x56_2 < (t275.length : Int)) = true := decide_eq_true c24
                      clear c24
                      obtain ⟨ji25, hji25⟩ : ∃ j_ : Int, (wrap64 (x56_2 + 1)) = j_ := ⟨_, rfl⟩
                      replace H : (if 0 ≤ (ji25) then (if (ji25) ≤ (t274.size : Int) then (if (rd t275 x56_2) < 0 then (laws_FnBorders.j2 k2 t274 t275 t283 x56_2 (rd t275 x56_2) (t274.extract 0 ((ji25) : Int).toNat) t275 (t275.length : Int) x56_2 true) else (if (rd t275 x56_2) > x56_2 then (laws_FnBorders.j2 k2 t274 t275 t283 x56_2 (rd t275 x56_2) (t274.extract 0 ((ji25) : Int).toNat) t275 (t275.length : Int) x56_2 true) else (if 0 ≤ (rd t275 x56_2) then (if (rd t275 x56_2) ≤ ((t274.extract 0 ((ji25) : Int).toNat).size : Int) then (if 0 ≤ (wrap64 (((t274.extract 0 ((ji25) : Int).toNat).size : Int) - (rd t275 x56_2))) then (if (wrap64 (((t274.extract 0 ((ji25) : Int).toNat).size : Int) - (rd t275 x56_2))) ≤ ((t274.extract 0 ((ji25) : Int).toNat).size : Int) then (laws_FnBorders.j2 k2 t274 t275 t283 x56_2 (rd t275 x56_2) (t274.extract 0 ((ji25) : Int).toNat) t275 (t275.length : Int) x56_2 (((t274.extract 0 ((ji25) : Int).toNat).extract 0 ((rd t275 x56_2) : Int).toNat).toList != ((t274.extract 0 ((ji25) : Int).toNat).extract ((wrap64 (((t274.extract 0 ((ji25) : Int).toNat).size : Int) - (rd t275 x56_2))) : Int).toNat (t274.extract 0 ((ji25) : Int).toNat).size).toList)) else (none)) else (none)) else (none)) else (none)))) else (none)) else (none)) = some r := by first | (rw [hji25] at H; exact H) | (simp only [hji25] at H ⊢; exact H)
                      have hji25w : (IntKind.i64.wrap (x56_2 + 1)) = ji25 := (i64_w _).trans hji25
                      by_cases c26 : 0 ≤ (ji25)
                      · rw [if_pos c26] at H
                        have c26b0 := eq_true c26
                        have c26b1 : decide (0 ≤ (ji25)) = true := decide_eq_true c26
                        clear c26
                        by_cases c27 : (ji25) ≤ (t274.size : Int)
                        · rw [if_pos c27] at H
                          have c27b0 := eq_true c27
                          have c27b1 : decide ((ji25) ≤ (t274.size : Int)) = true := decide_eq_true c27
                          clear c27
                          have HC28 := Aside0.mk H
                          clear H
                          have p286 : 0 ≤ (x56_2 : Int) := of_decide_eq_true (by first | (with_reducible assumption) | assumption)
                          have q286 : x56_2 < (t275.length : Int) := of_decide_eq_true (by first | (with_reducible assumption) | assumption)
                          obtain ⟨ad286, e286, hx286_0⟩ := Kd.at_int (Kd.R_reads' HO_54.out).2.2 x56_2 p286 q286
                          cases e286
                          replace p286 := eq_true p286
                          replace q286 := eq_true q286
                          go_upto_region 15 with (fail)
                          repeat (go_quiet (fail); go_upto_region 15 with (fail))
                          go_cut [83] (fun v83 wc => ∃ (kq : Nat) (x83_27 : Bool), v83 = .bool x83_27 ∧ Aside0 (laws_FnBorders.j2 kq t274 t275 t283 x56_2 (rd t275 x56_2) (t274.extract 0 ((ji25) : Int).toNat) t275 (t275.length : Int) x56_2 x83_27 = some r) ∧ Aside0 (kq ≤ k2) ∧ Aside0 (Kd.R (Kd.int .i64) 3 wc w.heap.size (fun _ => True) (.slice (some ad286) t275.length co21) t275) ∧ Aside0 (Kd.R (Kd.int .i64) 3 wc w.heap.size (fun _ => True) (.slice (some ad286) t275.length co21) t275) ∧ Aside0 (Below w.heap.size w wc))
                          case first =>
                            have H := HC28.out
                            clear HC28
                            by_cases c29 : (rd t275 x56_2) < 0
                            · rw [if_pos c29] at H
                              have c29b0 : decide ((rd t275 x56_2) < 0) = true := decide_eq_true c29
                              clear c29
                              (first | rw [c29b0] | (simp only [i64_w, i32_w]; rw [c29b0]) | skip)
                              have H' := Aside0.mk H
                              clear H
                              go_wp2
                              repeat (go_quiet (fail); try go_wp2)
                              go_meet
                              case rel => exact ⟨_, (true), (by first | rfl | (simp; done) | (simp [*]; done)), (by first | exact H' | (simp only [hji25]; exact H') | (simp only [← hji25]; exact H')), ⟨by have := HJ6.out; have := HK2.out; first | omega | exact Nat.le_refl _⟩, ⟨by (with_reducible repeat (first | apply Kd.R_alloc | apply Kd.R_drewN | apply Kd.R_drew)); exact HO_4.out⟩, ⟨by (with_reducible repeat (first | apply Kd.R_alloc | apply Kd.R_drewN | apply Kd.R_drew)); exact HO_54.out⟩, ⟨by repeat (first | (with_reducible first | exact HB.out | apply below_alloc | apply pw_below_drewN | apply below_drew1) | exact HB.out)⟩⟩
                            · rw [if_neg c29] at H
                              have c29b0 : decide ((rd t275 x56_2) < 0) = false := decide_eq_false c29
                              clear c29
                              (first | rw [c29b0] | (simp only [i64_w, i32_w]; rw [c29b0]) | skip)
                              by_cases c30 : (rd t275 x56_2) > x56_2
                              · rw [if_pos c30] at H
                                have c30b0 : decide (x56_2 < (rd t275 x56_2)) = true := decide_eq_true c30
                                clear c30
                                have H' := Aside0.mk H
                                clear H
                                go_wp2
                                repeat (go_quiet (fail); try go_wp2)
                                go_meet
                                case rel => exact ⟨_, (true), (by first | rfl | (simp; done) | (simp [*]; done)), (by first | exact H' | (simp only [hji25]; exact H') | (simp only [← hji25]; exact H')), ⟨by have := HJ6.out; have := HK2.out; first | omega | exact Nat.le_refl _⟩, ⟨by (with_reducible repeat (first | apply Kd.R_alloc | apply Kd.R_drewN | apply Kd.R_drew)); exact HO_4.out⟩, ⟨by (with_reducible repeat (first | apply Kd.R_alloc | apply Kd.R_drewN | apply Kd.R_drew)); exact HO_54.out⟩, ⟨by repeat (first | (with_reducible first | exact HB.out | apply below_alloc | apply pw_below_drewN | apply below_drew1) | exact HB.out)⟩⟩
                              · rw [if_neg c30] at H
                                have c30b0 : decide (x56_2 < (rd t275 x56_2)) = false := decide_eq_false c30
                                clear c30
                                by_cases c31 : 0 ≤ (rd t275 x56_2)
                                · rw [if_pos c31] at H
                                  have c31b0 := eq_true c31
                                  have c31b1 : decide (0 ≤ (rd t275 x56_2)) = true := decide_eq_true c31
                                  clear c31
                                  by_cases c32 : (rd t275 x56_2) ≤ ((t274.extract 0 ((ji25) : Int).toNat).size : Int)
                                  · rw [if_pos c32] at H
                                    have c32b0 := eq_true c32
                                    have c32b1 : decide ((rd t275 x56_2) ≤ ((t274.extract 0 ((ji25) : Int).toNat).size : Int)) = true := decide_eq_true c32
                                    (try (have c32x : ((rd t275 x56_2) ≤ max ji25 0) = True := eq_true (by have h_ := of_decide_eq_true c32b1; rw [ByteArray.size_extract] at h_; omega)))
                                    (try (have c32b1m := c32b1; simp only [ByteArray.size_extract, Nat.sub_zero] at c32b1m))
                                    (try (have c32b0m := c32b0; simp only [ByteArray.size_extract, Nat.sub_zero] at c32b0m))
                                    clear c32
                                    obtain ⟨ji33, hji33⟩ : ∃ j_ : Int, (wrap64 (((t274.extract 0 ((ji25) : Int).toNat).size : Int) - (rd t275 x56_2))) = j_ := ⟨_, rfl⟩
                                    replace H : (if 0 ≤ (ji33) then (if (ji33) ≤ ((t274.extract 0 ((ji25) : Int).toNat).size : Int) then (laws_FnBorders.j2 k2 t274 t275 t283 x56_2 (rd t275 x56_2) (t274.extract 0 ((ji25) : Int).toNat) t275 (t275.length : Int) x56_2 (((t274.extract 0 ((ji25) : Int).toNat).extract 0 ((rd t275 x56_2) : Int).toNat).toList != ((t274.extract 0 ((ji25) : Int).toNat).extract ((ji33) : Int).toNat (t274.extract 0 ((ji25) : Int).toNat).size).toList)) else (none)) else (none)) = some r := by first | (rw [hji33] at H; exact H) | (simp only [hji33] at H ⊢; exact H)
                                    have hji33w : (IntKind.i64.wrap (((t274.extract 0 ((ji25) : Int).toNat).size : Int) - (rd t275 x56_2))) = ji33 := (i64_w _).trans hji33
                                    (try (have hji33wm := hji33w; simp only [ByteArray.size_extract, Nat.sub_zero] at hji33wm))
                                    (try (have hji33x : (IntKind.i64.wrap (max ji25 0 - (rd t275 x56_2))) = ji33 := by have u_ : ji25 ≤ (t274.size : Int) := of_decide_eq_true (by assumption); have s_ : ((t274.extract 0 (ji25 : Int).toNat).size : Int) = max ji25 0 := (by rw [ByteArray.size_extract]; omega); rw [← s_]; exact hji33w))
                                    by_cases c34 : 0 ≤ (ji33)
                                    · rw [if_pos c34] at H
                                      have c34b0 := eq_true c34
                                      have c34b1 : decide (0 ≤ (ji33)) = true := decide_eq_true c34
                                      clear c34
                                      by_cases c35 : (ji33) ≤ ((t274.extract 0 ((ji25) : Int).toNat).size : Int)
                                      · rw [if_pos c35] at H
                                        have c35b0 := eq_true c35
                                        have c35b1 : decide ((ji33) ≤ ((t274.extract 0 ((ji25) : Int).toNat).size : Int)) = true := decide_eq_true c35
                                        (try (have c35x : ((ji33) ≤ max ji25 0) = True := eq_true (by have h_ := of_decide_eq_true c35b1; rw [ByteArray.size_extract] at h_; omega)))
                                        (try (have c35b1m := c35b1; simp only [ByteArray.size_extract, Nat.sub_zero] at c35b1m))
                                        (try (have c35b0m := c35b0; simp only [ByteArray.size_extract, Nat.sub_zero] at c35b0m))
                                        clear c35
                                        have H' := Aside0.mk H
                                        clear H
                                        go_wp2
                                        repeat (go_quiet (fail); try go_wp2)
                                        go_meet
                                        case rel => exact ⟨_, ((((t274.extract 0 ((ji25) : Int).toNat).extract 0 ((rd t275 x56_2) : Int).toNat).toList != ((t274.extract 0 ((ji25) : Int).toNat).extract ((ji33) : Int).toNat (t274.extract 0 ((ji25) : Int).toNat).size).toList)), (by first | rfl | (simp; done) | (have u_ : ji25 ≤ (t274.size : Int) := of_decide_eq_true (by assumption); have s_ : (t274.extract 0 (ji25 : Int).toNat).size = (ji25 : Int).toNat := (by rw [ByteArray.size_extract]; omega); rw [s_]; first | rfl | (simp; done)) | (have u_ : ji25 ≤ (t274.size : Int) := of_decide_eq_true (by assumption); have s_ : (t274.extract 0 (ji25 : Int).toNat).size = (ji25 : Int).toNat := (by rw [ByteArray.size_extract]; omega); rw [s_]; first | rfl | (simp; done)) | (simp only [← hji25, ← hji33] <;> (first | rfl | simp)) | (simp [*]; done)), (by first | exact H' | (simp only [hji25, hji33]; exact H') | (simp only [← hji25, ← hji33]; exact H')), ⟨by have := HJ6.out; have := HK2.out; first | omega | exact Nat.le_refl _⟩, ⟨by (with_reducible repeat (first | apply Kd.R_alloc | apply Kd.R_drewN | apply Kd.R_drew)); exact HO_4.out⟩, ⟨by (with_reducible repeat (first | apply Kd.R_alloc | apply Kd.R_drewN | apply Kd.R_drew)); exact HO_54.out⟩, ⟨by repeat (first | (with_reducible first | exact HB.out | apply below_alloc | apply pw_below_drewN | apply below_drew1) | exact HB.out)⟩⟩
                                      · rw [if_neg c35] at H
                                        exact absurd H (by simp)
                                    · rw [if_neg c34] at H
                                      exact absurd H (by simp)
                                  · rw [if_neg c32] at H
                                    exact absurd H (by simp)
                                · rw [if_neg c31] at H
                                  exact absurd H (by simp)
                          case rest =>
                            clear HC28
                            try clear c1
                            try clear c2
                            try clear c2b0
                            try clear c2b1
                            try clear p2
                            try clear q2
                            try clear hx2
                            try clear c3
                            try clear c5
                            try clear p6
                            try clear c12
                            try clear c12b0
                            try clear c12b1
                            try clear c12b2
                            try clear c14
                            try clear c19
                            try clear c20
                            try clear c22
                            try clear c22b0
                            try clear c23
                            try clear c23b0
                            try clear c24
                            try clear c24b0
                            try clear c26
                            try clear c26b0
                            try clear c26b1
                            try clear c27
                            try clear c27b0
                            try clear c27b1
                            try clear p28
                            try clear q28
                            try clear hx28
                            try clear c29
                            try clear c29b0
                            try clear c30
                            try clear c30b0
                            try clear c31
                            try clear c31b0
                            try clear c31b1
                            try clear c32
                            try clear c32b0
                            try clear c32b1
                            try clear c34
                            try clear c34b0
                            try clear c34b1
                            try clear c35
                            try clear c35b0
                            try clear c35b1
                            try clear hx286_0
                            try clear p2
                            try clear p286
                            try clear q286
                            obtain ⟨kq, x83_27, rfl, HA, HJ27, HO_4, HO_54, HB⟩ := hcut
                            cases kq with
                            | zero => exact absurd HA.out (by simp [laws_FnBorders.j2])
                            | succ kj27 =>
                              have H := HA.out
                              clear HA
                              simp only [laws_FnBorders.j2] at H
                              by_cases c36 : x83_27 = true
                              · subst c36
                                have H1 : (some false) = some r := by rw [if_pos rfl] at H; exact H
                                clear H
                                have H := H1
                                clear H1
                                obtain rfl := Option.some.inj H
                                go_wp2
                                repeat (go_quiet (fail); try go_wp2)
                                go_ret
                                exact ⟨by first | rfl | (simp [errW_none, errW_some] <;> rfl) | (simp only [← hji25]; first | rfl | (simp [errW_none, errW_some] <;> rfl)) | (simp [*, errW_none, errW_some] <;> rfl), by repeat (first | (with_reducible first | exact HB.out | apply below_alloc | apply pw_below_drewN | apply below_drew1) | exact HB.out)⟩
                              · replace c36 := Bool.eq_false_iff.mpr c36
                                subst c36
                                have H1 : (laws_FnBorders.l1 kj27 t274 t275 t283 x56_2 (t274.extract 0 ((ji25) : Int).toNat) (wrap64 ((rd t275 x56_2) + 1)) t275 (t275.length : Int) x56_2) = some r := by rw [if_neg (show ¬ (false = true) by decide)] at H; exact H
                                clear H
                                have H := H1
                                clear H1
                                have H' := Aside0.mk H
                                clear H
                                go_wp2
                                repeat (go_quiet (fail); try go_wp2)
                                go_loopg [13] kj27 (fun kq v13 w' => ∃ (x13_4 : Int), v13 = .int .i64 x13_4 ∧ Aside0 (laws_FnBorders.l1 kq t274 t275 t283 x56_2 (t274.extract 0 ((ji25) : Int).toNat) x13_4 t275 (t275.length : Int) x56_2 = some r) ∧ Aside0 (kq ≤ kj27) ∧ Aside0 (Kd.R (Kd.int .i64) 3 w' w.heap.size (fun _ => True) (.slice (some ad286) t275.length co21) t275) ∧ Aside0 (Kd.R (Kd.int .i64) 3 w' w.heap.size (fun _ => True) (.slice (some ad286) t275.length co21) t275) ∧ Aside0 (Below w.heap.size w w'))
                                case atStart => exact ⟨(wrap64 ((rd t275 x56_2) + 1)), (by first | rfl | (simp; done) | (simp [*]; done)), H', ⟨Nat.le_refl _⟩, ⟨by (with_reducible repeat (first | apply Kd.R_alloc | apply Kd.R_drewN | apply Kd.R_drew)); exact HO_4.out⟩, ⟨by (with_reducible repeat (first | apply Kd.R_alloc | apply Kd.R_drewN | apply Kd.R_drew)); exact HO_54.out⟩, ⟨by repeat (first | (with_reducible first | exact HB.out | apply below_alloc | apply pw_below_drewN | apply below_drew1) | exact HB.out)⟩⟩
                                case round =>
                                  clear H'
                                  try clear c1
                                  try clear c2
                                  try clear c2b0
                                  try clear c2b1
                                  try clear p2
                                  try clear q2
                                  try clear hx2
                                  try clear c3
                                  try clear c5
                                  try clear p6
                                  try clear c12
                                  try clear c12b0
                                  try clear c12b1
                                  try clear c12b2
                                  try clear c14
                                  try clear c19
                                  try clear c20
                                  try clear c22
                                  try clear c22b0
                                  try clear c23
                                  try clear c23b0
                                  try clear c24
                                  try clear c24b0
                                  try clear c26
                                  try clear c26b0
                                  try clear c26b1
                                  try clear c27
                                  try clear c27b0
                                  try clear c27b1
                                  try clear p28
                                  try clear q28
                                  try clear hx28
                                  try clear c29
                                  try clear c29b0
                                  try clear c30
                                  try clear c30b0
                                  try clear c31
                                  try clear c31b0
                                  try clear c31b1
                                  try clear c32
                                  try clear c32b0
                                  try clear c32b1
                                  try clear c34
                                  try clear c34b0
                                  try clear c34b1
                                  try clear c35
                                  try clear c35b0
                                  try clear c35b1
                                  try clear c36
                                  try clear hx286_0
                                  try clear p2
                                  try clear p28
                                  try clear p286
                                  try clear p6
                                  try clear q2
                                  try clear q28
                                  try clear q286
                                  obtain ⟨x13_4, rfl, HA, HK4, HO_4, HO_54, HB⟩ := hrel
                                  cases gk with
                                  | zero => exact absurd HA.out (by simp [laws_FnBorders.l1])
                                  | succ k4 =>
                                    have H := HA.out
                                    clear HA
                                    simp only [laws_FnBorders.l1] at H
                                    by_cases c37 : x13_4 ≤ x56_2
                                    · rw [if_pos c37] at H
                                      have c37b0 : decide (x13_4 ≤ x56_2) = true := decide_eq_true c37
                                      clear c37
                                      by_cases c38 : 0 ≤ x13_4
                                      · rw [if_pos c38] at H
                                        have c38b0 := eq_true c38
                                        have c38b1 : decide (0 ≤ x13_4) = true := decide_eq_true c38
                                        clear c38
                                        by_cases c39 : x13_4 ≤ ((t274.extract 0 ((ji25) : Int).toNat).size : Int)
                                        · rw [if_pos c39] at H
                                          have c39b0 := eq_true c39
                                          have c39b1 : decide (x13_4 ≤ ((t274.extract 0 ((ji25) : Int).toNat).size : Int)) = true := decide_eq_true c39
                                          (try (have c39x : (x13_4 ≤ max ji25 0) = True := eq_true (by have h_ := of_decide_eq_true c39b1; rw [ByteArray.size_extract] at h_; omega)))
                                          (try (have c39b1m := c39b1; simp only [ByteArray.size_extract, Nat.sub_zero] at c39b1m))
                                          (try (have c39b0m := c39b0; simp only [ByteArray.size_extract, Nat.sub_zero] at c39b0m))
                                          clear c39
                                          obtain ⟨ji40, hji40⟩ : ∃ j_ : Int, (wrap64 (((t274.extract 0 ((ji25) : Int).toNat).size : Int) - x13_4)) = j_ := ⟨_, rfl⟩
                                          replace H : (if 0 ≤ (ji40) then (if (ji40) ≤ ((t274.extract 0 ((ji25) : Int).toNat).size : Int) then (if ((t274.extract 0 ((ji25) : Int).toNat).extract 0 (x13_4 : Int).toNat).toList = ((t274.extract 0 ((ji25) : Int).toNat).extract ((ji40) : Int).toNat (t274.extract 0 ((ji25) : Int).toNat).size).toList then (some false) else (laws_FnBorders.l1 k4 t274 t275 t283 x56_2 (t274.extract 0 ((ji25) : Int).toNat) (wrap64 (x13_4 + 1)) t275 (t275.length : Int) x56_2)) else (none)) else (none)) = some r := by first | (rw [hji40] at H; exact H) | (simp only [hji40] at H ⊢; exact H)
                                          have hji40w : (IntKind.i64.wrap (((t274.extract 0 ((ji25) : Int).toNat).size : Int) - x13_4)) = ji40 := (i64_w _).trans hji40
                                          (try (have hji40wm := hji40w; simp only [ByteArray.size_extract, Nat.sub_zero] at hji40wm))
                                          (try (have hji40x : (IntKind.i64.wrap (max ji25 0 - x13_4)) = ji40 := by have u_ : ji25 ≤ (t274.size : Int) := of_decide_eq_true (by assumption); have s_ : ((t274.extract 0 (ji25 : Int).toNat).size : Int) = max ji25 0 := (by rw [ByteArray.size_extract]; omega); rw [← s_]; exact hji40w))
                                          by_cases c41 : 0 ≤ (ji40)
                                          · rw [if_pos c41] at H
                                            have c41b0 := eq_true c41
                                            have c41b1 : decide (0 ≤ (ji40)) = true := decide_eq_true c41
                                            clear c41
                                            by_cases c42 : (ji40) ≤ ((t274.extract 0 ((ji25) : Int).toNat).size : Int)
                                            · rw [if_pos c42] at H
                                              have c42b0 := eq_true c42
                                              have c42b1 : decide ((ji40) ≤ ((t274.extract 0 ((ji25) : Int).toNat).size : Int)) = true := decide_eq_true c42
                                              (try (have c42x : ((ji40) ≤ max ji25 0) = True := eq_true (by have h_ := of_decide_eq_true c42b1; rw [ByteArray.size_extract] at h_; omega)))
                                              (try (have c42b1m := c42b1; simp only [ByteArray.size_extract, Nat.sub_zero] at c42b1m))
                                              (try (have c42b0m := c42b0; simp only [ByteArray.size_extract, Nat.sub_zero] at c42b0m))
                                              clear c42
                                              by_cases c43 : ((t274.extract 0 ((ji25) : Int).toNat).extract 0 (x13_4 : Int).toNat).toList = ((t274.extract 0 ((ji25) : Int).toNat).extract ((ji40) : Int).toNat (t274.extract 0 ((ji25) : Int).toNat).size).toList
                                              · rw [if_pos c43] at H
                                                have c43b0 : (((t274.extract 0 ((ji25) : Int).toNat).extract 0 (x13_4 : Int).toNat).toList == ((t274.extract 0 ((ji25) : Int).toNat).extract ((ji40) : Int).toNat (t274.extract 0 ((ji25) : Int).toNat).size).toList) = true := beq_iff_eq.mpr c43
                                                (try (have c43b0m := c43b0; simp only [ByteArray.size_extract, Nat.sub_zero] at c43b0m))
                                                have c43b1 : (((t274.extract 0 ((ji25) : Int).toNat).extract 0 (x13_4 : Int).toNat).toList != ((t274.extract 0 ((ji25) : Int).toNat).extract ((ji40) : Int).toNat (t274.extract 0 ((ji25) : Int).toNat).size).toList) = false := bne_eq_false_iff_eq.mpr c43
                                                (try (have c43b1m := c43b1; simp only [ByteArray.size_extract, Nat.sub_zero] at c43b1m))
                                                (try (have c43b0m := c43b0; simp only [ByteArray.size_extract, Nat.sub_zero] at c43b0m))
                                                clear c43
                                                obtain rfl := Option.some.inj H
                                                go_wp2
                                                all_goals (try (exfalso; rename_i h_; rw [c43b0] at h_; cases h_; done))
                                                repeat (go_quiet (fail); try go_wp2)
                                                all_goals (try (exfalso; rename_i h_; rw [c43b0] at h_; cases h_; done))
                                                go_ret
                                                exact ⟨by first | rfl | (simp [errW_none, errW_some] <;> rfl) | (simp only [← hji25, ← hji40]; first | rfl | (simp [errW_none, errW_some] <;> rfl)) | (simp [*, errW_none, errW_some] <;> rfl), by repeat (first | (with_reducible first | exact HB.out | apply below_alloc | apply pw_below_drewN | apply below_drew1) | exact HB.out)⟩
                                              · rw [if_neg c43] at H
                                                have c43b0 : (((t274.extract 0 ((ji25) : Int).toNat).extract 0 (x13_4 : Int).toNat).toList == ((t274.extract 0 ((ji25) : Int).toNat).extract ((ji40) : Int).toNat (t274.extract 0 ((ji25) : Int).toNat).size).toList) = false := beq_eq_false_iff_ne.mpr c43
                                                (try (have c43b0m := c43b0; simp only [ByteArray.size_extract, Nat.sub_zero] at c43b0m))
                                                have c43b1 : (((t274.extract 0 ((ji25) : Int).toNat).extract 0 (x13_4 : Int).toNat).toList != ((t274.extract 0 ((ji25) : Int).toNat).extract ((ji40) : Int).toNat (t274.extract 0 ((ji25) : Int).toNat).size).toList) = true := bne_iff_ne.mpr c43
                                                (try (have c43b1m := c43b1; simp only [ByteArray.size_extract, Nat.sub_zero] at c43b1m))
                                                (try (have c43b0m := c43b0; simp only [ByteArray.size_extract, Nat.sub_zero] at c43b0m))
                                                have H' := Aside0.mk H
                                                clear H
                                                go_wp2
                                                all_goals (try (exfalso; rename_i h_; rw [c43b0] at h_; cases h_; done))
                                                repeat (go_quiet (fail); try go_wp2)
                                                all_goals (try (exfalso; rename_i h_; rw [c43b0] at h_; cases h_; done))
                                                go_roundg k4
                                                case measure => have := HJ6.out; have := HK2.out; have := HJ27.out; have := HK4.out; omega
                                                case rel => exact ⟨(wrap64 (x13_4 + 1)), (by first | rfl | (simp; done) | (have u_ : ji25 ≤ (t274.size : Int) := of_decide_eq_true (by assumption); have s_ : (t274.extract 0 (ji25 : Int).toNat).size = (ji25 : Int).toNat := (by rw [ByteArray.size_extract]; omega); rw [s_]; first | rfl | (simp; done)) | (have u_ : ji25 ≤ (t274.size : Int) := of_decide_eq_true (by assumption); have s_ : (t274.extract 0 (ji25 : Int).toNat).size = (ji25 : Int).toNat := (by rw [ByteArray.size_extract]; omega); rw [s_]; first | rfl | (simp; done)) | (simp [*]; done)), (by first | exact H' | (simp only [hji25, hji40]; exact H') | (simp only [← hji25, ← hji40]; exact H')), ⟨by have := HJ6.out; have := HK2.out; have := HJ27.out; have := HK4.out; omega⟩, ⟨by (with_reducible repeat (first | apply Kd.R_alloc | apply Kd.R_drewN | apply Kd.R_drew)); exact HO_4.out⟩, ⟨by (with_reducible repeat (first | apply Kd.R_alloc | apply Kd.R_drewN | apply Kd.R_drew)); exact HO_54.out⟩, ⟨by repeat (first | (with_reducible first | exact HB.out | apply below_alloc | apply pw_below_drewN | apply below_drew1) | exact HB.out)⟩⟩
                                            · rw [if_neg c42] at H
                                              exact absurd H (by simp)
                                          · rw [if_neg c41] at H
                                            exact absurd H (by simp)
                                        · rw [if_neg c39] at H
                                          exact absurd H (by simp)
                                      · rw [if_neg c38] at H
                                        exact absurd H (by simp)
                                    · rw [if_neg c37] at H
                                      have c37b0 : decide (x13_4 ≤ x56_2) = false := decide_eq_false c37
                                      clear c37
                                      have H' := Aside0.mk H
                                      clear H
                                      go_wp2
                                      repeat (go_quiet (fail); try go_wp2)
                                      go_roundg k4
                                      case measure => have := HJ6.out; have := HK2.out; have := HJ27.out; have := HK4.out; omega
                                      case rel => exact ⟨(wrap64 (x56_2 + 1)), (by first | rfl | (simp; done) | (simp [*]; done)), (by first | exact H' | (simp only [hji25]; exact H') | (simp only [← hji25]; exact H')), ⟨by have := HJ6.out; have := HK2.out; have := HJ27.out; have := HK4.out; omega⟩, ⟨by (with_reducible repeat (first | apply Kd.R_alloc | apply Kd.R_drewN | apply Kd.R_drew)); exact HO_4.out⟩, ⟨by (with_reducible repeat (first | apply Kd.R_alloc | apply Kd.R_drewN | apply Kd.R_drew)); exact HO_54.out⟩, ⟨by repeat (first | (with_reducible first | exact HB.out | apply below_alloc | apply pw_below_drewN | apply below_drew1) | exact HB.out)⟩⟩
                        · rw [if_neg c27] at H
                          exact absurd H (by simp)
                      · rw [if_neg c26] at H
                        exact absurd H (by simp)
                    · rw [if_neg c24] at H
                      exact absurd H (by simp)
                  · rw [if_neg c23] at H
                    exact absurd H (by simp)
                · rw [if_neg c22] at H
                  have c22b0 : decide (x56_2 < (t275.length : Int)) = false := decide_eq_false c22
                  clear c22
                  have H' := Aside0.mk H
                  clear H
                  go_wp2
                  repeat (go_quiet (fail); try go_wp2)
                  go_loopg [14] k2 (fun kq v14 w' => ∃ (x14_3 : Int), v14 = .int .i64 x14_3 ∧ Aside0 (laws_FnBorders.l2 kq t274 t275 t283 x14_3 = some r) ∧ Aside0 (kq ≤ k2) ∧ Aside0 (Kd.R (Kd.int .i64) 3 w' w.heap.size (fun _ => True) (.slice Ao21 t275.length co21) t275) ∧ Aside0 (Below w.heap.size w w'))
                  case atStart => exact ⟨(t283), (by first | rfl | (simp; done) | (simp [*]; done)), H', ⟨Nat.le_refl _⟩, ⟨by (with_reducible repeat (first | apply Kd.R_alloc | apply Kd.R_drewN | apply Kd.R_drew)); exact HO_4.out⟩, ⟨by repeat (first | (with_reducible first | exact HB.out | apply below_alloc | apply pw_below_drewN | apply below_drew1) | exact HB.out)⟩⟩
                  case round =>
                    clear H'
                    try clear c1
                    try clear c2
                    try clear c2b0
                    try clear c2b1
                    try clear p2
                    try clear q2
                    try clear hx2
                    try clear c3
                    try clear c4
                    try clear c5
                    try clear p6
                    try clear c12
                    try clear c12b0
                    try clear c12b1
                    try clear c12b2
                    try clear c14
                    try clear c19
                    try clear c20
                    try clear c22
                    try clear c22b0
                    try clear c23
                    try clear c23b0
                    try clear c24
                    try clear c24b0
                    try clear c26
                    try clear c26b0
                    try clear c26b1
                    try clear c27
                    try clear c27b0
                    try clear c27b1
                    try clear p28
                    try clear q28
                    try clear hx28
                    try clear c29
                    try clear c29b0
                    try clear c30
                    try clear c30b0
                    try clear c31
                    try clear c31b0
                    try clear c31b1
                    try clear c32
                    try clear c32b0
                    try clear c32b1
                    try clear c34
                    try clear c34b0
                    try clear c34b1
                    try clear c35
                    try clear c35b0
                    try clear c35b1
                    try clear c36
                    try clear c37
                    try clear c37b0
                    try clear c38
                    try clear c38b0
                    try clear c38b1
                    try clear c39
                    try clear c39b0
                    try clear c39b1
                    try clear c41
                    try clear c41b0
                    try clear c41b1
                    try clear c42
                    try clear c42b0
                    try clear c42b1
                    try clear c43
                    try clear c43b0
                    try clear c43b1
                    try clear hx286_0
                    try clear p2
                    try clear p28
                    try clear p286
                    try clear p6
                    try clear q2
                    try clear q28
                    try clear q286
                    obtain ⟨x14_3, rfl, HA, HK3, HO_4, HB⟩ := hrel
                    cases gk with
                    | zero => exact absurd HA.out (by simp [laws_FnBorders.l2])
                    | succ k3 =>
                      have H := HA.out
                      clear HA
                      simp only [laws_FnBorders.l2] at H
                      by_cases c44 : x14_3 < (t274.size : Int)
                      · rw [if_pos c44] at H
                        have c44b0 : decide (x14_3 < (t274.size : Int)) = true := decide_eq_true c44
                        clear c44
                        by_cases c45 : 0 ≤ x14_3
                        · rw [if_pos c45] at H
                          have c45b0 : decide (0 ≤ x14_3) = true := decide_eq_true c45
                          clear c45
                          obtain ⟨ji47, hji47⟩ : ∃ j_ : Int, (wrap64 (x14_3 - t283)) = j_ := ⟨_, rfl⟩
                          replace H : (if 0 ≤ (ji47) then (if (ji47) < (t274.size : Int) then (if (bt t274 x14_3) = (bt t274 (ji47)) then (laws_FnBorders.l2 k3 t274 t275 t283 (wrap64 (x14_3 + 1))) else (some false)) else (none)) else (none)) = some r := by first | (rw [hji47] at H; exact H) | (simp only [hji47] at H ⊢; exact H)
                          have hji47w : (IntKind.i64.wrap (x14_3 - t283)) = ji47 := (i64_w _).trans hji47
                          by_cases c48 : 0 ≤ (ji47)
                          · rw [if_pos c48] at H
                            have c48b0 : decide (0 ≤ (ji47)) = true := decide_eq_true c48
                            clear c48
                            by_cases c49 : (ji47) < (t274.size : Int)
                            · rw [if_pos c49] at H
                              have c49b0 : decide ((ji47) < (t274.size : Int)) = true := decide_eq_true c49
                              clear c49
                              by_cases c51 : (bt t274 x14_3) = (bt t274 (ji47))
                              · rw [if_pos c51] at H
                                have c51b0 : ((bt t274 x14_3) == (bt t274 (ji47))) = true := beq_iff_eq.mpr c51
                                have c51b1 : ((bt t274 x14_3) != (bt t274 (ji47))) = false := bne_eq_false_iff_eq.mpr c51
                                clear c51
                                have H' := Aside0.mk H
                                clear H
                                have p46 : 0 ≤ (x14_3 : Int) := of_decide_eq_true (by first | (with_reducible assumption) | assumption)
                                have q46 : x14_3 < (t274.size : Int) := of_decide_eq_true (by first | (with_reducible assumption) | assumption)
                                have hx46 := bt_at t274 x14_3
                                replace p46 := eq_true p46
                                replace q46 := eq_true q46
                                have p50 : 0 ≤ ((ji47) : Int) := of_decide_eq_true (by first | (with_reducible assumption) | assumption)
                                have q50 : (ji47) < (t274.size : Int) := of_decide_eq_true (by first | (with_reducible assumption) | assumption)
                                have hx50 := bt_at t274 (ji47)
                                replace p50 := eq_true p50
                                replace q50 := eq_true q50
                                go_wp2
                                repeat (go_quiet (fail); try go_wp2)
                                go_roundg k3
                                case measure => have := HJ6.out; have := HK2.out; have := HK3.out; omega
                                case rel => exact ⟨(wrap64 (x14_3 + 1)), (by first | rfl | (simp; done) | (simp [*]; done)), (by first | exact H' | (simp only [hji47]; exact H') | (simp only [← hji47]; exact H')), ⟨by have := HJ6.out; have := HK2.out; have := HK3.out; omega⟩, ⟨by (with_reducible repeat (first | apply Kd.R_alloc | apply Kd.R_drewN | apply Kd.R_drew)); exact HO_4.out⟩, ⟨by repeat (first | (with_reducible first | exact HB.out | apply below_alloc | apply pw_below_drewN | apply below_drew1) | exact HB.out)⟩⟩
                              · rw [if_neg c51] at H
                                have c51b0 : ((bt t274 x14_3) == (bt t274 (ji47))) = false := beq_eq_false_iff_ne.mpr c51
                                have c51b1 : ((bt t274 x14_3) != (bt t274 (ji47))) = true := bne_iff_ne.mpr c51
                                obtain rfl := Option.some.inj H
                                have p46 : 0 ≤ (x14_3 : Int) := of_decide_eq_true (by first | (with_reducible assumption) | assumption)
                                have q46 : x14_3 < (t274.size : Int) := of_decide_eq_true (by first | (with_reducible assumption) | assumption)
                                have hx46 := bt_at t274 x14_3
                                replace p46 := eq_true p46
                                replace q46 := eq_true q46
                                have p50 : 0 ≤ ((ji47) : Int) := of_decide_eq_true (by first | (with_reducible assumption) | assumption)
                                have q50 : (ji47) < (t274.size : Int) := of_decide_eq_true (by first | (with_reducible assumption) | assumption)
                                have hx50 := bt_at t274 (ji47)
                                replace p50 := eq_true p50
                                replace q50 := eq_true q50
                                go_wp2
                                repeat (go_quiet (fail); try go_wp2)
                                go_ret
                                exact ⟨by first | rfl | (simp [errW_none, errW_some] <;> rfl) | (simp only [← hji47]; first | rfl | (simp [errW_none, errW_some] <;> rfl)) | (simp [*, errW_none, errW_some] <;> rfl), by repeat (first | (with_reducible first | exact HB.out | apply below_alloc | apply pw_below_drewN | apply below_drew1) | exact HB.out)⟩
                            · rw [if_neg c49] at H
                              exact absurd H (by simp)
                          · rw [if_neg c48] at H
                            exact absurd H (by simp)
                        · rw [if_neg c45] at H
                          exact absurd H (by simp)
                      · rw [if_neg c44] at H
                        have c44b0 : decide (x14_3 < (t274.size : Int)) = false := decide_eq_false c44
                        clear c44
                        by_cases c52 : t283 > 0
                        · rw [if_pos c52] at H
                          have c52b0 : decide (0 < t283) = true := decide_eq_true c52
                          clear c52
                          obtain ⟨ji53, hji53⟩ : ∃ j_ : Int, (wrap64 ((t274.size : Int) - 1)) = j_ := ⟨_, rfl⟩
                          replace H : (if 0 ≤ (ji53) then (if (ji53) < (t275.length : Int) then (some (t283 == (wrap64 ((t274.size : Int) - (rd t275 (ji53)))))) else (none)) else (none)) = some r := by first | (rw [hji53] at H; exact H) | (simp only [hji53] at H ⊢; exact H)
                          have hji53w : (IntKind.i64.wrap ((t274.size : Int) - 1)) = ji53 := (i64_w _).trans hji53
                          by_cases c54 : 0 ≤ (ji53)
                          · rw [if_pos c54] at H
                            have c54b0 : decide (0 ≤ (ji53)) = true := decide_eq_true c54
                            clear c54
                            by_cases c55 : (ji53) < (t275.length : Int)
                            · rw [if_pos c55] at H
                              have c55b0 : decide ((ji53) < (t275.length : Int)) = true := decide_eq_true c55
                              clear c55
                              obtain rfl := Option.some.inj H
                              have p287 : 0 ≤ ((ji53) : Int) := of_decide_eq_true (by first | (with_reducible assumption) | assumption)
                              have q287 : (ji53) < (t275.length : Int) := of_decide_eq_true (by first | (with_reducible assumption) | assumption)
                              obtain ⟨ad287, e287, hx287_0⟩ := Kd.at_int (Kd.R_reads' HO_4.out).2.2 (ji53) p287 q287
                              cases e287
                              replace p287 := eq_true p287
                              replace q287 := eq_true q287
                              go_wp2
                              repeat (go_quiet (fail); try go_wp2)
                              go_ret
                              exact ⟨by first | rfl | (simp [errW_none, errW_some] <;> rfl) | (simp only [← hji53]; first | rfl | (simp [errW_none, errW_some] <;> rfl)) | (simp [*, errW_none, errW_some] <;> rfl), by repeat (first | (with_reducible first | exact HB.out | apply below_alloc | apply pw_below_drewN | apply below_drew1) | exact HB.out)⟩
                            · rw [if_neg c55] at H
                              exact absurd H (by simp)
                          · rw [if_neg c54] at H
                            exact absurd H (by simp)
                        · rw [if_neg c52] at H
                          have c52b0 : decide (0 < t283) = false := decide_eq_false c52
                          clear c52
                          obtain rfl := Option.some.inj H
                          go_wp2
                          repeat (go_quiet (fail); try go_wp2)
                          go_ret
                          exact ⟨by first | rfl | (simp [errW_none, errW_some] <;> rfl) | (simp [*, errW_none, errW_some] <;> rfl), by repeat (first | (with_reducible first | exact HB.out | apply below_alloc | apply pw_below_drewN | apply below_drew1) | exact HB.out)⟩
          · replace c20 := Bool.eq_false_iff.mpr c20
            subst c20
            have H1 : (some ((t275.length : Int) == 0)) = some r := by rw [if_neg (show ¬ (false = true) by decide)] at H; exact H
            clear H
            have H := H1
            clear H1
            obtain rfl := Option.some.inj H
            obtain ⟨Ao56, co56, eo56⟩ := Kd.R_slice HO_4.out
            subst eo56
            go_wp2
            repeat (go_quiet (fail); try go_wp2)
            go_ret
            exact ⟨by first | rfl | (simp [errW_none, errW_some] <;> rfl) | (simp [*, errW_none, errW_some] <;> rfl), by repeat (first | (with_reducible first | exact HB.out | apply below_alloc | apply pw_below_drewN | apply below_drew1) | exact HB.out)⟩

/-- THE ONE PURE STATEMENT of laws_FnBorders: yours. -/
def laws_FnBorders.Pure : Prop := ∀ (l0 : List Int), l0.length ≤ maxLen → l0.length * 1 ≤ 140737488351232 → (∀ x ∈ l0, (Lit.int .u8 x).wf = true) → ∃ k, laws_FnBorders.f k l0 = some true
theorem laws_FnBorders.walk (P : laws_FnBorders.Pure) (a0 : Option Addr) (len0 cap0 : Nat) (z0 : List Int) (w : World) (w0 : (a0 = none ∧ len0 = 0 ∧ cap0 = 0 ∧ z0 = []) ∨ ∃ x, a0 = some x ∧ len0 ≤ cap0 ∧ cap0 ≤ maxLen ∧ z0.length = cap0 ∧ (∀ i, i < z0.length → w.cell? (x.add i) = some (.int .u8 (z0.getD i 0))) ∧ ∀ n ∈ z0, (Lit.int .u8 n).wf = true) (y0 : len0 * 1 ≤ 140737488351232) :
    Calls Try.prog 5 #[.slice a0 len0 cap0] w fun e w' => e = .returned (.bool true) ∧ Below w.heap.size w w' := by
  obtain ⟨l0, rfl, hr0, hm0, hw0, hc0⟩ := ReadsInt.ofRowC w0
  obtain ⟨k, h⟩ := P l0 hm0 y0 hw0
  refine (laws_FnBorders.calls k _ _ l0 true w (Kd.C_of_reads (d := (0 : Int)) (h1 := fun _ => rfl) hr0) hc0 h).mono ?_
  rintro e w' ⟨rfl, hd⟩
  exact ⟨rfl, hd⟩

end Go.Proofs.Ytibedlbjkaikiaa.AFnBorders
