-- this session's own text: written by wip/tools/ownprint.py over the kit's print
import Derived.Test.YtibedlbjkaikiaaAFnFoundx0
import Derived.Test.YtibedlbjkaikiaaAFnFoundx2
import Derived.Test.YtibedlbjkaikiaaAFnFoundx4
import Derived.Test.YtibedlbjkaikiaaAFnFoundx8
namespace Go.Proofs.Ytibedlbjkaikiaa.AFnFound
open Go.RowKit Go.Proofs.YtibedlbjkaikiaaW.PrintWords Go.Proofs.YtibedlbjkaikiaaW.PrintLast Go.Proofs.YtibedlbjkaikiaaW.PrintMore
attribute [local go_sem] max2_int min2_int max_two min_two max_three min_three max_four min_four   -- for this text's walks alone
set_option linter.unusedVariables false
set_option linter.unusedSimpArgs false

/-! ### laws_FnFound: function 6 -/
mutual
def laws_FnFound.j0 : Nat → ByteArray → ByteArray → List Int → Bool → Int → Bool → Option (Bool)
  | 0, _, _, _, _, _, _ => none
  | k + 1, x3, x4, x5, x6, x9, x66 => if x66 = true then (some false) else (if x6 = true then (laws_FnFound.l0 k x3 x4 x5 x9 0 0) else (some ((x5.length : Int) == 0)))
def laws_FnFound.l0 : Nat → ByteArray → ByteArray → List Int → Int → Int → Int → Option (Bool)
  | 0, _, _, _, _, _, _ => none
  | k + 1, x3, x4, x5, x9, x13, x14 => if (wrap64 (x14 + (x3.size : Int))) ≤ (x4.size : Int) then (if 0 ≤ x14 then (if x14 ≤ (wrap64 (x14 + (x3.size : Int))) then (if x13 < (x5.length : Int) then (if 0 ≤ x13 then (laws_FnFound.j2 k x3 x4 x5 x9 x13 x14 ((x4.extract (x14 : Int).toNat ((wrap64 (x14 + (x3.size : Int))) : Int).toNat).toList == x3.toList) (((x4.extract (x14 : Int).toNat ((wrap64 (x14 + (x3.size : Int))) : Int).toNat).toList == x3.toList) != ((rd x5 x13) == x14))) else (none)) else (laws_FnFound.j2 k x3 x4 x5 x9 x13 x14 ((x4.extract (x14 : Int).toNat ((wrap64 (x14 + (x3.size : Int))) : Int).toNat).toList == x3.toList) (((x4.extract (x14 : Int).toNat ((wrap64 (x14 + (x3.size : Int))) : Int).toNat).toList == x3.toList) != false))) else (none)) else (none)) else (if x13 = (x5.length : Int) then (some (decide (x9 ≤ (wrap64 (2 * (x4.size : Int)))))) else (some false))
def laws_FnFound.j2 : Nat → ByteArray → ByteArray → List Int → Int → Int → Int → Bool → Bool → Option (Bool)
  | 0, _, _, _, _, _, _, _, _ => none
  | k + 1, x3, x4, x5, x9, x13, x14, x15, x103 => if x103 = true then (some false) else (if x15 = true then (laws_FnFound.l0 k x3 x4 x5 x9 (wrap64 (x13 + 1)) (wrap64 (x14 + 1))) else (laws_FnFound.l0 k x3 x4 x5 x9 x13 (wrap64 (x14 + 1))))
end
def laws_FnFound.f (k : Nat) (l0 : List Int) : Option (Bool) := if (l0.length : Int) > 1048576 then (some true) else ((spec_DrawFindAll.f k l0).bind fun bt304 => ((impl_FindAll.f k bt304.1 bt304.2).bind fun bt306 => ((spec_FindAll.f k bt304.1 bt304.2).bind fun bt310 => ((impl_StepsOf.f k bt304.1 bt304.2).bind fun bt314 => ((spec_StepsOf.f k bt304.1 bt304.2).bind fun bt316 => (if (bt306.2 != bt310.2) = true then (laws_FnFound.j0 k bt304.1 bt304.2 bt306.1 bt306.2 bt314.1 true) else ((laws_sameInts.f k bt306.1 bt310.1).bind fun t318 => (if t318 = true then (if (bt314.2 != bt316.2) = true then (laws_FnFound.j0 k bt304.1 bt304.2 bt306.1 bt306.2 bt314.1 true) else (laws_FnFound.j0 k bt304.1 bt304.2 bt306.1 bt306.2 bt314.1 (bt314.1 != bt316.1))) else (laws_FnFound.j0 k bt304.1 bt304.2 bt306.1 bt306.2 bt314.1 true)))))))))
theorem laws_FnFound.mono_l : ∀ k, (∀ y0 y1 y2 y3 y4 y5, LeO (laws_FnFound.j0 k y0 y1 y2 y3 y4 y5) (laws_FnFound.j0 (k + 1) y0 y1 y2 y3 y4 y5)) ∧ (∀ y0 y1 y2 y3 y4 y5, LeO (laws_FnFound.l0 k y0 y1 y2 y3 y4 y5) (laws_FnFound.l0 (k + 1) y0 y1 y2 y3 y4 y5)) ∧ (∀ y0 y1 y2 y3 y4 y5 y6 y7, LeO (laws_FnFound.j2 k y0 y1 y2 y3 y4 y5 y6 y7) (laws_FnFound.j2 (k + 1) y0 y1 y2 y3 y4 y5 y6 y7))
  | 0 => ⟨fun _ _ _ _ _ _ r h => by simp [laws_FnFound.j0] at h, fun _ _ _ _ _ _ r h => by simp [laws_FnFound.l0] at h, fun _ _ _ _ _ _ _ _ r h => by simp [laws_FnFound.j2] at h⟩
  | k + 1 => by
    obtain ⟨ih0, ih1, ih2⟩ := laws_FnFound.mono_l k
    refine ⟨?_, ?_, ?_⟩
    · intro y0 y1 y2 y3 y4 y5
      unfold laws_FnFound.j0
      repeat' first
      | (with_reducible exact ih0 _ _ _ _ _ _)
      | (with_reducible exact ih1 _ _ _ _ _ _)
      | (with_reducible exact ih2 _ _ _ _ _ _ _ _)
      | (with_reducible exact impl_FindAll.mono _ _ _)
      | (with_reducible exact impl_StepsOf.mono _ _ _)
      | (with_reducible exact laws_sameInts.mono _ _ _)
      | (with_reducible exact spec_DrawFindAll.mono _ _)
      | (with_reducible exact spec_FindAll.mono _ _ _)
      | (with_reducible exact spec_StepsOf.mono _ _ _)
      | (with_reducible exact LeO.refl _)
      | (with_reducible exact LeO.none _)
      | (with_reducible refine LeO.ite ?_ ?_)
      | (with_reducible refine LeO.bind ?_ (fun _ => ?_))
      | exact ih0 _ _ _ _ _ _
      | exact ih1 _ _ _ _ _ _
      | exact ih2 _ _ _ _ _ _ _ _
      | exact impl_FindAll.mono _ _ _
      | exact impl_StepsOf.mono _ _ _
      | exact laws_sameInts.mono _ _ _
      | exact spec_DrawFindAll.mono _ _
      | exact spec_FindAll.mono _ _ _
      | exact spec_StepsOf.mono _ _ _
      | exact LeO.none _
      | refine LeO.ite ?_ ?_
      | refine LeO.bind ?_ (fun _ => ?_)
    · intro y0 y1 y2 y3 y4 y5
      unfold laws_FnFound.l0
      repeat' first
      | (with_reducible exact ih0 _ _ _ _ _ _)
      | (with_reducible exact ih1 _ _ _ _ _ _)
      | (with_reducible exact ih2 _ _ _ _ _ _ _ _)
      | (with_reducible exact impl_FindAll.mono _ _ _)
      | (with_reducible exact impl_StepsOf.mono _ _ _)
      | (with_reducible exact laws_sameInts.mono _ _ _)
      | (with_reducible exact spec_DrawFindAll.mono _ _)
      | (with_reducible exact spec_FindAll.mono _ _ _)
      | (with_reducible exact spec_StepsOf.mono _ _ _)
      | (with_reducible exact LeO.refl _)
      | (with_reducible exact LeO.none _)
      | (with_reducible refine LeO.ite ?_ ?_)
      | (with_reducible refine LeO.bind ?_ (fun _ => ?_))
      | exact ih0 _ _ _ _ _ _
      | exact ih1 _ _ _ _ _ _
      | exact ih2 _ _ _ _ _ _ _ _
      | exact impl_FindAll.mono _ _ _
      | exact impl_StepsOf.mono _ _ _
      | exact laws_sameInts.mono _ _ _
      | exact spec_DrawFindAll.mono _ _
      | exact spec_FindAll.mono _ _ _
      | exact spec_StepsOf.mono _ _ _
      | exact LeO.none _
      | refine LeO.ite ?_ ?_
      | refine LeO.bind ?_ (fun _ => ?_)
    · intro y0 y1 y2 y3 y4 y5 y6 y7
      unfold laws_FnFound.j2
      repeat' first
      | (with_reducible exact ih0 _ _ _ _ _ _)
      | (with_reducible exact ih1 _ _ _ _ _ _)
      | (with_reducible exact ih2 _ _ _ _ _ _ _ _)
      | (with_reducible exact impl_FindAll.mono _ _ _)
      | (with_reducible exact impl_StepsOf.mono _ _ _)
      | (with_reducible exact laws_sameInts.mono _ _ _)
      | (with_reducible exact spec_DrawFindAll.mono _ _)
      | (with_reducible exact spec_FindAll.mono _ _ _)
      | (with_reducible exact spec_StepsOf.mono _ _ _)
      | (with_reducible exact LeO.refl _)
      | (with_reducible exact LeO.none _)
      | (with_reducible refine LeO.ite ?_ ?_)
      | (with_reducible refine LeO.bind ?_ (fun _ => ?_))
      | exact ih0 _ _ _ _ _ _
      | exact ih1 _ _ _ _ _ _
      | exact ih2 _ _ _ _ _ _ _ _
      | exact impl_FindAll.mono _ _ _
      | exact impl_StepsOf.mono _ _ _
      | exact laws_sameInts.mono _ _ _
      | exact spec_DrawFindAll.mono _ _
      | exact spec_FindAll.mono _ _ _
      | exact spec_StepsOf.mono _ _ _
      | exact LeO.none _
      | refine LeO.ite ?_ ?_
      | refine LeO.bind ?_ (fun _ => ?_)
theorem laws_FnFound.mono : ∀ a0 k, LeO (laws_FnFound.f k a0) (laws_FnFound.f (k + 1) a0) := by
  intro a0 k
  obtain ⟨ih0, ih1, ih2⟩ := laws_FnFound.mono_l k
  unfold laws_FnFound.f
  repeat' first
      | (with_reducible exact ih0 _ _ _ _ _ _)
      | (with_reducible exact ih1 _ _ _ _ _ _)
      | (with_reducible exact ih2 _ _ _ _ _ _ _ _)
      | (with_reducible exact impl_FindAll.mono _ _ _)
      | (with_reducible exact impl_StepsOf.mono _ _ _)
      | (with_reducible exact laws_sameInts.mono _ _ _)
      | (with_reducible exact spec_DrawFindAll.mono _ _)
      | (with_reducible exact spec_FindAll.mono _ _ _)
      | (with_reducible exact spec_StepsOf.mono _ _ _)
      | (with_reducible exact LeO.refl _)
      | (with_reducible exact LeO.none _)
      | (with_reducible refine LeO.ite ?_ ?_)
      | (with_reducible refine LeO.bind ?_ (fun _ => ?_))
      | exact ih0 _ _ _ _ _ _
      | exact ih1 _ _ _ _ _ _
      | exact ih2 _ _ _ _ _ _ _ _
      | exact impl_FindAll.mono _ _ _
      | exact impl_StepsOf.mono _ _ _
      | exact laws_sameInts.mono _ _ _
      | exact spec_DrawFindAll.mono _ _
      | exact spec_FindAll.mono _ _ _
      | exact spec_StepsOf.mono _ _ _
      | exact LeO.none _
      | refine LeO.ite ?_ ?_
      | refine LeO.bind ?_ (fun _ => ?_)
set_option maxHeartbeats 8000000 in
set_option maxRecDepth 100000 in
theorem laws_FnFound.calls (k : Nat) (A0 : Option Addr) (c0 : Nat) (l0 : List Int) (r : Bool) (w : World) (hr0 : Kd.C (Kd.int .u8) w A0 l0.length l0) (hc0 : l0.length ≤ c0) (h : laws_FnFound.f k l0 = some r) :
    Calls Try.prog 6 #[.slice A0 l0.length c0] w fun e w' => e = .returned (.bool r) ∧ Below w.heap.size w w' := by
  have HR0 := Aside0.mk hr0
  have HC0 := Aside0.mk hc0
  clear hr0 hc0
  have HB := Aside0.mk (Below.refl w.heap.size w)
  have H : (if (l0.length : Int) > 1048576 then (some true) else ((spec_DrawFindAll.f k l0).bind fun bt304 => ((impl_FindAll.f k bt304.1 bt304.2).bind fun bt306 => ((spec_FindAll.f k bt304.1 bt304.2).bind fun bt310 => ((impl_StepsOf.f k bt304.1 bt304.2).bind fun bt314 => ((spec_StepsOf.f k bt304.1 bt304.2).bind fun bt316 => (if (bt306.2 != bt310.2) = true then (laws_FnFound.j0 k bt304.1 bt304.2 bt306.1 bt306.2 bt314.1 true) else ((laws_sameInts.f k bt306.1 bt310.1).bind fun t318 => (if t318 = true then (if (bt314.2 != bt316.2) = true then (laws_FnFound.j0 k bt304.1 bt304.2 bt306.1 bt306.2 bt314.1 true) else (laws_FnFound.j0 k bt304.1 bt304.2 bt306.1 bt306.2 bt314.1 (bt314.1 != bt316.1))) else (laws_FnFound.j0 k bt304.1 bt304.2 bt306.1 bt306.2 bt314.1 true)))))))))) = some r := h
  clear h
  by_cases c2 : (l0.length : Int) > 1048576
  · rw [if_pos c2] at H
    have c2b0 : decide (1048576 < (l0.length : Int)) = true := decide_eq_true c2
    have c2b1 : decide (1048576 < l0.length) = true := decide_eq_true (by omega)
    clear c2
    obtain rfl := Option.some.inj H
    go_enter Try.func6, Try.ntmps6
    go_wp2
    go_ret
    exact ⟨by first | rfl | (simp [errW_none, errW_some] <;> rfl) | (simp [*, errW_none, errW_some] <;> rfl), by repeat (first | (with_reducible first | exact HB.out | apply below_alloc | apply pw_below_drewN | apply below_drew1) | exact HB.out)⟩
  · rw [if_neg c2] at H
    have c2b0 : decide (1048576 < (l0.length : Int)) = false := decide_eq_false c2
    have c2b1 : decide (1048576 < l0.length) = false := decide_eq_false (by omega)
    clear c2
    replace H := Option.bind_eq_some_iff.mp H
    obtain ⟨⟨t304, t305⟩, A30, H⟩ := H
    replace H : ((impl_FindAll.f k t304 t305).bind fun bt306 => ((spec_FindAll.f k t304 t305).bind fun bt310 => ((impl_StepsOf.f k t304 t305).bind fun bt314 => ((spec_StepsOf.f k t304 t305).bind fun bt316 => (if (bt306.2 != bt310.2) = true then (laws_FnFound.j0 k t304 t305 bt306.1 bt306.2 bt314.1 true) else ((laws_sameInts.f k bt306.1 bt310.1).bind fun t318 => (if t318 = true then (if (bt314.2 != bt316.2) = true then (laws_FnFound.j0 k t304 t305 bt306.1 bt306.2 bt314.1 true) else (laws_FnFound.j0 k t304 t305 bt306.1 bt306.2 bt314.1 (bt314.1 != bt316.1))) else (laws_FnFound.j0 k t304 t305 bt306.1 bt306.2 bt314.1 true)))))))) = some r := H
    have A3 := Aside0.mk A30
    clear A30
    replace H := Option.bind_eq_some_iff.mp H
    obtain ⟨⟨t306, t307⟩, A40, H⟩ := H
    replace H : ((spec_FindAll.f k t304 t305).bind fun bt310 => ((impl_StepsOf.f k t304 t305).bind fun bt314 => ((spec_StepsOf.f k t304 t305).bind fun bt316 => (if (t307 != bt310.2) = true then (laws_FnFound.j0 k t304 t305 t306 t307 bt314.1 true) else ((laws_sameInts.f k t306 bt310.1).bind fun t318 => (if t318 = true then (if (bt314.2 != bt316.2) = true then (laws_FnFound.j0 k t304 t305 t306 t307 bt314.1 true) else (laws_FnFound.j0 k t304 t305 t306 t307 bt314.1 (bt314.1 != bt316.1))) else (laws_FnFound.j0 k t304 t305 t306 t307 bt314.1 true))))))) = some r := H
    have A4 := Aside0.mk A40
    clear A40
    replace H := Option.bind_eq_some_iff.mp H
    obtain ⟨⟨t310, t311⟩, A50, H⟩ := H
    replace H : ((impl_StepsOf.f k t304 t305).bind fun bt314 => ((spec_StepsOf.f k t304 t305).bind fun bt316 => (if (t307 != t311) = true then (laws_FnFound.j0 k t304 t305 t306 t307 bt314.1 true) else ((laws_sameInts.f k t306 t310).bind fun t318 => (if t318 = true then (if (bt314.2 != bt316.2) = true then (laws_FnFound.j0 k t304 t305 t306 t307 bt314.1 true) else (laws_FnFound.j0 k t304 t305 t306 t307 bt314.1 (bt314.1 != bt316.1))) else (laws_FnFound.j0 k t304 t305 t306 t307 bt314.1 true)))))) = some r := H
    have A5 := Aside0.mk A50
    clear A50
    replace H := Option.bind_eq_some_iff.mp H
    obtain ⟨⟨t314, t315⟩, A60, H⟩ := H
    replace H : ((spec_StepsOf.f k t304 t305).bind fun bt316 => (if (t307 != t311) = true then (laws_FnFound.j0 k t304 t305 t306 t307 t314 true) else ((laws_sameInts.f k t306 t310).bind fun t318 => (if t318 = true then (if (t315 != bt316.2) = true then (laws_FnFound.j0 k t304 t305 t306 t307 t314 true) else (laws_FnFound.j0 k t304 t305 t306 t307 t314 (t314 != bt316.1))) else (laws_FnFound.j0 k t304 t305 t306 t307 t314 true))))) = some r := H
    have A6 := Aside0.mk A60
    clear A60
    replace H := Option.bind_eq_some_iff.mp H
    obtain ⟨⟨t316, t317⟩, A70, H⟩ := H
    replace H : (if (t307 != t311) = true then (laws_FnFound.j0 k t304 t305 t306 t307 t314 true) else ((laws_sameInts.f k t306 t310).bind fun t318 => (if t318 = true then (if (t315 != t317) = true then (laws_FnFound.j0 k t304 t305 t306 t307 t314 true) else (laws_FnFound.j0 k t304 t305 t306 t307 t314 (t314 != t316))) else (laws_FnFound.j0 k t304 t305 t306 t307 t314 true)))) = some r := H
    have A7 := Aside0.mk A70
    clear A70
    have HC8 := Aside0.mk H
    clear H
    go_enter Try.func6, Try.ntmps6
    go_upto_region 8 with (first | ((with_reducible refine gate_callee (f := 23) rfl ?_); refine goesL_ (some 21) rfl rfl Try.func23 (by kernel_rfl) rfl #[.slice A0 l0.length c0] rfl (by (try simp only [List.map_toArray, List.map_cons, List.map_nil]); first | done | rfl | (simp only [List.length_drop, List.length_take]; rfl)) ?_; (with_reducible refine (spec_DrawFindAll.calls k _ _ l0 t304 t305 _ ?side1 ?side2 A3.out).mono ?_); (case side1 => repeat (first | exact HR0.out | (with_reducible refine Kd.C_alloc ?_ _) | (with_reducible refine Kd.C_drewN ?_ _) | (with_reducible refine Kd.C_drew ?_))); (case side2 => exact HC0.out); rintro e w9 ⟨rfl, hb⟩; refine ⟨_, rfl, ?_⟩; have n0_ := Aside0.mk (below_step (by repeat (first | (with_reducible first | exact HB.out | apply below_alloc | apply pw_below_drewN | apply below_drew1) | exact HB.out)) hb); clear HB; have HB := n0_; clear n0_; (try clear hb); (try clear hb2); (try clear hk); (try clear hi)) | ((with_reducible refine gate_callee (f := 14) rfl ?_); refine goesL_ (some 27) rfl rfl Try.func14 (by kernel_rfl) rfl #[.string t304, .string t305] rfl (by (try simp only [List.map_toArray, List.map_cons, List.map_nil]); first | done | rfl | (simp only [List.length_drop, List.length_take]; rfl)) ?_; (with_reducible refine (impl_FindAll.calls k t304 t305 t306 t307 _ A4.out).mono ?_); rintro e w10 ⟨v308, rfl, ho0, hb⟩; refine ⟨_, rfl, ?_⟩; have n0_ := Aside0.mk (Kd.R_lower ho0 (below_size (by repeat (first | (with_reducible first | exact HB.out | apply below_alloc | apply pw_below_drewN | apply below_drew1) | exact HB.out)))); have n1_ := Aside0.mk (below_step (by repeat (first | (with_reducible first | exact HB.out | apply below_alloc | apply pw_below_drewN | apply below_drew1) | exact HB.out)) hb); clear HB; have HO309 := n0_; have HB := n1_; clear n0_ n1_; (try clear hb); (try clear hb2); (try clear hk); (try clear hi); (try clear ho0)) | ((with_reducible refine gate_callee (f := 13) rfl ?_); refine goesL_ (some 33) rfl rfl Try.func13 (by kernel_rfl) rfl #[.string t304, .string t305] rfl (by (try simp only [List.map_toArray, List.map_cons, List.map_nil]); first | done | rfl | (simp only [List.length_drop, List.length_take]; rfl)) ?_; (with_reducible refine (spec_FindAll.calls k t304 t305 t310 t311 _ A5.out).mono ?_); rintro e w11 ⟨v312, rfl, ho0, hb⟩; refine ⟨_, rfl, ?_⟩; have n0_ := Aside0.mk (Kd.R_elder' (by (with_reducible repeat (first | apply Kd.R_alloc | apply Kd.R_drewN | apply Kd.R_drew)); exact HO309.out) (Kd.R_base ho0) hb); have n1_ := Aside0.mk (Kd.R_lower (Kd.R_new' ho0 (Kd.R_lt (by (with_reducible repeat (first | apply Kd.R_alloc | apply Kd.R_drewN | apply Kd.R_drew)); exact HO309.out))) (below_size (by repeat (first | (with_reducible first | exact HB.out | apply below_alloc | apply pw_below_drewN | apply below_drew1) | exact HB.out)))); have n2_ := Aside0.mk (below_step (by repeat (first | (with_reducible first | exact HB.out | apply below_alloc | apply pw_below_drewN | apply below_drew1) | exact HB.out)) hb); clear HO309; clear HB; have HO309 := n0_; have HO313 := n1_; have HB := n2_; clear n0_ n1_ n2_; (try clear hb); (try clear hb2); (try clear hk); (try clear hi); (try clear ho0)) | ((with_reducible refine gate_callee (f := 12) rfl ?_); refine goesL_ (some 39) rfl rfl Try.func12 (by kernel_rfl) rfl #[.string t304, .string t305] rfl (by (try simp only [List.map_toArray, List.map_cons, List.map_nil]); first | done | rfl | (simp only [List.length_drop, List.length_take]; rfl)) ?_; (with_reducible refine (impl_StepsOf.calls k t304 t305 t314 t315 _ A6.out).mono ?_); rintro e w12 ⟨rfl, hb⟩; refine ⟨_, rfl, ?_⟩; have n0_ := Aside0.mk (Kd.R_below (by (with_reducible repeat (first | apply Kd.R_alloc | apply Kd.R_drewN | apply Kd.R_drew)); exact HO309.out) hb); have n1_ := Aside0.mk (Kd.R_below (by (with_reducible repeat (first | apply Kd.R_alloc | apply Kd.R_drewN | apply Kd.R_drew)); exact HO313.out) hb); have n2_ := Aside0.mk (below_step (by repeat (first | (with_reducible first | exact HB.out | apply below_alloc | apply pw_below_drewN | apply below_drew1) | exact HB.out)) hb); clear HO309; clear HO313; clear HB; have HO309 := n0_; have HO313 := n1_; have HB := n2_; clear n0_ n1_ n2_; (try clear hb); (try clear hb2); (try clear hk); (try clear hi)) | ((with_reducible refine gate_callee (f := 11) rfl ?_); refine goesL_ (some 45) rfl rfl Try.func11 (by kernel_rfl) rfl #[.string t304, .string t305] rfl (by (try simp only [List.map_toArray, List.map_cons, List.map_nil]); first | done | rfl | (simp only [List.length_drop, List.length_take]; rfl)) ?_; (with_reducible refine (spec_StepsOf.calls k t304 t305 t316 t317 _ A7.out).mono ?_); rintro e w13 ⟨rfl, hb⟩; refine ⟨_, rfl, ?_⟩; have n0_ := Aside0.mk (Kd.R_below (by (with_reducible repeat (first | apply Kd.R_alloc | apply Kd.R_drewN | apply Kd.R_drew)); exact HO309.out) hb); have n1_ := Aside0.mk (Kd.R_below (by (with_reducible repeat (first | apply Kd.R_alloc | apply Kd.R_drewN | apply Kd.R_drew)); exact HO313.out) hb); have n2_ := Aside0.mk (below_step (by repeat (first | (with_reducible first | exact HB.out | apply below_alloc | apply pw_below_drewN | apply below_drew1) | exact HB.out)) hb); clear HO309; clear HO313; clear HB; have HO309 := n0_; have HO313 := n1_; have HB := n2_; clear n0_ n1_ n2_; (try clear hb); (try clear hb2); (try clear hk); (try clear hi)))
    (try simp only [Act.put, List.setIfInBounds_toArray, List.set_cons_zero, List.set_cons_succ])
    go_cut [66] (fun v66 wc => ∃ (kq : Nat) (x66_7 : Bool), v66 = .bool x66_7 ∧ Aside0 (laws_FnFound.j0 kq t304 t305 t306 t307 t314 x66_7 = some r) ∧ Aside0 (kq ≤ k) ∧ Aside0 (Kd.R (Kd.int .i64) 3 wc w.heap.size (fun _ => True) v308 t306) ∧ Aside0 (Below w.heap.size w wc))
    case first =>
      have H := HC8.out
      clear HC8
      by_cases c14 : (t307 != t311) = true
      · rw [if_pos c14] at H
        have c14b0 : (t307 != t311) = true := c14
        (try (have c14b1 : decide (t307 = t311) = false := by simpa using c14))
        (try (have c14b2 : (t307 == t311) = false := by simpa using c14))
        (try (have c14b3 : ¬ (t307 = t311) := by simpa using c14))
        clear c14
        (first | rw [c14b0] | (simp only [i64_w, i32_w]; rw [c14b0]) | skip)
        have H' := Aside0.mk H
        clear H
        go_wp2
        go_meet
        case rel => exact ⟨_, (true), (by first | rfl | (simp; done) | (simp [*]; done)), H', ⟨by first | omega | exact Nat.le_refl _⟩, ⟨by (with_reducible repeat (first | apply Kd.R_alloc | apply Kd.R_drewN | apply Kd.R_drew)); exact Kd.R_mono HO309.out (fun _ hk => trivial)⟩, ⟨by repeat (first | (with_reducible first | exact HB.out | apply below_alloc | apply pw_below_drewN | apply below_drew1) | exact HB.out)⟩⟩
      · rw [if_neg c14] at H
        have c14b0 : (t307 != t311) = false := by simpa using c14
        (try (have c14b1 : decide (t307 = t311) = true := by simpa using c14))
        (try (have c14b2 : (t307 == t311) = true := by simpa using c14))
        clear c14
        (first | rw [c14b0] | (simp only [i64_w, i32_w]; rw [c14b0]) | skip)
        replace H := Option.bind_eq_some_iff.mp H
        obtain ⟨t318, A150, H⟩ := H
        replace H : (if t318 = true then (if (t315 != t317) = true then (laws_FnFound.j0 k t304 t305 t306 t307 t314 true) else (laws_FnFound.j0 k t304 t305 t306 t307 t314 (t314 != t316))) else (laws_FnFound.j0 k t304 t305 t306 t307 t314 true)) = some r := H
        have A15 := Aside0.mk A150
        clear A150
        by_cases c16 : t318 = true
        · subst c16
          have H1 : (if (t315 != t317) = true then (laws_FnFound.j0 k t304 t305 t306 t307 t314 true) else (laws_FnFound.j0 k t304 t305 t306 t307 t314 (t314 != t316))) = some r := by rw [if_pos rfl] at H; exact H
          clear H
          have H := H1
          clear H1
          by_cases c17 : (t315 != t317) = true
          · rw [if_pos c17] at H
            have c17b0 : (t315 != t317) = true := c17
            (try (have c17b1 : decide (t315 = t317) = false := by simpa using c17))
            (try (have c17b2 : (t315 == t317) = false := by simpa using c17))
            (try (have c17b3 : ¬ (t315 = t317) := by simpa using c17))
            clear c17
            have H' := Aside0.mk H
            clear H
            obtain ⟨Ao18, co18, eo18⟩ := Kd.R_slice HO309.out
            subst eo18
            obtain ⟨Ao19, co19, eo19⟩ := Kd.R_slice HO313.out
            subst eo19
            go_wp2_with (first | (go_at_call 22; (with_reducible refine (laws_sameInts.calls k _ _ t306 _ _ t310 true _ ?side1 ?side2 ?side3 ?side4 A15.out).mono ?_); (case side1 => repeat (first | exact (Kd.R_reads' HO309.out).2.2 | (with_reducible refine Kd.C_alloc ?_ _) | (with_reducible refine Kd.C_drewN ?_ _) | (with_reducible refine Kd.C_drew ?_))); (case side2 => exact (Kd.R_reads' HO309.out).2.1); (case side3 => repeat (first | exact (Kd.R_reads' HO313.out).2.2 | (with_reducible refine Kd.C_alloc ?_ _) | (with_reducible refine Kd.C_drewN ?_ _) | (with_reducible refine Kd.C_drew ?_))); (case side4 => exact (Kd.R_reads' HO313.out).2.1); rintro e w' ⟨rfl, ⟨nd, rfl⟩⟩))
            go_meet
            case rel => exact ⟨_, (true), (by first | rfl | (simp; done) | (simp [*]; done)), H', ⟨by first | omega | exact Nat.le_refl _⟩, ⟨by (with_reducible repeat (first | apply Kd.R_alloc | apply Kd.R_drewN | apply Kd.R_drew)); exact Kd.R_mono HO309.out (fun _ hk => trivial)⟩, ⟨by repeat (first | (with_reducible first | exact HB.out | apply below_alloc | apply pw_below_drewN | apply below_drew1) | exact HB.out)⟩⟩
          · rw [if_neg c17] at H
            have c17b0 : (t315 != t317) = false := by simpa using c17
            (try (have c17b1 : decide (t315 = t317) = true := by simpa using c17))
            (try (have c17b2 : (t315 == t317) = true := by simpa using c17))
            clear c17
            have H' := Aside0.mk H
            clear H
            obtain ⟨Ao20, co20, eo20⟩ := Kd.R_slice HO309.out
            subst eo20
            obtain ⟨Ao21, co21, eo21⟩ := Kd.R_slice HO313.out
            subst eo21
            go_wp2_with (first | (go_at_call 22; (with_reducible refine (laws_sameInts.calls k _ _ t306 _ _ t310 true _ ?side1 ?side2 ?side3 ?side4 A15.out).mono ?_); (case side1 => repeat (first | exact (Kd.R_reads' HO309.out).2.2 | (with_reducible refine Kd.C_alloc ?_ _) | (with_reducible refine Kd.C_drewN ?_ _) | (with_reducible refine Kd.C_drew ?_))); (case side2 => exact (Kd.R_reads' HO309.out).2.1); (case side3 => repeat (first | exact (Kd.R_reads' HO313.out).2.2 | (with_reducible refine Kd.C_alloc ?_ _) | (with_reducible refine Kd.C_drewN ?_ _) | (with_reducible refine Kd.C_drew ?_))); (case side4 => exact (Kd.R_reads' HO313.out).2.1); rintro e w' ⟨rfl, ⟨nd, rfl⟩⟩))
            go_meet
            case rel => exact ⟨_, ((t314 != t316)), (by first | rfl | (simp; done) | (simp [*]; done)), H', ⟨by first | omega | exact Nat.le_refl _⟩, ⟨by (with_reducible repeat (first | apply Kd.R_alloc | apply Kd.R_drewN | apply Kd.R_drew)); exact Kd.R_mono HO309.out (fun _ hk => trivial)⟩, ⟨by repeat (first | (with_reducible first | exact HB.out | apply below_alloc | apply pw_below_drewN | apply below_drew1) | exact HB.out)⟩⟩
        · replace c16 := Bool.eq_false_iff.mpr c16
          subst c16
          have H1 : (laws_FnFound.j0 k t304 t305 t306 t307 t314 true) = some r := by rw [if_neg (show ¬ (false = true) by decide)] at H; exact H
          clear H
          have H := H1
          clear H1
          have H' := Aside0.mk H
          clear H
          obtain ⟨Ao22, co22, eo22⟩ := Kd.R_slice HO309.out
          subst eo22
          obtain ⟨Ao23, co23, eo23⟩ := Kd.R_slice HO313.out
          subst eo23
          go_wp2_with (first | (go_at_call 22; (with_reducible refine (laws_sameInts.calls k _ _ t306 _ _ t310 false _ ?side1 ?side2 ?side3 ?side4 A15.out).mono ?_); (case side1 => repeat (first | exact (Kd.R_reads' HO309.out).2.2 | (with_reducible refine Kd.C_alloc ?_ _) | (with_reducible refine Kd.C_drewN ?_ _) | (with_reducible refine Kd.C_drew ?_))); (case side2 => exact (Kd.R_reads' HO309.out).2.1); (case side3 => repeat (first | exact (Kd.R_reads' HO313.out).2.2 | (with_reducible refine Kd.C_alloc ?_ _) | (with_reducible refine Kd.C_drewN ?_ _) | (with_reducible refine Kd.C_drew ?_))); (case side4 => exact (Kd.R_reads' HO313.out).2.1); rintro e w' ⟨rfl, ⟨nd, rfl⟩⟩))
          go_meet
          case rel => exact ⟨_, (true), (by first | rfl | (simp; done) | (simp [*]; done)), H', ⟨by first | omega | exact Nat.le_refl _⟩, ⟨by (with_reducible repeat (first | apply Kd.R_alloc | apply Kd.R_drewN | apply Kd.R_drew)); exact Kd.R_mono HO309.out (fun _ hk => trivial)⟩, ⟨by repeat (first | (with_reducible first | exact HB.out | apply below_alloc | apply pw_below_drewN | apply below_drew1) | exact HB.out)⟩⟩
    case rest =>
      clear HC8
      try clear c1
      try clear c2
      try clear c2b0
      try clear c2b1
      try clear p2
      try clear c6
      try clear c11
      try clear c12
      try clear c13
      try clear c14
      try clear c14b0
      try clear c14b1
      try clear c14b2
      try clear c16
      try clear c17
      try clear c17b0
      try clear c17b1
      try clear c17b2
      try clear c23
      obtain ⟨kq, x66_7, rfl, HA, HJ7, HO_5, HB⟩ := hcut
      cases kq with
      | zero => exact absurd HA.out (by simp [laws_FnFound.j0])
      | succ kj7 =>
        have H := HA.out
        clear HA
        simp only [laws_FnFound.j0] at H
        by_cases c24 : x66_7 = true
        · subst c24
          have H1 : (some false) = some r := by rw [if_pos rfl] at H; exact H
          clear H
          have H := H1
          clear H1
          obtain rfl := Option.some.inj H
          go_wp2
          go_ret
          exact ⟨by first | rfl | (simp [errW_none, errW_some] <;> rfl) | (simp [*, errW_none, errW_some] <;> rfl), by repeat (first | (with_reducible first | exact HB.out | apply below_alloc | apply pw_below_drewN | apply below_drew1) | exact HB.out)⟩
        · replace c24 := Bool.eq_false_iff.mpr c24
          subst c24
          have H1 : (if t307 = true then (laws_FnFound.l0 kj7 t304 t305 t306 t314 0 0) else (some ((t306.length : Int) == 0))) = some r := by rw [if_neg (show ¬ (false = true) by decide)] at H; exact H
          clear H
          have H := H1
          clear H1
          by_cases c25 : t307 = true
          · subst c25
            have H1 : (laws_FnFound.l0 kj7 t304 t305 t306 t314 0 0) = some r := by rw [if_pos rfl] at H; exact H
            clear H
            have H := H1
            clear H1
            have H' := Aside0.mk H
            clear H
            go_wp2
            go_loopg [13, 14] kj7 (fun kq v13 v14 w' => ∃ (x13_2 : Int) (x14_2 : Int), v13 = .int .i64 x13_2 ∧ v14 = .int .i64 x14_2 ∧ Aside0 (laws_FnFound.l0 kq t304 t305 t306 t314 x13_2 x14_2 = some r) ∧ Aside0 (kq ≤ kj7) ∧ Aside0 (Kd.R (Kd.int .i64) 3 w' w.heap.size (fun _ => True) v308 t306) ∧ Aside0 (Below w.heap.size w w'))
            case atStart => exact ⟨(0), (0), (by first | rfl | (simp; done) | (simp [*]; done)), (by first | rfl | (simp; done) | (simp [*]; done)), H', ⟨Nat.le_refl _⟩, ⟨by (with_reducible repeat (first | apply Kd.R_alloc | apply Kd.R_drewN | apply Kd.R_drew)); exact HO_5.out⟩, ⟨by repeat (first | (with_reducible first | exact HB.out | apply below_alloc | apply pw_below_drewN | apply below_drew1) | exact HB.out)⟩⟩
            case round =>
              clear H'
              try clear c1
              try clear c2
              try clear c2b0
              try clear c2b1
              try clear p2
              try clear c6
              try clear c11
              try clear c12
              try clear c13
              try clear c14
              try clear c14b0
              try clear c14b1
              try clear c14b2
              try clear c16
              try clear c17
              try clear c17b0
              try clear c17b1
              try clear c17b2
              try clear c23
              try clear c24
              try clear c25
              try clear p2
              obtain ⟨x13_2, x14_2, rfl, rfl, HA, HK2, HO_5, HB⟩ := hrel
              cases gk with
              | zero => exact absurd HA.out (by simp [laws_FnFound.l0])
              | succ k2 =>
                have H := HA.out
                clear HA
                simp only [laws_FnFound.l0] at H
                by_cases c26 : (wrap64 (x14_2 + (t304.size : Int))) ≤ (t305.size : Int)
                · rw [if_pos c26] at H
                  have c26b0 : decide ((wrap64 (x14_2 + (t304.size : Int))) ≤ (t305.size : Int)) = true := decide_eq_true c26
                  clear c26
                  by_cases c27 : 0 ≤ x14_2
                  · rw [if_pos c27] at H
                    have c27b0 := eq_true c27
                    have c27b1 : decide (0 ≤ x14_2) = true := decide_eq_true c27
                    clear c27
                    by_cases c28 : x14_2 ≤ (wrap64 (x14_2 + (t304.size : Int)))
                    · rw [if_pos c28] at H
                      have c28b0 := eq_true c28
                      have c28b1 : decide (x14_2 ≤ (wrap64 (x14_2 + (t304.size : Int)))) = true := decide_eq_true c28
                      have c29b0 := eq_true (of_decide_eq_true (by first | (with_reducible assumption) | assumption) : (wrap64 (x14_2 + (t304.size : Int))) ≤ (t305.size : Int))
                      have HC30 := Aside0.mk H
                      clear H
                      go_upto_region 17 with (fail)
                      go_cut [103] (fun v103 wc => ∃ (kq : Nat) (x103_29 : Bool), v103 = .bool x103_29 ∧ Aside0 (laws_FnFound.j2 kq t304 t305 t306 t314 x13_2 x14_2 ((t305.extract (x14_2 : Int).toNat ((wrap64 (x14_2 + (t304.size : Int))) : Int).toNat).toList == t304.toList) x103_29 = some r) ∧ Aside0 (kq ≤ k2) ∧ Aside0 (Kd.R (Kd.int .i64) 3 wc w.heap.size (fun _ => True) v308 t306) ∧ Aside0 (Below w.heap.size w wc))
                      case first =>
                        have H := HC30.out
                        clear HC30
                        by_cases c31 : x13_2 < (t306.length : Int)
                        · rw [if_pos c31] at H
                          have c31b0 : decide (x13_2 < (t306.length : Int)) = true := decide_eq_true c31
                          clear c31
                          (first | rw [c31b0] | (simp only [i64_w, i32_w]; rw [c31b0]) | skip)
                          by_cases c32 : 0 ≤ x13_2
                          · rw [if_pos c32] at H
                            have c32b0 : decide (0 ≤ x13_2) = true := decide_eq_true c32
                            clear c32
                            have H' := Aside0.mk H
                            clear H
                            obtain ⟨Ao33, co33, eo33⟩ := Kd.R_slice HO_5.out
                            subst eo33
                            have p319 : 0 ≤ (x13_2 : Int) := of_decide_eq_true (by first | (with_reducible assumption) | assumption)
                            have q319 : x13_2 < (t306.length : Int) := of_decide_eq_true (by first | (with_reducible assumption) | assumption)
                            obtain ⟨ad319, e319, hx319_0⟩ := Kd.at_int (Kd.R_reads' HO_5.out).2.2 x13_2 p319 q319
                            cases e319
                            replace p319 := eq_true p319
                            replace q319 := eq_true q319
                            go_wp2
                            go_meet
                            case rel => exact ⟨_, ((((t305.extract (x14_2 : Int).toNat ((wrap64 (x14_2 + (t304.size : Int))) : Int).toNat).toList == t304.toList) != ((rd t306 x13_2) == x14_2))), (by first | rfl | (simp; done) | (simp [*]; done)), H', ⟨by have := HJ7.out; have := HK2.out; first | omega | exact Nat.le_refl _⟩, ⟨by (with_reducible repeat (first | apply Kd.R_alloc | apply Kd.R_drewN | apply Kd.R_drew)); exact HO_5.out⟩, ⟨by repeat (first | (with_reducible first | exact HB.out | apply below_alloc | apply pw_below_drewN | apply below_drew1) | exact HB.out)⟩⟩
                          · rw [if_neg c32] at H
                            exact absurd H (by simp)
                        · rw [if_neg c31] at H
                          have c31b0 : decide (x13_2 < (t306.length : Int)) = false := decide_eq_false c31
                          clear c31
                          (first | rw [c31b0] | (simp only [i64_w, i32_w]; rw [c31b0]) | skip)
                          have H' := Aside0.mk H
                          clear H
                          obtain ⟨Ao34, co34, eo34⟩ := Kd.R_slice HO_5.out
                          subst eo34
                          go_wp2
                          go_meet
                          case rel => exact ⟨_, ((((t305.extract (x14_2 : Int).toNat ((wrap64 (x14_2 + (t304.size : Int))) : Int).toNat).toList == t304.toList) != false)), (by first | rfl | (simp; done) | (simp [*]; done)), H', ⟨by have := HJ7.out; have := HK2.out; first | omega | exact Nat.le_refl _⟩, ⟨by (with_reducible repeat (first | apply Kd.R_alloc | apply Kd.R_drewN | apply Kd.R_drew)); exact HO_5.out⟩, ⟨by repeat (first | (with_reducible first | exact HB.out | apply below_alloc | apply pw_below_drewN | apply below_drew1) | exact HB.out)⟩⟩
                      case rest =>
                        clear HC30
                        try clear c1
                        try clear c2
                        try clear c2b0
                        try clear c2b1
                        try clear p2
                        try clear c3
                        try clear p3
                        try clear q3
                        try clear hx3
                        try clear c6
                        try clear p6
                        try clear c11
                        try clear c12
                        try clear c13
                        try clear c14
                        try clear c14b0
                        try clear c14b1
                        try clear c14b2
                        try clear c16
                        try clear c17
                        try clear c17b0
                        try clear c17b1
                        try clear c17b2
                        try clear c23
                        try clear c24
                        try clear c25
                        try clear c26
                        try clear c26b0
                        try clear c27
                        try clear c27b0
                        try clear c27b1
                        try clear c28
                        try clear c28b0
                        try clear c28b1
                        try clear c29
                        try clear c29b0
                        try clear c31
                        try clear c31b0
                        try clear p31
                        try clear q31
                        try clear hx31
                        try clear c32
                        try clear c32b0
                        try clear hx319_0
                        try clear p2
                        try clear p319
                        try clear q319
                        obtain ⟨kq, x103_29, rfl, HA, HJ29, HO_5, HB⟩ := hcut
                        cases kq with
                        | zero => exact absurd HA.out (by simp [laws_FnFound.j2])
                        | succ kj29 =>
                          have H := HA.out
                          clear HA
                          simp only [laws_FnFound.j2] at H
                          by_cases c35 : x103_29 = true
                          · subst c35
                            have H1 : (some false) = some r := by rw [if_pos rfl] at H; exact H
                            clear H
                            have H := H1
                            clear H1
                            obtain rfl := Option.some.inj H
                            go_wp2
                            go_ret
                            exact ⟨by first | rfl | (simp [errW_none, errW_some] <;> rfl) | (simp [*, errW_none, errW_some] <;> rfl), by repeat (first | (with_reducible first | exact HB.out | apply below_alloc | apply pw_below_drewN | apply below_drew1) | exact HB.out)⟩
                          · replace c35 := Bool.eq_false_iff.mpr c35
                            subst c35
                            have H1 : (if ((t305.extract (x14_2 : Int).toNat ((wrap64 (x14_2 + (t304.size : Int))) : Int).toNat).toList == t304.toList) = true then (laws_FnFound.l0 kj29 t304 t305 t306 t314 (wrap64 (x13_2 + 1)) (wrap64 (x14_2 + 1))) else (laws_FnFound.l0 kj29 t304 t305 t306 t314 x13_2 (wrap64 (x14_2 + 1)))) = some r := by rw [if_neg (show ¬ (false = true) by decide)] at H; exact H
                            clear H
                            have H := H1
                            clear H1
                            by_cases c36 : ((t305.extract (x14_2 : Int).toNat ((wrap64 (x14_2 + (t304.size : Int))) : Int).toNat).toList == t304.toList) = true
                            · rw [if_pos c36] at H
                              have c36b0 : ((t305.extract (x14_2 : Int).toNat ((wrap64 (x14_2 + (t304.size : Int))) : Int).toNat).toList == t304.toList) = true := c36
                              (try (have c36b1 : decide ((t305.extract (x14_2 : Int).toNat ((wrap64 (x14_2 + (t304.size : Int))) : Int).toNat).toList = t304.toList) = true := by simpa using c36))
                              (try (have c36b2 : ((t305.extract (x14_2 : Int).toNat ((wrap64 (x14_2 + (t304.size : Int))) : Int).toNat).toList == t304.toList) = true := by simpa using c36))
                              clear c36
                              have H' := Aside0.mk H
                              clear H
                              go_wp2
                              all_goals (try (exfalso; rename_i h_; rw [c36b0] at h_; cases h_; done))
                              go_roundg kj29
                              case measure => have := HJ7.out; have := HK2.out; have := HJ29.out; omega
                              case rel => exact ⟨(wrap64 (x13_2 + 1)), (wrap64 (x14_2 + 1)), (by first | rfl | (simp; done) | (simp [*]; done)), (by first | rfl | (simp; done) | (simp [*]; done)), H', ⟨by have := HJ7.out; have := HK2.out; have := HJ29.out; omega⟩, ⟨by (with_reducible repeat (first | apply Kd.R_alloc | apply Kd.R_drewN | apply Kd.R_drew)); exact HO_5.out⟩, ⟨by repeat (first | (with_reducible first | exact HB.out | apply below_alloc | apply pw_below_drewN | apply below_drew1) | exact HB.out)⟩⟩
                            · rw [if_neg c36] at H
                              have c36b0 : ((t305.extract (x14_2 : Int).toNat ((wrap64 (x14_2 + (t304.size : Int))) : Int).toNat).toList == t304.toList) = false := by simpa using c36
                              (try (have c36b1 : decide ((t305.extract (x14_2 : Int).toNat ((wrap64 (x14_2 + (t304.size : Int))) : Int).toNat).toList = t304.toList) = false := by simpa using c36))
                              (try (have c36b2 : ((t305.extract (x14_2 : Int).toNat ((wrap64 (x14_2 + (t304.size : Int))) : Int).toNat).toList == t304.toList) = false := by simpa using c36))
                              (try (have c36b3 : ¬ ((t305.extract (x14_2 : Int).toNat ((wrap64 (x14_2 + (t304.size : Int))) : Int).toNat).toList = t304.toList) := by simpa using c36))
                              clear c36
                              have H' := Aside0.mk H
                              clear H
                              go_wp2
                              all_goals (try (exfalso; rename_i h_; rw [c36b0] at h_; cases h_; done))
                              go_roundg kj29
                              case measure => have := HJ7.out; have := HK2.out; have := HJ29.out; omega
                              case rel => exact ⟨(x13_2), (wrap64 (x14_2 + 1)), (by first | rfl | (simp; done) | (simp [*]; done)), (by first | rfl | (simp; done) | (simp [*]; done)), H', ⟨by have := HJ7.out; have := HK2.out; have := HJ29.out; omega⟩, ⟨by (with_reducible repeat (first | apply Kd.R_alloc | apply Kd.R_drewN | apply Kd.R_drew)); exact HO_5.out⟩, ⟨by repeat (first | (with_reducible first | exact HB.out | apply below_alloc | apply pw_below_drewN | apply below_drew1) | exact HB.out)⟩⟩
                    · rw [if_neg c28] at H
                      exact absurd H (by simp)
                  · rw [if_neg c27] at H
                    exact absurd H (by simp)
                · rw [if_neg c26] at H
                  have c26b0 : decide ((wrap64 (x14_2 + (t304.size : Int))) ≤ (t305.size : Int)) = false := decide_eq_false c26
                  clear c26
                  by_cases c37 : x13_2 = (t306.length : Int)
                  · rw [if_pos c37] at H
                    have c37b0 : (x13_2 == (t306.length : Int)) = true := beq_iff_eq.mpr c37
                    have c37b1 : (x13_2 != (t306.length : Int)) = false := bne_eq_false_iff_eq.mpr c37
                    clear c37
                    obtain rfl := Option.some.inj H
                    obtain ⟨Ao38, co38, eo38⟩ := Kd.R_slice HO_5.out
                    subst eo38
                    go_wp2
                    go_ret
                    exact ⟨by first | rfl | (simp [errW_none, errW_some] <;> rfl) | (simp [*, errW_none, errW_some] <;> rfl), by repeat (first | (with_reducible first | exact HB.out | apply below_alloc | apply pw_below_drewN | apply below_drew1) | exact HB.out)⟩
                  · rw [if_neg c37] at H
                    have c37b0 : (x13_2 == (t306.length : Int)) = false := beq_eq_false_iff_ne.mpr c37
                    have c37b1 : (x13_2 != (t306.length : Int)) = true := bne_iff_ne.mpr c37
                    obtain rfl := Option.some.inj H
                    obtain ⟨Ao39, co39, eo39⟩ := Kd.R_slice HO_5.out
                    subst eo39
                    go_wp2
                    go_ret
                    exact ⟨by first | rfl | (simp [errW_none, errW_some] <;> rfl) | (simp [*, errW_none, errW_some] <;> rfl), by repeat (first | (with_reducible first | exact HB.out | apply below_alloc | apply pw_below_drewN | apply below_drew1) | exact HB.out)⟩
          · replace c25 := Bool.eq_false_iff.mpr c25
            subst c25
            have H1 : (some ((t306.length : Int) == 0)) = some r := by rw [if_neg (show ¬ (false = true) by decide)] at H; exact H
            clear H
            have H := H1
            clear H1
            obtain rfl := Option.some.inj H
            obtain ⟨Ao40, co40, eo40⟩ := Kd.R_slice HO_5.out
            subst eo40
            go_wp2
            go_ret
            exact ⟨by first | rfl | (simp [errW_none, errW_some] <;> rfl) | (simp [*, errW_none, errW_some] <;> rfl), by repeat (first | (with_reducible first | exact HB.out | apply below_alloc | apply pw_below_drewN | apply below_drew1) | exact HB.out)⟩

/-- THE ONE PURE STATEMENT of laws_FnFound: yours. -/
def laws_FnFound.Pure : Prop := ∀ (l0 : List Int), l0.length ≤ maxLen → l0.length * 1 ≤ 140737488351232 → (∀ x ∈ l0, (Lit.int .u8 x).wf = true) → ∃ k, laws_FnFound.f k l0 = some true
theorem laws_FnFound.walk (P : laws_FnFound.Pure) (a0 : Option Addr) (len0 cap0 : Nat) (z0 : List Int) (w : World) (w0 : (a0 = none ∧ len0 = 0 ∧ cap0 = 0 ∧ z0 = []) ∨ ∃ x, a0 = some x ∧ len0 ≤ cap0 ∧ cap0 ≤ maxLen ∧ z0.length = cap0 ∧ (∀ i, i < z0.length → w.cell? (x.add i) = some (.int .u8 (z0.getD i 0))) ∧ ∀ n ∈ z0, (Lit.int .u8 n).wf = true) (y0 : len0 * 1 ≤ 140737488351232) :
    Calls Try.prog 6 #[.slice a0 len0 cap0] w fun e w' => e = .returned (.bool true) ∧ Below w.heap.size w w' := by
  obtain ⟨l0, rfl, hr0, hm0, hw0, hc0⟩ := ReadsInt.ofRowC w0
  obtain ⟨k, h⟩ := P l0 hm0 y0 hw0
  refine (laws_FnFound.calls k _ _ l0 true w (Kd.C_of_reads (d := (0 : Int)) (h1 := fun _ => rfl) hr0) hc0 h).mono ?_
  rintro e w' ⟨rfl, hd⟩
  exact ⟨rfl, hd⟩

end Go.Proofs.Ytibedlbjkaikiaa.AFnFound
