-- this session's own text: written by wip/tools/ownprint.py over the kit's print
import Derived.Test.YtpbelbckinpinaaAFnReplacedx0
import Derived.Test.YtpbelbckinpinaaAFnReplacedx7
import Derived.Test.YtpbelbckinpinaaAFnReplacedx8
namespace Go.Proofs.Ytpbelbckinpinaa.AFnReplaced
open Go.RowKit Go.Proofs.YtpbelbckinpinaaW.PrintWords Go.Proofs.YtpbelbckinpinaaW.PrintLast Go.Proofs.YtpbelbckinpinaaW.PrintMore
attribute [local go_sem] max2_int min2_int max_two min_two max_three min_three max_four min_four   -- for this text's walks alone
set_option linter.unusedVariables false
set_option linter.unusedSimpArgs false

/-! ### impl_search: function 107 -/
mutual
def impl_search.l0 : Nat → ByteArray → ByteArray → List Int → List Int → Int → Int → Int → Int → Option (List Int × Int)
 | 0, _, _, _, _, _, _, _, _ => none
 | k + 1, x0, x1, x6, x7, x8, x9, x14, x15 => if x15 < x14 then (impl_search.l1 k x0 x1 x6 x7 x8 x9 x15 x14 x15) else (some (x7, x9))
def impl_search.j2 : Nat → ByteArray → ByteArray → List Int → List Int → Int → Int → Int → Int → Int → Option (List Int × Int)
 | 0, _, _, _, _, _, _, _, _, _ => none
 | k + 1, x0, x1, x6, x7, x8, x9, x10, x14, x15 => if 0 ≤ x10 then (if x10 < (x1.size : Int) then (if 0 ≤ x8 then (if x8 < (x0.size : Int) then (if (bt x1 x10) = (bt x0 x8) then (if (wrap64 (x8 + 1)) = (x0.size : Int) then (if x7.length < 17592186044416 then (if 0 ≤ (wrap64 ((wrap64 (x8 + 1)) - 1)) then (if (wrap64 ((wrap64 (x8 + 1)) - 1)) < (x6.length : Int) then (impl_search.l0 k x0 x1 x6 (x7 ++ [wrap64 ((wrap64 (x10 + 1)) - (wrap64 (x8 + 1)))]) (rd x6 (wrap64 ((wrap64 (x8 + 1)) - 1))) (wrap64 (x9 + 1)) x14 (wrap64 (x15 + 1))) else (none)) else (none)) else (none)) else (impl_search.l0 k x0 x1 x6 x7 (wrap64 (x8 + 1)) (wrap64 (x9 + 1)) x14 (wrap64 (x15 + 1)))) else (if x8 = (x0.size : Int) then (if x7.length < 17592186044416 then (if 0 ≤ (wrap64 (x8 - 1)) then (if (wrap64 (x8 - 1)) < (x6.length : Int) then (impl_search.l0 k x0 x1 x6 (x7 ++ [wrap64 ((wrap64 (x10 + 1)) - x8)]) (rd x6 (wrap64 (x8 - 1))) (wrap64 (x9 + 1)) x14 (wrap64 (x15 + 1))) else (none)) else (none)) else (none)) else (impl_search.l0 k x0 x1 x6 x7 x8 (wrap64 (x9 + 1)) x14 (wrap64 (x15 + 1))))) else (none)) else (none)) else (none)) else (none)
def impl_search.l1 : Nat → ByteArray → ByteArray → List Int → List Int → Int → Int → Int → Int → Int → Option (List Int × Int)
 | 0, _, _, _, _, _, _, _, _, _ => none
 | k + 1, x0, x1, x6, x7, x8, x9, x10, x14, x15 => if x8 > 0 then (if 0 ≤ x10 then (if x10 < (x1.size : Int) then (if 0 ≤ x8 then (if x8 < (x0.size : Int) then (if (bt x1 x10) = (bt x0 x8) then (impl_search.j2 k x0 x1 x6 x7 x8 x9 x10 x14 x15) else (if 0 ≤ (wrap64 (x8 - 1)) then (if (wrap64 (x8 - 1)) < (x6.length : Int) then (impl_search.l1 k x0 x1 x6 x7 (rd x6 (wrap64 (x8 - 1))) (wrap64 (x9 + 1)) x10 x14 x15) else (none)) else (none))) else (none)) else (none)) else (none)) else (none)) else (impl_search.j2 k x0 x1 x6 x7 x8 x9 x10 x14 x15)
end
def impl_search.f (k : Nat) (a0 : ByteArray) (a1 : ByteArray) : Option (List Int × Int) := (impl_borders.f k a0).bind fun t238 => (impl_search.l0 k a0 a1 t238 ([] : List Int) 0 0 (a1.size : Int) 0)
theorem impl_search.mono_l : ∀ k, (∀ y0 y1 y2 y3 y4 y5 y6 y7, LeO (impl_search.l0 k y0 y1 y2 y3 y4 y5 y6 y7) (impl_search.l0 (k + 1) y0 y1 y2 y3 y4 y5 y6 y7)) ∧ (∀ y0 y1 y2 y3 y4 y5 y6 y7 y8, LeO (impl_search.j2 k y0 y1 y2 y3 y4 y5 y6 y7 y8) (impl_search.j2 (k + 1) y0 y1 y2 y3 y4 y5 y6 y7 y8)) ∧ (∀ y0 y1 y2 y3 y4 y5 y6 y7 y8, LeO (impl_search.l1 k y0 y1 y2 y3 y4 y5 y6 y7 y8) (impl_search.l1 (k + 1) y0 y1 y2 y3 y4 y5 y6 y7 y8))
 | 0 => ⟨fun _ _ _ _ _ _ _ _ r h => by simp [impl_search.l0] at h, fun _ _ _ _ _ _ _ _ _ r h => by simp [impl_search.j2] at h, fun _ _ _ _ _ _ _ _ _ r h => by simp [impl_search.l1] at h⟩
 | k + 1 => by
  obtain ⟨ih0, ih1, ih2⟩ := impl_search.mono_l k
  refine ⟨?_, ?_, ?_⟩
  ·intro y0 y1 y2 y3 y4 y5 y6 y7
   unfold impl_search.l0
   repeat' first
   | (with_reducible exact ih0 _ _ _ _ _ _ _ _)
   | (with_reducible exact ih1 _ _ _ _ _ _ _ _ _)
   | (with_reducible exact ih2 _ _ _ _ _ _ _ _ _)
   | (with_reducible exact impl_borders.mono _ _)
   | (with_reducible exact LeO.refl _)
   | (with_reducible exact LeO.none _)
   | (with_reducible refine LeO.ite ?_ ?_)
   | (with_reducible refine LeO.bind ?_ (fun _ => ?_))
   | exact ih0 _ _ _ _ _ _ _ _
   | exact ih1 _ _ _ _ _ _ _ _ _
   | exact ih2 _ _ _ _ _ _ _ _ _
   | exact impl_borders.mono _ _
   | exact LeO.none _
   | refine LeO.ite ?_ ?_
   | refine LeO.bind ?_ (fun _ => ?_)
  ·intro y0 y1 y2 y3 y4 y5 y6 y7 y8
   unfold impl_search.j2
   repeat' first
   | (with_reducible exact ih0 _ _ _ _ _ _ _ _)
   | (with_reducible exact ih1 _ _ _ _ _ _ _ _ _)
   | (with_reducible exact ih2 _ _ _ _ _ _ _ _ _)
   | (with_reducible exact impl_borders.mono _ _)
   | (with_reducible exact LeO.refl _)
   | (with_reducible exact LeO.none _)
   | (with_reducible refine LeO.ite ?_ ?_)
   | (with_reducible refine LeO.bind ?_ (fun _ => ?_))
   | exact ih0 _ _ _ _ _ _ _ _
   | exact ih1 _ _ _ _ _ _ _ _ _
   | exact ih2 _ _ _ _ _ _ _ _ _
   | exact impl_borders.mono _ _
   | exact LeO.none _
   | refine LeO.ite ?_ ?_
   | refine LeO.bind ?_ (fun _ => ?_)
  ·intro y0 y1 y2 y3 y4 y5 y6 y7 y8
   unfold impl_search.l1
   repeat' first
   | (with_reducible exact ih0 _ _ _ _ _ _ _ _)
   | (with_reducible exact ih1 _ _ _ _ _ _ _ _ _)
   | (with_reducible exact ih2 _ _ _ _ _ _ _ _ _)
   | (with_reducible exact impl_borders.mono _ _)
   | (with_reducible exact LeO.refl _)
   | (with_reducible exact LeO.none _)
   | (with_reducible refine LeO.ite ?_ ?_)
   | (with_reducible refine LeO.bind ?_ (fun _ => ?_))
   | exact ih0 _ _ _ _ _ _ _ _
   | exact ih1 _ _ _ _ _ _ _ _ _
   | exact ih2 _ _ _ _ _ _ _ _ _
   | exact impl_borders.mono _ _
   | exact LeO.none _
   | refine LeO.ite ?_ ?_
   | refine LeO.bind ?_ (fun _ => ?_)
theorem impl_search.mono : ∀ a0 a1 k, LeO (impl_search.f k a0 a1) (impl_search.f (k + 1) a0 a1) := by
 intro a0 a1 k
 obtain ⟨ih0, ih1, ih2⟩ := impl_search.mono_l k
 unfold impl_search.f
 repeat' first
   | (with_reducible exact ih0 _ _ _ _ _ _ _ _)
   | (with_reducible exact ih1 _ _ _ _ _ _ _ _ _)
   | (with_reducible exact ih2 _ _ _ _ _ _ _ _ _)
   | (with_reducible exact impl_borders.mono _ _)
   | (with_reducible exact LeO.refl _)
   | (with_reducible exact LeO.none _)
   | (with_reducible refine LeO.ite ?_ ?_)
   | (with_reducible refine LeO.bind ?_ (fun _ => ?_))
   | exact ih0 _ _ _ _ _ _ _ _
   | exact ih1 _ _ _ _ _ _ _ _ _
   | exact ih2 _ _ _ _ _ _ _ _ _
   | exact impl_borders.mono _ _
   | exact LeO.none _
   | refine LeO.ite ?_ ?_
   | refine LeO.bind ?_ (fun _ => ?_)
set_option maxHeartbeats 8000000 in
set_option maxRecDepth 100000 in
theorem impl_search.calls (k : Nat) (a0 : ByteArray) (a1 : ByteArray) (r1 : List Int) (r2 : Int) (w : World) (h : impl_search.f k a0 a1 = some (r1, r2)) :
  Calls Try.prog 107 #[.string a0, .string a1] w fun e w' => ∃ v0_ : Value, e = .returned (.tuple #[v0_, .int .i64 r2]) ∧ Kd.R (Kd.int .i64) 3 w' w.heap.size (fun _ => True) v0_ r1 ∧ Below w.heap.size w w' := by
 have HB := Aside0.mk (Below.refl w.heap.size w)
 have H : ((impl_borders.f k a0).bind fun t238 => (impl_search.l0 k a0 a1 t238 ([] : List Int) 0 0 (a1.size : Int) 0)) = some (r1, r2) := h
 clear h
 replace H := Option.bind_eq_some_iff.mp H
 obtain ⟨t238, A30, H⟩ := H
 try dsimp only at H
 have A3 := Aside0.mk A30
 clear A30
 have H' := Aside0.mk H
 clear H
 go_enter Try.func107, Try.ntmps107
 go_wp2_with (first | (go_at_call 134; (with_reducible refine (impl_borders.calls k a0 t238 _ A3.out).mono ?_); rintro e w4 ⟨v239, rfl, ho0, hb⟩; have n0_ := Aside0.mk (Kd.R_lower ho0 (below_size z4)); have n1_ := Aside0.mk (below_step z4 hb); clear HB; have HO240 := n0_; have HB := n1_; clear n0_ n1_; (try clear hb); (try clear hb2); (try clear hk); (try clear hi); (try clear ho0)))
 repeat (go_quiet (first | (go_at_call 134; (with_reducible refine (impl_borders.calls k a0 t238 _ A3.out).mono ?_); rintro e w4 ⟨v239, rfl, ho0, hb⟩; have n0_ := Aside0.mk (Kd.R_lower ho0 (below_size z4)); have n1_ := Aside0.mk (below_step z4 hb); clear HB; have HO240 := n0_; have HB := n1_; clear n0_ n1_; (try clear hb); (try clear hb2); (try clear hk); (try clear hi); (try clear ho0))); try go_wp2_with (first | (go_at_call 134; (with_reducible refine (impl_borders.calls k a0 t238 _ A3.out).mono ?_); rintro e w4 ⟨v239, rfl, ho0, hb⟩; have n0_ := Aside0.mk (Kd.R_lower ho0 (below_size z4)); have n1_ := Aside0.mk (below_step z4 hb); clear HB; have HO240 := n0_; have HB := n1_; clear n0_ n1_; (try clear hb); (try clear hb2); (try clear hk); (try clear hi); (try clear ho0))))
 go_loopg [7, 8, 9, 15] k (fun kq v7 v8 v9 v15 w' => ∃ (x7_1 : List Int) (x8_1 : Int) (x9_1 : Int) (x15_1 : Int), v8 = .int .i64 x8_1 ∧ v9 = .int .i64 x9_1 ∧ v15 = .int .i64 x15_1 ∧ Aside0 (impl_search.l0 kq a0 a1 t238 x7_1 x8_1 x9_1 (a1.size : Int) x15_1 = some (r1, r2)) ∧ Aside0 (kq ≤ k) ∧ Aside0 (Kd.R (Kd.int .i64) 3 w' w.heap.size (fun k_ => some k_ ≠ (v7 : Value).ownBlock) v239 t238) ∧ Aside0 (Kd.R (Kd.int .i64) 3 w' w.heap.size (fun k_ => some k_ ≠ (v239 : Value).ownBlock) v7 x7_1) ∧ Aside0 (Below w.heap.size w w'))
 case atStart => exact ⟨(([] : List Int)), (0), (0), (0), z1, z1, z1, H', ⟨Nat.le_refl _⟩, ⟨by (with_reducible repeat (first | apply Kd.R_alloc | apply Kd.R_drewN | apply Kd.R_drew)); exact Kd.R_mono HO240.out (fun _ hk => (by simp [Value.ownBlock]))⟩, ⟨by first | exact Kd.R_nil _ _ _ _ _ | exact Kd.N_nil _ _ _ _ _ | exact Kd.V_nil _ _ _ _ _ | exact Kd.Q_nil _ _ _ _ _ | exact Kd.S_nil _ _ _ _ _⟩, ⟨by repeat (first | (with_reducible first | exact HB.out | apply below_alloc | apply pw_below_drewN | apply below_drew1) | exact HB.out)⟩⟩
 case round =>
  clear H'
  try clear c1
  try clear p2
  obtain ⟨x7_1, x8_1, x9_1, x15_1, rfl, rfl, rfl, HA, HK1, HO_6, HO_7, HB⟩ := hrel
  cases gk with
  | zero => exact absurd HA.out (by simp [impl_search.l0])
  | succ k1 =>
   have H := HA.out
   clear HA
   simp only [impl_search.l0] at H
   by_cases c5 : x15_1 < (a1.size : Int)
   ·rw [if_pos c5] at H
    have c5b0 : decide (x15_1 < (a1.size : Int)) = true := decide_eq_true c5
    clear c5
    have HC6 := Aside0.mk H
    clear H
    go_upto_block 2 with (fail)
    repeat (go_quiet (fail); go_upto_block 2 with (fail))
    go_cut [8, 9] (fun v8 v9 wc => ∃ (kq : Nat) (x8_5 : Int) (x9_5 : Int), v8 = .int .i64 x8_5 ∧ v9 = .int .i64 x9_5 ∧ Aside0 (impl_search.j2 kq a0 a1 t238 x7_1 x8_5 x9_5 x15_1 (a1.size : Int) x15_1 = some (r1, r2)) ∧ Aside0 (kq ≤ k1) ∧ Aside0 (Kd.R (Kd.int .i64) 3 wc w.heap.size (fun k_ => some k_ ≠ (u7 : Value).ownBlock) v239 t238) ∧ Aside0 (Kd.R (Kd.int .i64) 3 wc w.heap.size (fun k_ => some k_ ≠ (v239 : Value).ownBlock) u7 x7_1) ∧ Aside0 (Below w.heap.size w wc))
    case first =>
     have H := HC6.out
     clear HC6
     have H' := Aside0.mk H
     clear H
     go_wp2
     repeat (go_quiet (fail); try go_wp2)
     go_loopg [8, 9] k1 (fun kq v8 v9 w' => ∃ (x8_2 : Int) (x9_2 : Int), v8 = .int .i64 x8_2 ∧ v9 = .int .i64 x9_2 ∧ Aside0 (impl_search.l1 kq a0 a1 t238 x7_1 x8_2 x9_2 x15_1 (a1.size : Int) x15_1 = some (r1, r2)) ∧ Aside0 (kq ≤ k1) ∧ Aside0 (Kd.R (Kd.int .i64) 3 w' w.heap.size (fun k_ => some k_ ≠ (u7 : Value).ownBlock) v239 t238) ∧ Aside0 (Kd.R (Kd.int .i64) 3 w' w.heap.size (fun k_ => some k_ ≠ (v239 : Value).ownBlock) u7 x7_1) ∧ Aside0 (Below w.heap.size w w'))
     case atStart => exact ⟨(x8_1), (x9_1), z1, z1, H', ⟨Nat.le_refl _⟩, ⟨by (with_reducible repeat (first | apply Kd.R_alloc | apply Kd.R_drewN | apply Kd.R_drew)); exact HO_6.out⟩, ⟨by (with_reducible repeat (first | apply Kd.R_alloc | apply Kd.R_drewN | apply Kd.R_drew)); exact HO_7.out⟩, ⟨by repeat (first | (with_reducible first | exact HB.out | apply below_alloc | apply pw_below_drewN | apply below_drew1) | exact HB.out)⟩⟩
     case round =>
      clear H'
      try clear c1
      try clear p2
      try clear c5
      try clear c5b0
      try clear p2
      obtain ⟨x8_2, x9_2, rfl, rfl, HA, HK2, HO_6, HO_7, HB⟩ := hrel
      cases gk with
      | zero => exact absurd HA.out (by simp [impl_search.l1])
      | succ k2 =>
       have H := HA.out
       clear HA
       simp only [impl_search.l1] at H
       by_cases c7 : x8_2 > 0
       ·rw [if_pos c7] at H
        have c7b0 : decide (0 < x8_2) = true := decide_eq_true c7
        clear c7
        (first | rw [c7b0] | (simp only [i64_w, i32_w]; rw [c7b0]) | skip)
        by_cases c8 : 0 ≤ x15_1
        ·rw [if_pos c8] at H
         have c8b0 : decide (0 ≤ x15_1) = true := decide_eq_true c8
         clear c8
         by_cases c9 : x15_1 < (a1.size : Int)
         ·rw [if_pos c9] at H
          have c9b0 : decide (x15_1 < (a1.size : Int)) = true := decide_eq_true c9
          clear c9
          by_cases c11 : 0 ≤ x8_2
          ·rw [if_pos c11] at H
           have c11b0 : decide (0 ≤ x8_2) = true := decide_eq_true c11
           clear c11
           by_cases c12 : x8_2 < (a0.size : Int)
           ·rw [if_pos c12] at H
            have c12b0 : decide (x8_2 < (a0.size : Int)) = true := decide_eq_true c12
            clear c12
            by_cases c14 : (bt a1 x15_1) = (bt a0 x8_2)
            ·rw [if_pos c14] at H
             have c14b0 : ((bt a1 x15_1) == (bt a0 x8_2)) = true := beq_iff_eq.mpr c14
             have c14b1 : ((bt a1 x15_1) != (bt a0 x8_2)) = false := bne_eq_false_iff_eq.mpr c14
             clear c14
             have H' := Aside0.mk H
             clear H
             have p10 : 0 ≤ (x15_1 : Int) := of_decide_eq_true z2
             have q10 : x15_1 < (a1.size : Int) := of_decide_eq_true z2
             have hx10 := bt_at a1 x15_1
             replace p10 := eq_true p10
             replace q10 := eq_true q10
             have p13 : 0 ≤ (x8_2 : Int) := of_decide_eq_true z2
             have q13 : x8_2 < (a0.size : Int) := of_decide_eq_true z2
             have hx13 := bt_at a0 x8_2
             replace p13 := eq_true p13
             replace q13 := eq_true q13
             go_wp2
             repeat (go_quiet (fail); try go_wp2)
             go_meet
             case rel => exact ⟨_, (x8_2), (x9_2), z1, z1, H', ⟨by have := HK1.out; have := HK2.out; first | omega | exact Nat.le_refl _⟩, ⟨by (with_reducible repeat (first | apply Kd.R_alloc | apply Kd.R_drewN | apply Kd.R_drew)); exact HO_6.out⟩, ⟨by (with_reducible repeat (first | apply Kd.R_alloc | apply Kd.R_drewN | apply Kd.R_drew)); exact HO_7.out⟩, ⟨by repeat (first | (with_reducible first | exact HB.out | apply below_alloc | apply pw_below_drewN | apply below_drew1) | exact HB.out)⟩⟩
            ·rw [if_neg c14] at H
             have c14b0 : ((bt a1 x15_1) == (bt a0 x8_2)) = false := beq_eq_false_iff_ne.mpr c14
             have c14b1 : ((bt a1 x15_1) != (bt a0 x8_2)) = true := bne_iff_ne.mpr c14
             obtain ⟨ji15, hji15⟩ : ∃ j_ : Int, (wrap64 (x8_2 - 1)) = j_ := ⟨_, rfl⟩
             replace H : (if 0 ≤ (ji15) then (if (ji15) < (t238.length : Int) then (impl_search.l1 k2 a0 a1 t238 x7_1 (rd t238 (ji15)) (wrap64 (x9_2 + 1)) x15_1 (a1.size : Int) x15_1) else (none)) else (none)) = some (r1, r2) := by first | (rw [hji15] at H; exact H) | (simp only [hji15] at H ⊢; exact H)
             have hji15w : (IntKind.i64.wrap (x8_2 - 1)) = ji15 := (i64_w _).trans hji15
             by_cases c16 : 0 ≤ (ji15)
             ·rw [if_pos c16] at H
              have c16b0 : decide (0 ≤ (ji15)) = true := decide_eq_true c16
              clear c16
              by_cases c17 : (ji15) < (t238.length : Int)
              ·rw [if_pos c17] at H
               have c17b0 : decide ((ji15) < (t238.length : Int)) = true := decide_eq_true c17
               clear c17
               have H' := Aside0.mk H
               clear H
               have p10 : 0 ≤ (x15_1 : Int) := of_decide_eq_true z2
               have q10 : x15_1 < (a1.size : Int) := of_decide_eq_true z2
               have hx10 := bt_at a1 x15_1
               replace p10 := eq_true p10
               replace q10 := eq_true q10
               have p13 : 0 ≤ (x8_2 : Int) := of_decide_eq_true z2
               have q13 : x8_2 < (a0.size : Int) := of_decide_eq_true z2
               have hx13 := bt_at a0 x8_2
               replace p13 := eq_true p13
               replace q13 := eq_true q13
               obtain ⟨Ao18, co18, eo18⟩ := Kd.R_slice HO_6.out
               subst eo18
               have p241 : 0 ≤ ((ji15) : Int) := of_decide_eq_true z2
               have q241 : (ji15) < (t238.length : Int) := of_decide_eq_true z2
               obtain ⟨ad241, e241, hx241_0⟩ := Kd.at_int (Kd.R_reads' HO_6.out).2.2 (ji15) p241 q241
               cases e241
               replace p241 := eq_true p241
               replace q241 := eq_true q241
               go_wp2
               repeat (go_quiet (fail); try go_wp2)
               go_roundg k2
               case measure => have := HK1.out; have := HK2.out; omega
               case rel => exact ⟨(rd t238 (ji15)), (wrap64 (x9_2 + 1)), (by first | rfl | (simp; done) | (simp only [← hji15] <;> (first | rfl | (simp; done) | (simp; generalize ByteArray.toList _ = u_; cases u_ <;> (first | rfl | (simp; done))))) | (simp [*]; done)), z1, (by first | exact H' | (simp only [hji15]; exact H') | (simp only [← hji15]; exact H')), ⟨by have := HK1.out; have := HK2.out; omega⟩, ⟨by (with_reducible repeat (first | apply Kd.R_alloc | apply Kd.R_drewN | apply Kd.R_drew)); exact HO_6.out⟩, ⟨by (with_reducible repeat (first | apply Kd.R_alloc | apply Kd.R_drewN | apply Kd.R_drew)); exact HO_7.out⟩, ⟨by repeat (first | (with_reducible first | exact HB.out | apply below_alloc | apply pw_below_drewN | apply below_drew1) | exact HB.out)⟩⟩
              ·rw [if_neg c17] at H
               exact absurd H (by simp)
             ·rw [if_neg c16] at H
              exact absurd H (by simp)
           ·rw [if_neg c12] at H
            exact absurd H (by simp)
          ·rw [if_neg c11] at H
           exact absurd H (by simp)
         ·rw [if_neg c9] at H
          exact absurd H (by simp)
        ·rw [if_neg c8] at H
         exact absurd H (by simp)
       ·rw [if_neg c7] at H
        have c7b0 : decide (0 < x8_2) = false := decide_eq_false c7
        clear c7
        (first | rw [c7b0] | (simp only [i64_w, i32_w]; rw [c7b0]) | skip)
        have H' := Aside0.mk H
        clear H
        go_wp2
        repeat (go_quiet (fail); try go_wp2)
        go_meet
        case rel => exact ⟨_, (x8_2), (x9_2), z1, z1, H', ⟨by have := HK1.out; have := HK2.out; first | omega | exact Nat.le_refl _⟩, ⟨by (with_reducible repeat (first | apply Kd.R_alloc | apply Kd.R_drewN | apply Kd.R_drew)); exact HO_6.out⟩, ⟨by (with_reducible repeat (first | apply Kd.R_alloc | apply Kd.R_drewN | apply Kd.R_drew)); exact HO_7.out⟩, ⟨by repeat (first | (with_reducible first | exact HB.out | apply below_alloc | apply pw_below_drewN | apply below_drew1) | exact HB.out)⟩⟩
    case rest =>
     clear HC6
     try clear c1
     try clear p1
     try clear q1
     try clear hx1
     try clear p2
     try clear q2
     try clear hx2
     try clear c5
     try clear c5b0
     try clear p6
     try clear c7
     try clear c7b0
     try clear c8
     try clear c8b0
     try clear c9
     try clear c9b0
     try clear c10
     try clear p10
     try clear q10
     try clear hx10
     try clear c11
     try clear c11b0
     try clear c12
     try clear c12b0
     try clear p13
     try clear q13
     try clear hx13
     try clear c14
     try clear c14b0
     try clear c14b1
     try clear c16
     try clear c16b0
     try clear c17
     try clear c17b0
     try clear hx241_0
     try clear p10
     try clear p13
     try clear p2
     try clear p241
     try clear q10
     try clear q13
     try clear q241
     obtain ⟨kq, x8_5, x9_5, rfl, rfl, HA, HJ5, HO_6, HO_7, HB⟩ := hcut
     cases kq with
     | zero => exact absurd HA.out (by simp [impl_search.j2])
     | succ kj5 =>
      have H := HA.out
      clear HA
      simp only [impl_search.j2] at H
      by_cases c19 : 0 ≤ x15_1
      ·rw [if_pos c19] at H
       have c19b0 : decide (0 ≤ x15_1) = true := decide_eq_true c19
       clear c19
       by_cases c20 : x15_1 < (a1.size : Int)
       ·rw [if_pos c20] at H
        have c20b0 : decide (x15_1 < (a1.size : Int)) = true := decide_eq_true c20
        clear c20
        by_cases c22 : 0 ≤ x8_5
        ·rw [if_pos c22] at H
         have c22b0 : decide (0 ≤ x8_5) = true := decide_eq_true c22
         clear c22
         by_cases c23 : x8_5 < (a0.size : Int)
         ·rw [if_pos c23] at H
          have c23b0 : decide (x8_5 < (a0.size : Int)) = true := decide_eq_true c23
          clear c23
          by_cases c25 : (bt a1 x15_1) = (bt a0 x8_5)
          ·rw [if_pos c25] at H
           have c25b0 : ((bt a1 x15_1) == (bt a0 x8_5)) = true := beq_iff_eq.mpr c25
           have c25b1 : ((bt a1 x15_1) != (bt a0 x8_5)) = false := bne_eq_false_iff_eq.mpr c25
           clear c25
           by_cases c26 : (wrap64 (x8_5 + 1)) = (a0.size : Int)
           ·rw [if_pos c26] at H
            have c26b0 : ((wrap64 (x8_5 + 1)) == (a0.size : Int)) = true := beq_iff_eq.mpr c26
            have c26b1 : ((wrap64 (x8_5 + 1)) != (a0.size : Int)) = false := bne_eq_false_iff_eq.mpr c26
            clear c26
            by_cases c27 : x7_1.length < 17592186044416
            ·rw [if_pos c27] at H
             have LMc27 := Aside0.mk c27
             clear c27
             obtain ⟨y242, hy242⟩ : ∃ y_ : List Int, y_ = (x7_1 ++ [wrap64 ((wrap64 (x15_1 + 1)) - (wrap64 (x8_5 + 1)))]) := ⟨_, rfl⟩
             replace H : (if 0 ≤ (wrap64 ((wrap64 (x8_5 + 1)) - 1)) then (if (wrap64 ((wrap64 (x8_5 + 1)) - 1)) < (t238.length : Int) then (impl_search.l0 kj5 a0 a1 t238 y242 (rd t238 (wrap64 ((wrap64 (x8_5 + 1)) - 1))) (wrap64 (x9_5 + 1)) (a1.size : Int) (wrap64 (x15_1 + 1))) else (none)) else (none)) = some (r1, r2) := by first | (rw [hy242]; with_reducible exact H) | (have H2_ := (Option.bind_some _ _).symm.trans H; rw [hy242]; with_reducible exact H2_) | (have H2_ := (Option.bind_some _ _).symm.trans H; with_reducible exact H2_) | with_reducible exact H | (rw [hy242]; exact H) | exact H
             have Ny242 := Aside0.mk hy242
             clear hy242
             obtain ⟨ji28, hji28⟩ : ∃ j_ : Int, (wrap64 ((wrap64 (x8_5 + 1)) - 1)) = j_ := ⟨_, rfl⟩
             replace H : (if 0 ≤ (ji28) then (if (ji28) < (t238.length : Int) then (impl_search.l0 kj5 a0 a1 t238 y242 (rd t238 (ji28)) (wrap64 (x9_5 + 1)) (a1.size : Int) (wrap64 (x15_1 + 1))) else (none)) else (none)) = some (r1, r2) := by first | (rw [hji28] at H; exact H) | (simp only [hji28] at H ⊢; exact H)
             have hji28w : (IntKind.i64.wrap ((wrap64 (x8_5 + 1)) - 1)) = ji28 := (i64_w _).trans hji28
             by_cases c29 : 0 ≤ (ji28)
             ·rw [if_pos c29] at H
              have c29b0 : decide (0 ≤ (ji28)) = true := decide_eq_true c29
              clear c29
              by_cases c30 : (ji28) < (t238.length : Int)
              ·rw [if_pos c30] at H
               have c30b0 : decide ((ji28) < (t238.length : Int)) = true := decide_eq_true c30
               clear c30
               have H' := Aside0.mk H
               clear H
               have p21 : 0 ≤ (x15_1 : Int) := of_decide_eq_true z2
               have q21 : x15_1 < (a1.size : Int) := of_decide_eq_true z2
               have hx21 := bt_at a1 x15_1
               replace p21 := eq_true p21
               replace q21 := eq_true q21
               have p24 : 0 ≤ (x8_5 : Int) := of_decide_eq_true z2
               have q24 : x8_5 < (a0.size : Int) := of_decide_eq_true z2
               have hx24 := bt_at a0 x8_5
               replace p24 := eq_true p24
               replace q24 := eq_true q24
               go_wp2_with (first | ((with_reducible refine gate_builtin (b := .append) (xs := #[.tmp 51, .tmp 56]) rfl ?_); at_builtin; refine Kd.R_append (Kd.int .i64) (w0 := w) w.heap.size rfl (.tmp 51) (.tmp 56) 83 3 (.int .i64 0) 8 rfl Try.underlying83 info3 rfl (by decide) (by omega) u7 x7_1 (wrap64 ((wrap64 (x15_1 + 1)) - (wrap64 (x8_5 + 1)))) [.int .i64 (wrap64 ((wrap64 (x15_1 + 1)) - (wrap64 (x8_5 + 1))))] (fun k_ => some k_ ≠ (v239 : Value).ownBlock) (fun _ => False) rfl rfl ?aP (fun _ hk => hk.elim) ?aF ?aO ?aB ?aS ?aL ?_; (case aP => exact rfl); (case aB => exact z4); (case aF => exact (fun k_ hk => Kd.fresh' (Kd.R_lt (by (with_reducible repeat (first | apply Kd.R_alloc | apply Kd.R_drewN | apply Kd.R_drew)); exact HO_6.out)) k_ hk)); (case aO => exact (by (with_reducible repeat (first | apply Kd.R_alloc | apply Kd.R_drewN | apply Kd.R_drew)); exact HO_7.out)); (case aS => exact (below_size z4)); (case aL => have := LMc27.out; omega); intro v243 w31 ho hb hg hat; rw [← Ny242.out] at ho; have n0_ := Aside0.mk (Kd.R_after (ok := (fun _ => True)) z6 hg hat); have n1_ := Aside0.mk (hb); have n2_ := Aside0.mk (ho); clear HO_6; clear HB; clear HO_7; have HO_6 := n0_; have HB := n1_; have HO244 := n2_; clear n0_ n1_ n2_; clear ho hb hg hat; obtain ⟨Ao32, co32, eo32⟩ := Kd.R_slice HO_6.out; subst eo32; have p245 : 0 ≤ ((ji28) : Int) := of_decide_eq_true z2; have q245 : (ji28) < (t238.length : Int) := of_decide_eq_true z2; obtain ⟨ad245, e245, hx245_0⟩ := Kd.at_int (Kd.R_reads' HO_6.out).2.2 (ji28) p245 q245; cases e245; replace p245 := eq_true p245; replace q245 := eq_true q245))
               repeat (go_quiet (first | ((with_reducible refine gate_builtin (b := .append) (xs := #[.tmp 51, .tmp 56]) rfl ?_); at_builtin; refine Kd.R_append (Kd.int .i64) (w0 := w) w.heap.size rfl (.tmp 51) (.tmp 56) 83 3 (.int .i64 0) 8 rfl Try.underlying83 info3 rfl (by decide) (by omega) u7 x7_1 (wrap64 ((wrap64 (x15_1 + 1)) - (wrap64 (x8_5 + 1)))) [.int .i64 (wrap64 ((wrap64 (x15_1 + 1)) - (wrap64 (x8_5 + 1))))] (fun k_ => some k_ ≠ (v239 : Value).ownBlock) (fun _ => False) rfl rfl ?aP (fun _ hk => hk.elim) ?aF ?aO ?aB ?aS ?aL ?_; (case aP => exact rfl); (case aB => exact z4); (case aF => exact (fun k_ hk => Kd.fresh' (Kd.R_lt (by (with_reducible repeat (first | apply Kd.R_alloc | apply Kd.R_drewN | apply Kd.R_drew)); exact HO_6.out)) k_ hk)); (case aO => exact (by (with_reducible repeat (first | apply Kd.R_alloc | apply Kd.R_drewN | apply Kd.R_drew)); exact HO_7.out)); (case aS => exact (below_size z4)); (case aL => have := LMc27.out; omega); intro v243 w31 ho hb hg hat; rw [← Ny242.out] at ho; have n0_ := Aside0.mk (Kd.R_after (ok := (fun _ => True)) z6 hg hat); have n1_ := Aside0.mk (hb); have n2_ := Aside0.mk (ho); clear HO_6; clear HB; clear HO_7; have HO_6 := n0_; have HB := n1_; have HO244 := n2_; clear n0_ n1_ n2_; clear ho hb hg hat; obtain ⟨Ao32, co32, eo32⟩ := Kd.R_slice HO_6.out; subst eo32; have p245 : 0 ≤ ((ji28) : Int) := of_decide_eq_true z2; have q245 : (ji28) < (t238.length : Int) := of_decide_eq_true z2; obtain ⟨ad245, e245, hx245_0⟩ := Kd.at_int (Kd.R_reads' HO_6.out).2.2 (ji28) p245 q245; cases e245; replace p245 := eq_true p245; replace q245 := eq_true q245)); try go_wp2_with (first | ((with_reducible refine gate_builtin (b := .append) (xs := #[.tmp 51, .tmp 56]) rfl ?_); at_builtin; refine Kd.R_append (Kd.int .i64) (w0 := w) w.heap.size rfl (.tmp 51) (.tmp 56) 83 3 (.int .i64 0) 8 rfl Try.underlying83 info3 rfl (by decide) (by omega) u7 x7_1 (wrap64 ((wrap64 (x15_1 + 1)) - (wrap64 (x8_5 + 1)))) [.int .i64 (wrap64 ((wrap64 (x15_1 + 1)) - (wrap64 (x8_5 + 1))))] (fun k_ => some k_ ≠ (v239 : Value).ownBlock) (fun _ => False) rfl rfl ?aP (fun _ hk => hk.elim) ?aF ?aO ?aB ?aS ?aL ?_; (case aP => exact rfl); (case aB => exact z4); (case aF => exact (fun k_ hk => Kd.fresh' (Kd.R_lt (by (with_reducible repeat (first | apply Kd.R_alloc | apply Kd.R_drewN | apply Kd.R_drew)); exact HO_6.out)) k_ hk)); (case aO => exact (by (with_reducible repeat (first | apply Kd.R_alloc | apply Kd.R_drewN | apply Kd.R_drew)); exact HO_7.out)); (case aS => exact (below_size z4)); (case aL => have := LMc27.out; omega); intro v243 w31 ho hb hg hat; rw [← Ny242.out] at ho; have n0_ := Aside0.mk (Kd.R_after (ok := (fun _ => True)) z6 hg hat); have n1_ := Aside0.mk (hb); have n2_ := Aside0.mk (ho); clear HO_6; clear HB; clear HO_7; have HO_6 := n0_; have HB := n1_; have HO244 := n2_; clear n0_ n1_ n2_; clear ho hb hg hat; obtain ⟨Ao32, co32, eo32⟩ := Kd.R_slice HO_6.out; subst eo32; have p245 : 0 ≤ ((ji28) : Int) := of_decide_eq_true z2; have q245 : (ji28) < (t238.length : Int) := of_decide_eq_true z2; obtain ⟨ad245, e245, hx245_0⟩ := Kd.at_int (Kd.R_reads' HO_6.out).2.2 (ji28) p245 q245; cases e245; replace p245 := eq_true p245; replace q245 := eq_true q245)))
               go_roundg kj5
               case measure => have := HK1.out; have := HJ5.out; omega
               case rel => exact ⟨(y242), (rd t238 (ji28)), (wrap64 (x9_5 + 1)), (wrap64 (x15_1 + 1)), (by first | rfl | (simp; done) | (simp only [← hji28] <;> (first | rfl | (simp; done) | (simp; generalize ByteArray.toList _ = u_; cases u_ <;> (first | rfl | (simp; done))))) | (simp [*]; done)), z1, z1, (by first | exact H' | (simp only [hji28]; exact H') | (simp only [← hji28]; exact H')), ⟨by have := HK1.out; have := HJ5.out; omega⟩, ⟨by (with_reducible repeat (first | apply Kd.R_alloc | apply Kd.R_drewN | apply Kd.R_drew)); exact Kd.R_mono HO_6.out (fun _ hk => hk.2)⟩, ⟨by (with_reducible repeat (first | apply Kd.R_alloc | apply Kd.R_drewN | apply Kd.R_drew)); exact HO244.out⟩, ⟨by repeat (first | (with_reducible first | exact HB.out | apply below_alloc | apply pw_below_drewN | apply below_drew1) | exact HB.out)⟩⟩
              ·rw [if_neg c30] at H
               exact absurd H (by simp)
             ·rw [if_neg c29] at H
              exact absurd H (by simp)
            ·rw [if_neg c27] at H
             exact absurd H (by simp)
           ·rw [if_neg c26] at H
            have c26b0 : ((wrap64 (x8_5 + 1)) == (a0.size : Int)) = false := beq_eq_false_iff_ne.mpr c26
            have c26b1 : ((wrap64 (x8_5 + 1)) != (a0.size : Int)) = true := bne_iff_ne.mpr c26
            have H' := Aside0.mk H
            clear H
            have p21 : 0 ≤ (x15_1 : Int) := of_decide_eq_true z2
            have q21 : x15_1 < (a1.size : Int) := of_decide_eq_true z2
            have hx21 := bt_at a1 x15_1
            replace p21 := eq_true p21
            replace q21 := eq_true q21
            have p24 : 0 ≤ (x8_5 : Int) := of_decide_eq_true z2
            have q24 : x8_5 < (a0.size : Int) := of_decide_eq_true z2
            have hx24 := bt_at a0 x8_5
            replace p24 := eq_true p24
            replace q24 := eq_true q24
            go_wp2
            repeat (go_quiet (fail); try go_wp2)
            go_roundg kj5
            case measure => have := HK1.out; have := HJ5.out; omega
            case rel => exact ⟨(x7_1), (wrap64 (x8_5 + 1)), (wrap64 (x9_5 + 1)), (wrap64 (x15_1 + 1)), z1, z1, z1, H', ⟨by have := HK1.out; have := HJ5.out; omega⟩, ⟨by (with_reducible repeat (first | apply Kd.R_alloc | apply Kd.R_drewN | apply Kd.R_drew)); exact HO_6.out⟩, ⟨by (with_reducible repeat (first | apply Kd.R_alloc | apply Kd.R_drewN | apply Kd.R_drew)); exact HO_7.out⟩, ⟨by repeat (first | (with_reducible first | exact HB.out | apply below_alloc | apply pw_below_drewN | apply below_drew1) | exact HB.out)⟩⟩
          ·rw [if_neg c25] at H
           have c25b0 : ((bt a1 x15_1) == (bt a0 x8_5)) = false := beq_eq_false_iff_ne.mpr c25
           have c25b1 : ((bt a1 x15_1) != (bt a0 x8_5)) = true := bne_iff_ne.mpr c25
           by_cases c33 : x8_5 = (a0.size : Int)
           ·rw [if_pos c33] at H
            have c33b0 : (x8_5 == (a0.size : Int)) = true := beq_iff_eq.mpr c33
            have c33b1 : (x8_5 != (a0.size : Int)) = false := bne_eq_false_iff_eq.mpr c33
            clear c33
            by_cases c34 : x7_1.length < 17592186044416
            ·rw [if_pos c34] at H
             have LMc34 := Aside0.mk c34
             clear c34
             obtain ⟨y246, hy246⟩ : ∃ y_ : List Int, y_ = (x7_1 ++ [wrap64 ((wrap64 (x15_1 + 1)) - x8_5)]) := ⟨_, rfl⟩
             replace H : (if 0 ≤ (wrap64 (x8_5 - 1)) then (if (wrap64 (x8_5 - 1)) < (t238.length : Int) then (impl_search.l0 kj5 a0 a1 t238 y246 (rd t238 (wrap64 (x8_5 - 1))) (wrap64 (x9_5 + 1)) (a1.size : Int) (wrap64 (x15_1 + 1))) else (none)) else (none)) = some (r1, r2) := by first | (rw [hy246]; with_reducible exact H) | (have H2_ := (Option.bind_some _ _).symm.trans H; rw [hy246]; with_reducible exact H2_) | (have H2_ := (Option.bind_some _ _).symm.trans H; with_reducible exact H2_) | with_reducible exact H | (rw [hy246]; exact H) | exact H
             have Ny246 := Aside0.mk hy246
             clear hy246
             obtain ⟨ji35, hji35⟩ : ∃ j_ : Int, (wrap64 (x8_5 - 1)) = j_ := ⟨_, rfl⟩
             replace H : (if 0 ≤ (ji35) then (if (ji35) < (t238.length : Int) then (impl_search.l0 kj5 a0 a1 t238 y246 (rd t238 (ji35)) (wrap64 (x9_5 + 1)) (a1.size : Int) (wrap64 (x15_1 + 1))) else (none)) else (none)) = some (r1, r2) := by first | (rw [hji35] at H; exact H) | (simp only [hji35] at H ⊢; exact H)
             have hji35w : (IntKind.i64.wrap (x8_5 - 1)) = ji35 := (i64_w _).trans hji35
             by_cases c36 : 0 ≤ (ji35)
             ·rw [if_pos c36] at H
              have c36b0 : decide (0 ≤ (ji35)) = true := decide_eq_true c36
              clear c36
              by_cases c37 : (ji35) < (t238.length : Int)
              ·rw [if_pos c37] at H
               have c37b0 : decide ((ji35) < (t238.length : Int)) = true := decide_eq_true c37
               clear c37
               have H' := Aside0.mk H
               clear H
               have p21 : 0 ≤ (x15_1 : Int) := of_decide_eq_true z2
               have q21 : x15_1 < (a1.size : Int) := of_decide_eq_true z2
               have hx21 := bt_at a1 x15_1
               replace p21 := eq_true p21
               replace q21 := eq_true q21
               have p24 : 0 ≤ (x8_5 : Int) := of_decide_eq_true z2
               have q24 : x8_5 < (a0.size : Int) := of_decide_eq_true z2
               have hx24 := bt_at a0 x8_5
               replace p24 := eq_true p24
               replace q24 := eq_true q24
               go_wp2_with (first | ((with_reducible refine gate_builtin (b := .append) (xs := #[.tmp 51, .tmp 56]) rfl ?_); at_builtin; refine Kd.R_append (Kd.int .i64) (w0 := w) w.heap.size rfl (.tmp 51) (.tmp 56) 83 3 (.int .i64 0) 8 rfl Try.underlying83 info3 rfl (by decide) (by omega) u7 x7_1 (wrap64 ((wrap64 (x15_1 + 1)) - x8_5)) [.int .i64 (wrap64 ((wrap64 (x15_1 + 1)) - x8_5))] (fun k_ => some k_ ≠ (v239 : Value).ownBlock) (fun _ => False) rfl rfl ?aP (fun _ hk => hk.elim) ?aF ?aO ?aB ?aS ?aL ?_; (case aP => exact rfl); (case aB => exact z4); (case aF => exact (fun k_ hk => Kd.fresh' (Kd.R_lt (by (with_reducible repeat (first | apply Kd.R_alloc | apply Kd.R_drewN | apply Kd.R_drew)); exact HO_6.out)) k_ hk)); (case aO => exact (by (with_reducible repeat (first | apply Kd.R_alloc | apply Kd.R_drewN | apply Kd.R_drew)); exact HO_7.out)); (case aS => exact (below_size z4)); (case aL => have := LMc34.out; omega); intro v247 w38 ho hb hg hat; rw [← Ny246.out] at ho; have n0_ := Aside0.mk (Kd.R_after (ok := (fun _ => True)) z6 hg hat); have n1_ := Aside0.mk (hb); have n2_ := Aside0.mk (ho); clear HO_6; clear HB; clear HO_7; have HO_6 := n0_; have HB := n1_; have HO248 := n2_; clear n0_ n1_ n2_; clear ho hb hg hat; obtain ⟨Ao39, co39, eo39⟩ := Kd.R_slice HO_6.out; subst eo39; have p249 : 0 ≤ ((ji35) : Int) := of_decide_eq_true z2; have q249 : (ji35) < (t238.length : Int) := of_decide_eq_true z2; obtain ⟨ad249, e249, hx249_0⟩ := Kd.at_int (Kd.R_reads' HO_6.out).2.2 (ji35) p249 q249; cases e249; replace p249 := eq_true p249; replace q249 := eq_true q249))
               repeat (go_quiet (first | ((with_reducible refine gate_builtin (b := .append) (xs := #[.tmp 51, .tmp 56]) rfl ?_); at_builtin; refine Kd.R_append (Kd.int .i64) (w0 := w) w.heap.size rfl (.tmp 51) (.tmp 56) 83 3 (.int .i64 0) 8 rfl Try.underlying83 info3 rfl (by decide) (by omega) u7 x7_1 (wrap64 ((wrap64 (x15_1 + 1)) - x8_5)) [.int .i64 (wrap64 ((wrap64 (x15_1 + 1)) - x8_5))] (fun k_ => some k_ ≠ (v239 : Value).ownBlock) (fun _ => False) rfl rfl ?aP (fun _ hk => hk.elim) ?aF ?aO ?aB ?aS ?aL ?_; (case aP => exact rfl); (case aB => exact z4); (case aF => exact (fun k_ hk => Kd.fresh' (Kd.R_lt (by (with_reducible repeat (first | apply Kd.R_alloc | apply Kd.R_drewN | apply Kd.R_drew)); exact HO_6.out)) k_ hk)); (case aO => exact (by (with_reducible repeat (first | apply Kd.R_alloc | apply Kd.R_drewN | apply Kd.R_drew)); exact HO_7.out)); (case aS => exact (below_size z4)); (case aL => have := LMc34.out; omega); intro v247 w38 ho hb hg hat; rw [← Ny246.out] at ho; have n0_ := Aside0.mk (Kd.R_after (ok := (fun _ => True)) z6 hg hat); have n1_ := Aside0.mk (hb); have n2_ := Aside0.mk (ho); clear HO_6; clear HB; clear HO_7; have HO_6 := n0_; have HB := n1_; have HO248 := n2_; clear n0_ n1_ n2_; clear ho hb hg hat; obtain ⟨Ao39, co39, eo39⟩ := Kd.R_slice HO_6.out; subst eo39; have p249 : 0 ≤ ((ji35) : Int) := of_decide_eq_true z2; have q249 : (ji35) < (t238.length : Int) := of_decide_eq_true z2; obtain ⟨ad249, e249, hx249_0⟩ := Kd.at_int (Kd.R_reads' HO_6.out).2.2 (ji35) p249 q249; cases e249; replace p249 := eq_true p249; replace q249 := eq_true q249)); try go_wp2_with (first | ((with_reducible refine gate_builtin (b := .append) (xs := #[.tmp 51, .tmp 56]) rfl ?_); at_builtin; refine Kd.R_append (Kd.int .i64) (w0 := w) w.heap.size rfl (.tmp 51) (.tmp 56) 83 3 (.int .i64 0) 8 rfl Try.underlying83 info3 rfl (by decide) (by omega) u7 x7_1 (wrap64 ((wrap64 (x15_1 + 1)) - x8_5)) [.int .i64 (wrap64 ((wrap64 (x15_1 + 1)) - x8_5))] (fun k_ => some k_ ≠ (v239 : Value).ownBlock) (fun _ => False) rfl rfl ?aP (fun _ hk => hk.elim) ?aF ?aO ?aB ?aS ?aL ?_; (case aP => exact rfl); (case aB => exact z4); (case aF => exact (fun k_ hk => Kd.fresh' (Kd.R_lt (by (with_reducible repeat (first | apply Kd.R_alloc | apply Kd.R_drewN | apply Kd.R_drew)); exact HO_6.out)) k_ hk)); (case aO => exact (by (with_reducible repeat (first | apply Kd.R_alloc | apply Kd.R_drewN | apply Kd.R_drew)); exact HO_7.out)); (case aS => exact (below_size z4)); (case aL => have := LMc34.out; omega); intro v247 w38 ho hb hg hat; rw [← Ny246.out] at ho; have n0_ := Aside0.mk (Kd.R_after (ok := (fun _ => True)) z6 hg hat); have n1_ := Aside0.mk (hb); have n2_ := Aside0.mk (ho); clear HO_6; clear HB; clear HO_7; have HO_6 := n0_; have HB := n1_; have HO248 := n2_; clear n0_ n1_ n2_; clear ho hb hg hat; obtain ⟨Ao39, co39, eo39⟩ := Kd.R_slice HO_6.out; subst eo39; have p249 : 0 ≤ ((ji35) : Int) := of_decide_eq_true z2; have q249 : (ji35) < (t238.length : Int) := of_decide_eq_true z2; obtain ⟨ad249, e249, hx249_0⟩ := Kd.at_int (Kd.R_reads' HO_6.out).2.2 (ji35) p249 q249; cases e249; replace p249 := eq_true p249; replace q249 := eq_true q249)))
               go_roundg kj5
               case measure => have := HK1.out; have := HJ5.out; omega
               case rel => exact ⟨(y246), (rd t238 (ji35)), (wrap64 (x9_5 + 1)), (wrap64 (x15_1 + 1)), (by first | rfl | (simp; done) | (simp only [← hji35] <;> (first | rfl | (simp; done) | (simp; generalize ByteArray.toList _ = u_; cases u_ <;> (first | rfl | (simp; done))))) | (simp [*]; done)), z1, z1, (by first | exact H' | (simp only [hji35]; exact H') | (simp only [← hji35]; exact H')), ⟨by have := HK1.out; have := HJ5.out; omega⟩, ⟨by (with_reducible repeat (first | apply Kd.R_alloc | apply Kd.R_drewN | apply Kd.R_drew)); exact Kd.R_mono HO_6.out (fun _ hk => hk.2)⟩, ⟨by (with_reducible repeat (first | apply Kd.R_alloc | apply Kd.R_drewN | apply Kd.R_drew)); exact HO248.out⟩, ⟨by repeat (first | (with_reducible first | exact HB.out | apply below_alloc | apply pw_below_drewN | apply below_drew1) | exact HB.out)⟩⟩
              ·rw [if_neg c37] at H
               exact absurd H (by simp)
             ·rw [if_neg c36] at H
              exact absurd H (by simp)
            ·rw [if_neg c34] at H
             exact absurd H (by simp)
           ·rw [if_neg c33] at H
            have c33b0 : (x8_5 == (a0.size : Int)) = false := beq_eq_false_iff_ne.mpr c33
            have c33b1 : (x8_5 != (a0.size : Int)) = true := bne_iff_ne.mpr c33
            have H' := Aside0.mk H
            clear H
            have p21 : 0 ≤ (x15_1 : Int) := of_decide_eq_true z2
            have q21 : x15_1 < (a1.size : Int) := of_decide_eq_true z2
            have hx21 := bt_at a1 x15_1
            replace p21 := eq_true p21
            replace q21 := eq_true q21
            have p24 : 0 ≤ (x8_5 : Int) := of_decide_eq_true z2
            have q24 : x8_5 < (a0.size : Int) := of_decide_eq_true z2
            have hx24 := bt_at a0 x8_5
            replace p24 := eq_true p24
            replace q24 := eq_true q24
            go_wp2
            repeat (go_quiet (fail); try go_wp2)
            go_roundg kj5
            case measure => have := HK1.out; have := HJ5.out; omega
            case rel => exact ⟨(x7_1), (x8_5), (wrap64 (x9_5 + 1)), (wrap64 (x15_1 + 1)), z1, z1, z1, H', ⟨by have := HK1.out; have := HJ5.out; omega⟩, ⟨by (with_reducible repeat (first | apply Kd.R_alloc | apply Kd.R_drewN | apply Kd.R_drew)); exact HO_6.out⟩, ⟨by (with_reducible repeat (first | apply Kd.R_alloc | apply Kd.R_drewN | apply Kd.R_drew)); exact HO_7.out⟩, ⟨by repeat (first | (with_reducible first | exact HB.out | apply below_alloc | apply pw_below_drewN | apply below_drew1) | exact HB.out)⟩⟩
         ·rw [if_neg c23] at H
          exact absurd H (by simp)
        ·rw [if_neg c22] at H
         exact absurd H (by simp)
       ·rw [if_neg c20] at H
        exact absurd H (by simp)
      ·rw [if_neg c19] at H
       exact absurd H (by simp)
   ·rw [if_neg c5] at H
    have c5b0 : decide (x15_1 < (a1.size : Int)) = false := decide_eq_false c5
    clear c5
    simp only [Option.some.injEq, Prod.mk.injEq] at H
    obtain ⟨rfl, rfl⟩ := H
    go_wp2
    repeat (go_quiet (fail); try go_wp2)
    go_ret2
    exact ⟨_, by first | rfl | (simp [errW_none, errW_some] <;> rfl) | (simp [*, errW_none, errW_some] <;> rfl), by (with_reducible repeat (first | apply Kd.R_alloc | apply Kd.R_drewN | apply Kd.R_drew)); exact Kd.R_mono HO_7.out (fun _ hk => trivial), by repeat (first | (with_reducible first | exact HB.out | apply below_alloc | apply pw_below_drewN | apply below_drew1) | exact HB.out)⟩

/-! ### impl_keepTo: function 108 -/
def impl_keepTo.f (a0 : Int) (a1 : Int) : Option (Int × ByteArray × ByteArray) := some (wrap64 (a1 - a0), (⟨#[]⟩ : ByteArray), (⟨#[]⟩ : ByteArray))
set_option maxHeartbeats 8000000 in
set_option maxRecDepth 100000 in
theorem impl_keepTo.calls (a0 : Int) (a1 : Int) (r1 : Int) (r2 : ByteArray) (r3 : ByteArray) (w : World) (h : impl_keepTo.f a0 a1 = some (r1, r2, r3)) :
  Calls Try.prog 108 #[.int .i64 a0, .int .i64 a1] w fun e w' => e = .returned (.agg #[.int .i64 r1, .string r2, .string r3]) ∧ Below w.heap.size w w' := by
 have hu74 := Try.underlying74
 have HB := Aside0.mk (Below.refl w.heap.size w)
 have H : (some (wrap64 (a1 - a0), (⟨#[]⟩ : ByteArray), (⟨#[]⟩ : ByteArray))) = some (r1, r2, r3) := h
 clear h
 simp only [Option.some.injEq, Prod.mk.injEq] at H
 obtain ⟨rfl, rfl, rfl⟩ := H
 go_enter Try.func108, Try.ntmps108
 go_wp2_with (first | ((with_reducible refine gate_dst (N := 4) rfl ?_); refine box_event ?hg (N := 4) ?hd (cs := #[.int .i64 0, .string (⟨#[]⟩ : ByteArray), .string (⟨#[]⟩ : ByteArray)]) (t := 74) ?hr ?_; (case hd => rfl); (case hg => rfl); (case hr => first | (go_simp; done) | (go_simp; rfl)); intro gb250 hg w3 hbox hb; have n0_ := Aside0.mk (below_step z4 hb); have n1_ := Aside0.mk (hbox); have n2_ := Aside0.mk ((by rw [hg]; exact (below_size z4) : w.heap.size ≤ gb250)); have n3_ := Aside0.mk ((by rw [hg]; exact (below_size z4) : w.heap.size ≤ gb250)); clear HB; have HB := n0_; have BK250 := n1_; have GW250 := n2_; have GE250 := n3_; clear n0_ n1_ n2_ n3_; clear hb hbox hg; have hcz4_0 : w3.cell? ⟨gb250, 0, none⟩ = some (.int .i64 0) := (blk_cell BK250.out 0).trans rfl; have hcz4_1 : w3.cell? ⟨gb250, 1, none⟩ = some (.string (⟨#[]⟩ : ByteArray)) := (blk_cell BK250.out 1).trans rfl; have hcz4_2 : w3.cell? ⟨gb250, 2, none⟩ = some (.string (⟨#[]⟩ : ByteArray)) := (blk_cell BK250.out 2).trans rfl; have hfz4_0 := blk_frozen BK250.out 0; have hfz4_1 := blk_frozen BK250.out 1; have hfz4_2 := blk_frozen BK250.out 2))
 refine bodyPost_ret (results_cell_row rfl _ _ gb250 74 #[.int .i64 (wrap64 (a1 - a0)), .string (⟨#[]⟩ : ByteArray), .string (⟨#[]⟩ : ByteArray)] (0, 0) _ rfl (by (with_reducible repeat (first | refine blk_drewN ?_ _ | refine blk_drew ?_ | refine blk_alloc ?_ _)); refine blk_put (cs := #[.int .i64 (wrap64 (a1 - a0)), .string (⟨#[]⟩ : ByteArray), .string (⟨#[]⟩ : ByteArray)]) ?_ 2 _ rfl; (with_reducible repeat (first | refine blk_drewN ?_ _ | refine blk_drew ?_ | refine blk_alloc ?_ _)); refine blk_put (cs := #[.int .i64 (wrap64 (a1 - a0)), .string (⟨#[]⟩ : ByteArray), .string (⟨#[]⟩ : ByteArray)]) ?_ 1 _ rfl; (with_reducible repeat (first | refine blk_drewN ?_ _ | refine blk_drew ?_ | refine blk_alloc ?_ _)); refine blk_put (cs := #[.int .i64 0, .string (⟨#[]⟩ : ByteArray), .string (⟨#[]⟩ : ByteArray)]) ?_ 0 _ rfl; (with_reducible repeat (first | refine blk_drewN ?_ _ | refine blk_drew ?_ | refine blk_alloc ?_ _)); exact BK250.out) Try.underlying74 rfl z0) rfl ?_
 exact ⟨by first | rfl | (simp [errW_none, errW_some] <;> rfl) | (simp [*, errW_none, errW_some] <;> rfl), by repeat (first | (with_reducible first | exact HB.out | apply below_alloc | apply pw_below_drewN | apply below_drew1 | refine below_set ?_ GE250.out) | exact HB.out)⟩

/-! ### impl_replace: function 72 -/
def impl_replace.l0 : Nat → ByteArray → ByteArray → ByteArray → List (S74) → Int → Int → List Int → Int → Int → Option ((List (S74)) × Int)
 | 0, _, _, _, _, _, _, _, _, _ => none
 | k + 1, x0, x1, x2, x8, x11, x12, x21, x22, x23 => if x23 < x22 then (if 0 ≤ x23 then (if x23 < (x21.length : Int) then (if (rd x21 x23) < x11 then (impl_replace.l0 k x0 x1 x2 x8 x11 x12 x21 x22 (wrap64 (x23 + 1))) else ((impl_keepTo.f x11 (rd x21 x23)).bind fun bt256 => ((some (([(⟨bt256.1, bt256.2.1, bt256.2.2⟩ : S74), (⟨0, x2, (⟨#[]⟩ : ByteArray)⟩ : S74), (⟨0, (⟨#[]⟩ : ByteArray), x1⟩ : S74)] : List (S74)) : List (S74))).bind fun y259 => (if x8.length + y259.length < 3518437208883 then (impl_replace.l0 k x0 x1 x2 (x8 ++ y259) (wrap64 ((rd x21 x23) + (x1.size : Int))) (wrap64 (x12 + 1)) x21 x22 (wrap64 (x23 + 1))) else (none))))) else (none)) else (none)) else ((impl_keepTo.f x11 (x0.size : Int)).bind fun bt265 => (if x8.length < 3518437208883 then (some ((x8 ++ [(⟨bt265.1, bt265.2.1, bt265.2.2⟩ : S74)]), x12)) else (none)))
def impl_replace.f (k : Nat) (a0 : ByteArray) (a1 : ByteArray) (a2 : ByteArray) : Option ((List (S74)) × Int) := (impl_search.f k a1 a0).bind fun bt251 => (impl_replace.l0 k a0 a1 a2 ([] : List (S74)) 0 0 bt251.1 (bt251.1.length : Int) 0)
theorem impl_replace.mono_l : ∀ k, (∀ y0 y1 y2 y3 y4 y5 y6 y7 y8, LeO (impl_replace.l0 k y0 y1 y2 y3 y4 y5 y6 y7 y8) (impl_replace.l0 (k + 1) y0 y1 y2 y3 y4 y5 y6 y7 y8))
 | 0 => fun _ _ _ _ _ _ _ _ _ r h => by simp [impl_replace.l0] at h
 | k + 1 => by
  have ih0 := impl_replace.mono_l k
  ·intro y0 y1 y2 y3 y4 y5 y6 y7 y8
   unfold impl_replace.l0
   repeat' first
   | (with_reducible exact ih0 _ _ _ _ _ _ _ _ _)
   | (with_reducible exact impl_search.mono _ _ _)
   | (with_reducible exact LeO.refl _)
   | (with_reducible exact LeO.none _)
   | (with_reducible refine LeO.ite ?_ ?_)
   | (with_reducible refine LeO.bind ?_ (fun _ => ?_))
   | exact ih0 _ _ _ _ _ _ _ _ _
   | exact impl_search.mono _ _ _
   | exact LeO.none _
   | refine LeO.ite ?_ ?_
   | refine LeO.bind ?_ (fun _ => ?_)
theorem impl_replace.mono : ∀ a0 a1 a2 k, LeO (impl_replace.f k a0 a1 a2) (impl_replace.f (k + 1) a0 a1 a2) := by
 intro a0 a1 a2 k
 have ih0 := impl_replace.mono_l k
 unfold impl_replace.f
 repeat' first
   | (with_reducible exact ih0 _ _ _ _ _ _ _ _ _)
   | (with_reducible exact impl_search.mono _ _ _)
   | (with_reducible exact LeO.refl _)
   | (with_reducible exact LeO.none _)
   | (with_reducible refine LeO.ite ?_ ?_)
   | (with_reducible refine LeO.bind ?_ (fun _ => ?_))
   | exact ih0 _ _ _ _ _ _ _ _ _
   | exact impl_search.mono _ _ _
   | exact LeO.none _
   | refine LeO.ite ?_ ?_
   | refine LeO.bind ?_ (fun _ => ?_)
set_option maxHeartbeats 8000000 in
set_option maxRecDepth 100000 in
theorem impl_replace.calls (k : Nat) (a0 : ByteArray) (a1 : ByteArray) (a2 : ByteArray) (r1 : List (S74)) (r2 : Int) (w : World) (h : impl_replace.f k a0 a1 a2 = some (r1, r2)) :
  Calls Try.prog 72 #[.string a0, .string a1, .string a2] w fun e w' => ∃ v0_ : Value, e = .returned (.tuple #[v0_, .int .i64 r2]) ∧ Kd.R k74 74 w' w.heap.size (fun _ => True) v0_ r1 ∧ Below w.heap.size w w' := by
 have hu74 := Try.underlying74
 have HB := Aside0.mk (Below.refl w.heap.size w)
 have H : ((impl_search.f k a1 a0).bind fun bt251 => (impl_replace.l0 k a0 a1 a2 ([] : List (S74)) 0 0 bt251.1 (bt251.1.length : Int) 0)) = some (r1, r2) := h
 clear h
 replace H := Option.bind_eq_some_iff.mp H
 obtain ⟨⟨t251, t252⟩, A40, H⟩ := H
 try dsimp only at H
 have A4 := Aside0.mk A40
 clear A40
 have H' := Aside0.mk H
 clear H
 go_enter Try.func72, Try.ntmps72
 go_wp2_with (first | ((with_reducible refine gate_callee (f := 107) rfl ?_); refine goesL_ (some 18) rfl rfl Try.func107 z0 rfl #[.string a1, .string a0] rfl z5 ?_; (with_reducible refine (impl_search.calls k a1 a0 t251 t252 _ A4.out).mono ?_); rintro e w5 ⟨v253, rfl, ho0, hb⟩; refine ⟨_, rfl, ?_⟩; have n0_ := Aside0.mk (Kd.R_lower ho0 (below_size z4)); have n1_ := Aside0.mk (below_step z4 hb); clear HB; have HO254 := n0_; have HB := n1_; clear n0_ n1_; (try clear hb); (try clear hb2); (try clear hk); (try clear hi); (try clear ho0); obtain ⟨Ao6, co6, eo6⟩ := Kd.R_slice HO254.out; subst eo6))
 go_loopg [8, 11, 12, 23] k (fun kq v8 v11 v12 v23 w' => ∃ (x8_1 : List (S74)) (x11_1 : Int) (x12_1 : Int) (x23_1 : Int), v11 = .int .i64 x11_1 ∧ v12 = .int .i64 x12_1 ∧ v23 = .int .i64 x23_1 ∧ Aside0 (impl_replace.l0 kq a0 a1 a2 x8_1 x11_1 x12_1 t251 (t251.length : Int) x23_1 = some (r1, r2)) ∧ Aside0 (kq ≤ k) ∧ Aside0 (Kd.R k74 74 w' w.heap.size (fun _ => True) v8 x8_1) ∧ Aside0 (Kd.R (Kd.int .i64) 3 w' w.heap.size (fun _ => True) (.slice Ao6 t251.length co6) t251) ∧ Aside0 (Below w.heap.size w w'))
 case atStart => exact ⟨(([] : List (S74))), (0), (0), (0), z1, z1, z1, H', ⟨Nat.le_refl _⟩, ⟨by first | exact Kd.R_nil _ _ _ _ _ | exact Kd.N_nil _ _ _ _ _ | exact Kd.V_nil _ _ _ _ _ | exact Kd.Q_nil _ _ _ _ _ | exact Kd.S_nil _ _ _ _ _⟩, ⟨by (with_reducible repeat (first | apply Kd.R_alloc | apply Kd.R_drewN | apply Kd.R_drew)); exact HO254.out⟩, ⟨by repeat (first | (with_reducible first | exact HB.out | apply below_alloc | apply pw_below_drewN | apply below_drew1) | exact HB.out)⟩⟩
 case round =>
  clear H'
  try clear c1
  try clear p2
  obtain ⟨x8_1, x11_1, x12_1, x23_1, rfl, rfl, rfl, HA, HK1, HO_8, HO_21, HB⟩ := hrel
  cases gk with
  | zero => exact absurd HA.out (by simp [impl_replace.l0])
  | succ k1 =>
   have H := HA.out
   clear HA
   simp only [impl_replace.l0] at H
   by_cases c7 : x23_1 < (t251.length : Int)
   ·rw [if_pos c7] at H
    have c7b0 : decide (x23_1 < (t251.length : Int)) = true := decide_eq_true c7
    clear c7
    by_cases c8 : 0 ≤ x23_1
    ·rw [if_pos c8] at H
     have c8b0 : decide (0 ≤ x23_1) = true := decide_eq_true c8
     clear c8
     by_cases c9 : x23_1 < (t251.length : Int)
     ·rw [if_pos c9] at H
      have c9b0 : decide (x23_1 < (t251.length : Int)) = true := decide_eq_true c9
      clear c9
      by_cases c10 : (rd t251 x23_1) < x11_1
      ·rw [if_pos c10] at H
       have c10b0 : decide ((rd t251 x23_1) < x11_1) = true := decide_eq_true c10
       clear c10
       have H' := Aside0.mk H
       clear H
       have p255 : 0 ≤ (x23_1 : Int) := of_decide_eq_true z2
       have q255 : x23_1 < (t251.length : Int) := of_decide_eq_true z2
       obtain ⟨ad255, e255, hx255_0⟩ := Kd.at_int (Kd.R_reads' HO_21.out).2.2 x23_1 p255 q255
       cases e255
       replace p255 := eq_true p255
       replace q255 := eq_true q255
       go_wp2
       go_roundg k1
       case measure => have := HK1.out; omega
       case rel => exact ⟨(x8_1), (x11_1), (x12_1), (wrap64 (x23_1 + 1)), z1, z1, z1, H', ⟨by have := HK1.out; omega⟩, ⟨by (with_reducible repeat (first | apply Kd.R_alloc | apply Kd.R_drewN | apply Kd.R_drew)); exact HO_8.out⟩, ⟨by (with_reducible repeat (first | apply Kd.R_alloc | apply Kd.R_drewN | apply Kd.R_drew)); exact HO_21.out⟩, ⟨by repeat (first | (with_reducible first | exact HB.out | apply below_alloc | apply pw_below_drewN | apply below_drew1) | exact HB.out)⟩⟩
      ·rw [if_neg c10] at H
       have c10b0 : decide ((rd t251 x23_1) < x11_1) = false := decide_eq_false c10
       clear c10
       replace H := Option.bind_eq_some_iff.mp H
       obtain ⟨⟨t256, t257, t258⟩, A110, H⟩ := H
       try dsimp only at H
       have A11 := Aside0.mk A110
       clear A110
       obtain ⟨y259, hy259⟩ : ∃ y_ : List (S74), y_ = (([(⟨t256, t257, t258⟩ : S74), (⟨0, a2, (⟨#[]⟩ : ByteArray)⟩ : S74), (⟨0, (⟨#[]⟩ : ByteArray), a1⟩ : S74)] : List (S74))) := ⟨_, rfl⟩
       replace H : (if x8_1.length + y259.length < 3518437208883 then (impl_replace.l0 k1 a0 a1 a2 (x8_1 ++ y259) (wrap64 ((rd t251 x23_1) + (a1.size : Int))) (wrap64 (x12_1 + 1)) t251 (t251.length : Int) (wrap64 (x23_1 + 1))) else (none)) = some (r1, r2) := by first | (rw [hy259]; with_reducible exact H) | (have H2_ := (Option.bind_some _ _).symm.trans H; rw [hy259]; with_reducible exact H2_) | (have H2_ := (Option.bind_some _ _).symm.trans H; with_reducible exact H2_) | with_reducible exact H | (rw [hy259]; exact H) | exact H
       have Ny259 := Aside0.mk hy259
       clear hy259
       by_cases c12 : x8_1.length + y259.length < 3518437208883
       ·rw [if_pos c12] at H
        have LMc12 := Aside0.mk c12
        clear c12
        obtain ⟨y262, hy262⟩ : ∃ y_ : List (S74), y_ = (x8_1 ++ y259) := ⟨_, rfl⟩
        replace H : (impl_replace.l0 k1 a0 a1 a2 y262 (wrap64 ((rd t251 x23_1) + (a1.size : Int))) (wrap64 (x12_1 + 1)) t251 (t251.length : Int) (wrap64 (x23_1 + 1))) = some (r1, r2) := by first | (rw [hy262]; with_reducible exact H) | (have H2_ := (Option.bind_some _ _).symm.trans H; rw [hy262]; with_reducible exact H2_) | (have H2_ := (Option.bind_some _ _).symm.trans H; with_reducible exact H2_) | with_reducible exact H | (rw [hy262]; exact H) | exact H
        have Ny262 := Aside0.mk hy262
        clear hy262
        have H' := Aside0.mk H
        clear H
        have p255 : 0 ≤ (x23_1 : Int) := of_decide_eq_true z2
        have q255 : x23_1 < (t251.length : Int) := of_decide_eq_true z2
        obtain ⟨ad255, e255, hx255_0⟩ := Kd.at_int (Kd.R_reads' HO_21.out).2.2 x23_1 p255 q255
        cases e255
        replace p255 := eq_true p255
        replace q255 := eq_true q255
        go_wp2_with (first | ((with_reducible refine gate_callee (f := 108) rfl ?_); refine goesL_ (some 33) rfl rfl Try.func108 z0 rfl #[.int .i64 x11_1, .int .i64 (rd t251 x23_1)] rfl z5 ?_; (with_reducible refine (impl_keepTo.calls x11_1 (rd t251 x23_1) t256 t257 t258 _ A11.out).mono ?_); rintro e w13 ⟨rfl, hb⟩; refine ⟨_, rfl, ?_⟩; have n0_ := Aside0.mk (Kd.R_below (by (with_reducible repeat (first | apply Kd.R_alloc | apply Kd.R_drewN | apply Kd.R_drew)); exact HO_8.out) hb); have n1_ := Aside0.mk (Kd.R_below (by (with_reducible repeat (first | apply Kd.R_alloc | apply Kd.R_drewN | apply Kd.R_drew)); exact HO_21.out) hb); have n2_ := Aside0.mk (below_step z4 hb); clear HO_8; clear HO_21; clear HB; have HO_8 := n0_; have HO_21 := n1_; have HB := n2_; clear n0_ n1_ n2_; (try clear hb); (try clear hb2); (try clear hk); (try clear hi)) | ((with_reducible refine gate_dst (N := 38) rfl ?_); refine Kd.R_lit k74 _ 74 ?hg (N := 38) ?hd (xs := ([(⟨t256, t257, t258⟩ : S74), (⟨0, a2, (⟨#[]⟩ : ByteArray)⟩ : S74), (⟨0, (⟨#[]⟩ : ByteArray), a1⟩ : S74)] : List (S74))) (inner := [.int .i64 t256, .string t257, .string t258, .int .i64 0, .string a2, .string (⟨#[]⟩ : ByteArray), .int .i64 0, .string (⟨#[]⟩ : ByteArray), .string a1]) (ok := fun _ => True) (okp := fun _ => True) ?hr ?hp (fun _ hk => hk) trivial (Below.refl _ _) (Nat.le_refl _) (by simp) ?_; (case hd => rfl); (case hg => rfl); (case hr => first | (go_simp; done) | (go_simp; rfl)); (case hp => exact (Reps.c3 (show Kd.M k74 _ _ _ (⟨t256, t257, t258⟩ : S74) [.int .i64 t256, .string t257, .string t258] from (k74_mkM _ _ _ (⟨t256, t257, t258⟩ : S74) )) (Reps.c3 (show Kd.M k74 _ _ _ (⟨0, a2, (⟨#[]⟩ : ByteArray)⟩ : S74) [.int .i64 0, .string a2, .string (⟨#[]⟩ : ByteArray)] from (k74_mkM _ _ _ (⟨0, a2, (⟨#[]⟩ : ByteArray)⟩ : S74) )) (Reps.c3 (show Kd.M k74 _ _ _ (⟨0, (⟨#[]⟩ : ByteArray), a1⟩ : S74) [.int .i64 0, .string (⟨#[]⟩ : ByteArray), .string a1] from (k74_mkM _ _ _ (⟨0, (⟨#[]⟩ : ByteArray), a1⟩ : S74) )) (Reps.none _ _))))); intro v260 w14 ho15 hb hg_ hnew_; clear hg_ hnew_; (first | rw [← Ny259.out] at ho15 | (simp only [Int.reduceToNat] at ho15; rw [← Ny259.out] at ho15)); have n0_ := Aside0.mk (Kd.R_elder' (by (with_reducible repeat (first | apply Kd.R_alloc | apply Kd.R_drewN | apply Kd.R_drew)); exact HO_8.out) (Kd.R_base ho15) hb); have n1_ := Aside0.mk (Kd.R_below (by (with_reducible repeat (first | apply Kd.R_alloc | apply Kd.R_drewN | apply Kd.R_drew)); exact HO_21.out) hb); have n2_ := Aside0.mk (Kd.R_lower (Kd.R_new' ho15 (Kd.R_lt (by (with_reducible repeat (first | apply Kd.R_alloc | apply Kd.R_drewN | apply Kd.R_drew)); exact HO_8.out))) (below_size z4)); have n3_ := Aside0.mk (below_step z4 hb); clear HO_8; clear HO_21; clear HB; have HO_8 := n0_; have HO_21 := n1_; have HO261 := n2_; have HB := n3_; clear n0_ n1_ n2_ n3_; clear hb ho15; obtain ⟨Ao17, co17, eo17⟩ := Kd.R_slice HO261.out; subst eo17) | ((with_reducible refine gate_builtin (b := .append) (xs := #[.tmp 30, .tmp 38]) rfl ?_); at_builtin; refine Kd.R_append_rows k74 (w0 := w) w.heap.size rfl (.tmp 30) (.tmp 38) 26 74 (.agg #[(.int .i64 0), (.string ⟨#[]⟩), (.string ⟨#[]⟩)]) 40 rfl Try.underlying26 info74 rfl (by decide) (by omega) u8 x8_1 y259 _ _ _ (fun k_ => some k_ ≠ (.slice Ao17 y259.length co17 : Value).ownBlock) (fun _ => False) rfl rfl ?aO ?aR (fun _ _ h => h) (fun _ h => h.elim) ?aF ?aB ?aS ?aL ?_; (case aR => repeat (first | exact (Kd.R_reads' HO261.out).2.2 | (with_reducible refine Kd.C_alloc ?_ _) | (with_reducible refine Kd.C_drewN ?_ _) | (with_reducible refine Kd.C_drew ?_))); (case aB => exact z4); (case aF => exact (fun k_ hk => Kd.fresh' (Kd.R_lt (by (with_reducible repeat (first | apply Kd.R_alloc | apply Kd.R_drewN | apply Kd.R_drew)); exact HO261.out)) k_ hk)); (case aO => exact (by (with_reducible repeat (first | apply Kd.R_alloc | apply Kd.R_drewN | apply Kd.R_drew)); exact Kd.R_mono HO_8.out (fun _ hk => hk.2))); (case aS => exact (below_size z4)); (case aL => have := LMc12.out; omega); intro v263 w16 ho hb hg hat; rw [← Ny262.out] at ho; have n0_ := Aside0.mk (Kd.R_over' (by (with_reducible repeat (first | apply Kd.R_alloc | apply Kd.R_drewN | apply Kd.R_drew)); exact HO_21.out) (Kd.R_typed (by (with_reducible repeat (first | apply Kd.R_alloc | apply Kd.R_drewN | apply Kd.R_drew)); exact HO_8.out)) (by decide) hg); have n1_ := Aside0.mk (Kd.R_after (ok := (fun _ => True)) (by (with_reducible repeat (first | apply Kd.R_alloc | apply Kd.R_drewN | apply Kd.R_drew)); exact HO261.out) hg hat); have n2_ := Aside0.mk (hb); have n3_ := Aside0.mk (ho); clear HO_21; clear HO261; clear HB; clear HO_8; have HO_21 := n0_; have HO261 := n1_; have HB := n2_; have HO264 := n3_; clear n0_ n1_ n2_ n3_; clear ho hb hg hat))
        go_roundg k1
        case measure => have := HK1.out; omega
        case rel => exact ⟨(y262), (wrap64 ((rd t251 x23_1) + (a1.size : Int))), (wrap64 (x12_1 + 1)), (wrap64 (x23_1 + 1)), z1, z1, z1, H', ⟨by have := HK1.out; omega⟩, ⟨by (with_reducible repeat (first | apply Kd.R_alloc | apply Kd.R_drewN | apply Kd.R_drew)); exact Kd.R_mono HO264.out (fun _ hk => trivial)⟩, ⟨by (with_reducible repeat (first | apply Kd.R_alloc | apply Kd.R_drewN | apply Kd.R_drew)); exact HO_21.out⟩, ⟨by repeat (first | (with_reducible first | exact HB.out | apply below_alloc | apply pw_below_drewN | apply below_drew1) | exact HB.out)⟩⟩
       ·rw [if_neg c12] at H
        exact absurd H (by simp)
     ·rw [if_neg c9] at H
      exact absurd H (by simp)
    ·rw [if_neg c8] at H
     exact absurd H (by simp)
   ·rw [if_neg c7] at H
    have c7b0 : decide (x23_1 < (t251.length : Int)) = false := decide_eq_false c7
    clear c7
    replace H := Option.bind_eq_some_iff.mp H
    obtain ⟨⟨t265, t266, t267⟩, A180, H⟩ := H
    try dsimp only at H
    have A18 := Aside0.mk A180
    clear A180
    by_cases c19 : x8_1.length < 3518437208883
    ·rw [if_pos c19] at H
     have LMc19 := Aside0.mk c19
     clear c19
     obtain ⟨y268, hy268⟩ : ∃ y_ : List (S74), y_ = (x8_1 ++ [(⟨t265, t266, t267⟩ : S74)]) := ⟨_, rfl⟩
     replace H : (some (y268, x12_1)) = some (r1, r2) := by first | (rw [hy268]; with_reducible exact H) | (have H2_ := (Option.bind_some _ _).symm.trans H; rw [hy268]; with_reducible exact H2_) | (have H2_ := (Option.bind_some _ _).symm.trans H; with_reducible exact H2_) | with_reducible exact H | (rw [hy268]; exact H) | exact H
     have Ny268 := Aside0.mk hy268
     clear hy268
     simp only [Option.some.injEq, Prod.mk.injEq] at H
     obtain ⟨rfl, rfl⟩ := H
     go_wp2_with (first | ((with_reducible refine gate_callee (f := 108) rfl ?_); refine goesL_ (some 51) rfl rfl Try.func108 z0 rfl #[.int .i64 x11_1, .int .i64 (a0.size : Int)] rfl z5 ?_; (with_reducible refine (impl_keepTo.calls x11_1 (a0.size : Int) t265 t266 t267 _ A18.out).mono ?_); rintro e w20 ⟨rfl, hb⟩; refine ⟨_, rfl, ?_⟩; have n0_ := Aside0.mk (Kd.R_below (by (with_reducible repeat (first | apply Kd.R_alloc | apply Kd.R_drewN | apply Kd.R_drew)); exact HO_8.out) hb); have n1_ := Aside0.mk (Kd.R_below (by (with_reducible repeat (first | apply Kd.R_alloc | apply Kd.R_drewN | apply Kd.R_drew)); exact HO_21.out) hb); have n2_ := Aside0.mk (below_step z4 hb); clear HO_8; clear HO_21; clear HB; have HO_8 := n0_; have HO_21 := n1_; have HB := n2_; clear n0_ n1_ n2_; (try clear hb); (try clear hb2); (try clear hk); (try clear hi)) | ((with_reducible refine gate_builtin (b := .append) (xs := #[.tmp 47, .tmp 52]) rfl ?_); at_builtin; refine Kd.R_append k74 (w0 := w) w.heap.size rfl (.tmp 47) (.tmp 52) 26 74 (.agg #[(.int .i64 0), (.string ⟨#[]⟩), (.string ⟨#[]⟩)]) 40 rfl Try.underlying26 info74 rfl (by decide) (by omega) u8 x8_1 (⟨t265, t266, t267⟩ : S74) [.int .i64 t265, .string t266, .string t267] (fun _ => True) (fun _ => False) rfl rfl ?aP (fun _ hk => hk.elim) ?aF ?aO ?aB ?aS ?aL ?_; (case aP => exact k74_mkM _ _ _ (⟨t265, t266, t267⟩ : S74)); (case aB => exact z4); (case aF => exact (fun _ _ => trivial)); (case aO => exact (by (with_reducible repeat (first | apply Kd.R_alloc | apply Kd.R_drewN | apply Kd.R_drew)); exact HO_8.out)); (case aS => exact (below_size z4)); (case aL => have := LMc19.out; omega); intro v269 w21 ho hb hg hat; rw [← Ny268.out] at ho; have n0_ := Aside0.mk (Kd.R_over' (by (with_reducible repeat (first | apply Kd.R_alloc | apply Kd.R_drewN | apply Kd.R_drew)); exact HO_21.out) (Kd.R_typed (by (with_reducible repeat (first | apply Kd.R_alloc | apply Kd.R_drewN | apply Kd.R_drew)); exact HO_8.out)) (by decide) hg); have n1_ := Aside0.mk (hb); have n2_ := Aside0.mk (ho); clear HO_21; clear HB; clear HO_8; have HO_21 := n0_; have HB := n1_; have HO270 := n2_; clear n0_ n1_ n2_; clear ho hb hg hat))
     go_ret2
     exact ⟨_, by first | rfl | (simp [errW_none, errW_some] <;> rfl) | (simp [*, errW_none, errW_some] <;> rfl), by (with_reducible repeat (first | apply Kd.R_alloc | apply Kd.R_drewN | apply Kd.R_drew)); exact HO270.out, by repeat (first | (with_reducible first | exact HB.out | apply below_alloc | apply pw_below_drewN | apply below_drew1) | exact HB.out)⟩
    ·rw [if_neg c19] at H
     exact absurd H (by simp)

/-! ### impl_ReplaceOp: function 26 -/
def impl_ReplaceOp.j0 : Nat → ByteArray → ByteArray → ByteArray → Bool → Option ((List (S74)) × Bool)
 | 0, _, _, _, _ => none
 | k + 1, x0, x1, x2, x18 => if x18 = true then (some (([] : List (S74)), false)) else (if x2.toList = x1.toList then ((impl_KeepAll.f (x0.size : Int)).bind fun bt273 => (some (bt273.1, bt273.2))) else ((impl_replace.f k x0 x1 x2).bind fun bt277 => (if (wrap64 ((x0.size : Int) + (wrap64 (bt277.2 * (wrap64 ((x2.size : Int) - (x1.size : Int))))))) > 300 then (some (([] : List (S74)), false)) else ((impl_normal.f bt277.1).bind fun t281 => ((impl_goodOp.f k t281).bind fun bt284 => (some (bt284.1, bt284.2)))))))
def impl_ReplaceOp.f (k : Nat) (a0 : ByteArray) (a1 : ByteArray) (a2 : ByteArray) : Option ((List (S74)) × Bool) := (impl_isSought.f k a1).bind fun t271 => (if t271 = true then ((impl_areTexts.f k a0 a2).bind fun t272 => (impl_ReplaceOp.j0 k a0 a1 a2 (!t272))) else (impl_ReplaceOp.j0 k a0 a1 a2 true))
theorem impl_ReplaceOp.mono_l : ∀ k, (∀ y0 y1 y2 y3, LeO (impl_ReplaceOp.j0 k y0 y1 y2 y3) (impl_ReplaceOp.j0 (k + 1) y0 y1 y2 y3))
 | 0 => fun _ _ _ _ r h => by simp [impl_ReplaceOp.j0] at h
 | k + 1 => by
  have ih0 := impl_ReplaceOp.mono_l k
  ·intro y0 y1 y2 y3
   unfold impl_ReplaceOp.j0
   repeat' first
   | (with_reducible exact ih0 _ _ _ _)
   | (with_reducible exact impl_areTexts.mono _ _ _)
   | (with_reducible exact impl_goodOp.mono _ _)
   | (with_reducible exact impl_isSought.mono _ _)
   | (with_reducible exact impl_replace.mono _ _ _ _)
   | (with_reducible exact LeO.refl _)
   | (with_reducible exact LeO.none _)
   | (with_reducible refine LeO.ite ?_ ?_)
   | (with_reducible refine LeO.bind ?_ (fun _ => ?_))
   | exact ih0 _ _ _ _
   | exact impl_areTexts.mono _ _ _
   | exact impl_goodOp.mono _ _
   | exact impl_isSought.mono _ _
   | exact impl_replace.mono _ _ _ _
   | exact LeO.none _
   | refine LeO.ite ?_ ?_
   | refine LeO.bind ?_ (fun _ => ?_)
theorem impl_ReplaceOp.mono : ∀ a0 a1 a2 k, LeO (impl_ReplaceOp.f k a0 a1 a2) (impl_ReplaceOp.f (k + 1) a0 a1 a2) := by
 intro a0 a1 a2 k
 have ih0 := impl_ReplaceOp.mono_l k
 unfold impl_ReplaceOp.f
 repeat' first
   | (with_reducible exact ih0 _ _ _ _)
   | (with_reducible exact impl_areTexts.mono _ _ _)
   | (with_reducible exact impl_goodOp.mono _ _)
   | (with_reducible exact impl_isSought.mono _ _)
   | (with_reducible exact impl_replace.mono _ _ _ _)
   | (with_reducible exact LeO.refl _)
   | (with_reducible exact LeO.none _)
   | (with_reducible refine LeO.ite ?_ ?_)
   | (with_reducible refine LeO.bind ?_ (fun _ => ?_))
   | exact ih0 _ _ _ _
   | exact impl_areTexts.mono _ _ _
   | exact impl_goodOp.mono _ _
   | exact impl_isSought.mono _ _
   | exact impl_replace.mono _ _ _ _
   | exact LeO.none _
   | refine LeO.ite ?_ ?_
   | refine LeO.bind ?_ (fun _ => ?_)
set_option maxHeartbeats 8000000 in
set_option maxRecDepth 100000 in
theorem impl_ReplaceOp.calls (k : Nat) (a0 : ByteArray) (a1 : ByteArray) (a2 : ByteArray) (r1 : List (S74)) (r2 : Bool) (w : World) (h : impl_ReplaceOp.f k a0 a1 a2 = some (r1, r2)) :
  Calls Try.prog 26 #[.string a0, .string a1, .string a2] w fun e w' => ∃ v0_ : Value, e = .returned (.tuple #[v0_, .bool r2]) ∧ Kd.R k74 74 w' w.heap.size (fun _ => True) v0_ r1 ∧ Below w.heap.size w w' := by
 have HB := Aside0.mk (Below.refl w.heap.size w)
 have H : ((impl_isSought.f k a1).bind fun t271 => (if t271 = true then ((impl_areTexts.f k a0 a2).bind fun t272 => (impl_ReplaceOp.j0 k a0 a1 a2 (!t272))) else (impl_ReplaceOp.j0 k a0 a1 a2 true))) = some (r1, r2) := h
 clear h
 have HC4 := Aside0.mk H
 clear H
 go_enter Try.func26, Try.ntmps26
 go_upto_region 1 with (fail)
 go_cut [18] (fun v18 wc => ∃ (kq : Nat) (x18_3 : Bool), v18 = .bool x18_3 ∧ Aside0 (impl_ReplaceOp.j0 kq a0 a1 a2 x18_3 = some (r1, r2)) ∧ Aside0 (kq ≤ k) ∧ Aside0 (Below w.heap.size w wc))
 case first =>
  have H := HC4.out
  clear HC4
  replace H := Option.bind_eq_some_iff.mp H
  obtain ⟨t271, A50, H⟩ := H
  try dsimp only at H
  have A5 := Aside0.mk A50
  clear A50
  by_cases c6 : t271 = true
  ·subst c6
   rw [if_pos rfl] at H
   replace H := Option.bind_eq_some_iff.mp H
   obtain ⟨t272, A70, H⟩ := H
   try dsimp only at H
   have A7 := Aside0.mk A70
   clear A70
   have H' := Aside0.mk H
   clear H
   go_wp2_with (first | ((with_reducible refine gate_callee (f := 70) rfl ?_); refine goesL_ (some 11) rfl rfl Try.func70 z0 rfl #[.string a1] rfl z5 ?_; (with_reducible refine (impl_isSought.calls k a1 true _ A5.out).mono ?_); rintro e w' ⟨rfl, ⟨nd, rfl⟩⟩; refine ⟨_, rfl, ?_⟩) | (go_at_call 52; (with_reducible refine (impl_areTexts.calls k a0 a2 t272 _ A7.out).mono ?_); rintro e w' ⟨rfl, ⟨nd, rfl⟩⟩))
   go_meet
   case rel => exact ⟨_, (!t272), z1, H', ⟨by first | omega | exact Nat.le_refl _⟩, ⟨by repeat (first | (with_reducible first | exact HB.out | apply below_alloc | apply pw_below_drewN | apply below_drew1) | exact HB.out)⟩⟩
  ·replace c6 := Bool.eq_false_iff.mpr c6
   subst c6
   rw [if_neg (show ¬ (false = true) by decide)] at H
   have H' := Aside0.mk H
   clear H
   go_wp2_with (first | ((with_reducible refine gate_callee (f := 70) rfl ?_); refine goesL_ (some 11) rfl rfl Try.func70 z0 rfl #[.string a1] rfl z5 ?_; (with_reducible refine (impl_isSought.calls k a1 false _ A5.out).mono ?_); rintro e w' ⟨rfl, ⟨nd, rfl⟩⟩; refine ⟨_, rfl, ?_⟩))
   go_meet
   case rel => exact ⟨_, (true), z1, H', ⟨by first | omega | exact Nat.le_refl _⟩, ⟨by repeat (first | (with_reducible first | exact HB.out | apply below_alloc | apply pw_below_drewN | apply below_drew1) | exact HB.out)⟩⟩
 case rest =>
  clear HC4
  try clear c2
  try clear p2
  try clear c6
  try clear c7
  obtain ⟨kq, x18_3, rfl, HA, HJ3, HB⟩ := hcut
  cases kq with
  | zero => exact absurd HA.out (by simp [impl_ReplaceOp.j0])
  | succ kj3 =>
   have H := HA.out
   clear HA
   simp only [impl_ReplaceOp.j0] at H
   by_cases c8 : x18_3 = true
   ·subst c8
    rw [if_pos rfl] at H
    simp only [Option.some.injEq, Prod.mk.injEq] at H
    obtain ⟨rfl, rfl⟩ := H
    go_wp2
    go_ret2
    exact ⟨_, by first | rfl | (simp [errW_none, errW_some] <;> rfl) | (simp [*, errW_none, errW_some] <;> rfl), by first | exact Kd.R_nil _ _ _ _ _ | exact Kd.N_nil _ _ _ _ _ | exact Kd.V_nil _ _ _ _ _ | exact Kd.Q_nil _ _ _ _ _ | exact Kd.S_nil _ _ _ _ _, by repeat (first | (with_reducible first | exact HB.out | apply below_alloc | apply pw_below_drewN | apply below_drew1) | exact HB.out)⟩
   ·replace c8 := Bool.eq_false_iff.mpr c8
    subst c8
    rw [if_neg (show ¬ (false = true) by decide)] at H
    by_cases c9 : a2.toList = a1.toList
    ·rw [if_pos c9] at H
     have c9b0 : (a2.toList == a1.toList) = true := beq_iff_eq.mpr c9
     have c9b1 : (a2.toList != a1.toList) = false := bne_eq_false_iff_eq.mpr c9
     clear c9
     replace H := Option.bind_eq_some_iff.mp H
     obtain ⟨⟨t273, t274⟩, A100, H⟩ := H
     try dsimp only at H
     have A10 := Aside0.mk A100
     clear A100
     simp only [Option.some.injEq, Prod.mk.injEq] at H
     obtain ⟨rfl, rfl⟩ := H
     go_wp2_with (first | ((with_reducible refine gate_callee (f := 71) rfl ?_); refine goesL_ (some 24) rfl rfl Try.func71 z0 rfl #[.int .i64 (a0.size : Int)] rfl z5 ?_; (with_reducible refine (impl_KeepAll.calls (a0.size : Int) t273 t274 _ A10.out).mono ?_); rintro e w11 ⟨v275, rfl, ho0, hb⟩; refine ⟨_, rfl, ?_⟩; have n0_ := Aside0.mk (Kd.R_lower ho0 (below_size z4)); have n1_ := Aside0.mk (below_step z4 hb); clear HB; have HO276 := n0_; have HB := n1_; clear n0_ n1_; (try clear hb); (try clear hb2); (try clear hk); (try clear hi); (try clear ho0)))
     all_goals (try (exfalso; rename_i h_; rw [c9b0] at h_; cases h_; done))
     go_ret2
     exact ⟨_, by first | rfl | (simp [errW_none, errW_some] <;> rfl) | (simp [*, errW_none, errW_some] <;> rfl), by (with_reducible repeat (first | apply Kd.R_alloc | apply Kd.R_drewN | apply Kd.R_drew)); exact HO276.out, by repeat (first | (with_reducible first | exact HB.out | apply below_alloc | apply pw_below_drewN | apply below_drew1) | exact HB.out)⟩
    ·rw [if_neg c9] at H
     have c9b0 : (a2.toList == a1.toList) = false := beq_eq_false_iff_ne.mpr c9
     have c9b1 : (a2.toList != a1.toList) = true := bne_iff_ne.mpr c9
     replace H := Option.bind_eq_some_iff.mp H
     obtain ⟨⟨t277, t278⟩, A120, H⟩ := H
     try dsimp only at H
     have A12 := Aside0.mk A120
     clear A120
     by_cases c13 : (wrap64 ((a0.size : Int) + (wrap64 (t278 * (wrap64 ((a2.size : Int) - (a1.size : Int))))))) > 300
     ·rw [if_pos c13] at H
      have c13b0 : decide (300 < (wrap64 ((a0.size : Int) + (wrap64 (t278 * (wrap64 ((a2.size : Int) - (a1.size : Int)))))))) = true := decide_eq_true c13
      clear c13
      simp only [Option.some.injEq, Prod.mk.injEq] at H
      obtain ⟨rfl, rfl⟩ := H
      go_wp2_with (first | ((with_reducible refine gate_callee (f := 72) rfl ?_); refine goesL_ (some 31) rfl rfl Try.func72 z0 rfl #[.string a0, .string a1, .string a2] rfl z5 ?_; (with_reducible refine (impl_replace.calls kj3 a0 a1 a2 t277 t278 _ A12.out).mono ?_); rintro e w14 ⟨v279, rfl, ho0, hb⟩; refine ⟨_, rfl, ?_⟩; have n0_ := Aside0.mk (Kd.R_lower ho0 (below_size z4)); have n1_ := Aside0.mk (below_step z4 hb); clear HB; have HO280 := n0_; have HB := n1_; clear n0_ n1_; (try clear hb); (try clear hb2); (try clear hk); (try clear hi); (try clear ho0)))
      all_goals (try (exfalso; rename_i h_; rw [c9b0] at h_; cases h_; done))
      go_ret2
      exact ⟨_, by first | rfl | (simp [errW_none, errW_some] <;> rfl) | (simp [*, errW_none, errW_some] <;> rfl), by first | exact Kd.R_nil _ _ _ _ _ | exact Kd.N_nil _ _ _ _ _ | exact Kd.V_nil _ _ _ _ _ | exact Kd.Q_nil _ _ _ _ _ | exact Kd.S_nil _ _ _ _ _, by repeat (first | (with_reducible first | exact HB.out | apply below_alloc | apply pw_below_drewN | apply below_drew1) | exact HB.out)⟩
     ·rw [if_neg c13] at H
      have c13b0 : decide (300 < (wrap64 ((a0.size : Int) + (wrap64 (t278 * (wrap64 ((a2.size : Int) - (a1.size : Int)))))))) = false := decide_eq_false c13
      clear c13
      replace H := Option.bind_eq_some_iff.mp H
      obtain ⟨t281, A150, H⟩ := H
      try dsimp only at H
      have A15 := Aside0.mk A150
      clear A150
      replace H := Option.bind_eq_some_iff.mp H
      obtain ⟨⟨t284, t287⟩, A160, H⟩ := H
      try dsimp only at H
      have A16 := Aside0.mk A160
      clear A160
      simp only [Option.some.injEq, Prod.mk.injEq] at H
      obtain ⟨rfl, rfl⟩ := H
      go_wp2_with (first | ((with_reducible refine gate_callee (f := 72) rfl ?_); refine goesL_ (some 31) rfl rfl Try.func72 z0 rfl #[.string a0, .string a1, .string a2] rfl z5 ?_; (with_reducible refine (impl_replace.calls kj3 a0 a1 a2 t277 t278 _ A12.out).mono ?_); rintro e w17 ⟨v279, rfl, ho0, hb⟩; refine ⟨_, rfl, ?_⟩; have n0_ := Aside0.mk (Kd.R_lower ho0 (below_size z4)); have n1_ := Aside0.mk (below_step z4 hb); clear HB; have HO280 := n0_; have HB := n1_; clear n0_ n1_; (try clear hb); (try clear hb2); (try clear hk); (try clear hi); (try clear ho0); obtain ⟨Ao18, co18, eo18⟩ := Kd.R_slice HO280.out; subst eo18) | ((with_reducible refine gate_callee (f := 73) rfl ?_); refine goesL_ (some 46) rfl rfl Try.func73 z0 rfl #[.slice Ao18 t277.length co18] rfl z5 ?_; (with_reducible refine (impl_normal.calls _ _ t277 t281 _ ?side1 ?side2 A15.out).mono ?_); (case side1 => repeat (first | exact (Kd.R_reads' HO280.out).2.2 | (with_reducible refine Kd.C_alloc ?_ _) | (with_reducible refine Kd.C_drewN ?_ _) | (with_reducible refine Kd.C_drew ?_))); (case side2 => exact (Kd.R_reads' HO280.out).2.1); rintro e w19 ⟨v282, rfl, ho0, hb⟩; refine ⟨_, rfl, ?_⟩; have n0_ := Aside0.mk (Kd.R_elder' (by (with_reducible repeat (first | apply Kd.R_alloc | apply Kd.R_drewN | apply Kd.R_drew)); exact HO280.out) (Kd.R_base ho0) hb); have n1_ := Aside0.mk (Kd.R_lower (Kd.R_new' ho0 (Kd.R_lt (by (with_reducible repeat (first | apply Kd.R_alloc | apply Kd.R_drewN | apply Kd.R_drew)); exact HO280.out))) (below_size z4)); have n2_ := Aside0.mk (below_step z4 hb); clear HO280; clear HB; have HO280 := n0_; have HO283 := n1_; have HB := n2_; clear n0_ n1_ n2_; (try clear hb); (try clear hb2); (try clear hk); (try clear hi); (try clear ho0); obtain ⟨Ao20, co20, eo20⟩ := Kd.R_slice HO283.out; subst eo20) | ((with_reducible refine gate_callee (f := 56) rfl ?_); refine goesL_ (some 47) rfl rfl Try.func56 z0 rfl #[.slice Ao20 t281.length co20] rfl z5 ?_; (with_reducible refine (impl_goodOp.calls kj3 (fun k_ => some k_ = (.slice Ao20 t281.length co20 : Value).ownBlock) (.slice Ao20 t281.length co20) t281 t284 t287 w _ ?side1 ?side2 A16.out).mono ?_); (case side1 => repeat (first | (with_reducible first | exact HB.out | apply below_alloc | apply pw_below_drewN | apply below_drew1) | exact HB.out)); (case side2 => exact Kd.R_tight rfl HO283.out); rintro e w21 ⟨v285, rfl, ho0, hb, hkp⟩; refine ⟨_, rfl, ?_⟩; have n0_ := Aside0.mk (Kd.R_mono (ok' := fun k_ => some k_ ≠ (v285 : Value).ownBlock) (Kd.R_keptB (HO280.out) hkp (fun k_ hk_ hs_ => (hk_.2) hs_)) (fun k_ hk_ => fun e_ => Or.elim (ho0.1 k_ e_.symm) (fun hs_ => hk_.2.1 hs_) (fun hn_ => Nat.not_le.2 hk_.2.2 hn_))); have n1_ := Aside0.mk (Kd.R_mono (ok' := fun k_ => some k_ ≠ (.slice Ao18 t277.length co18 : Value).ownBlock) ho0 (fun k_ hk_ => Or.elim hk_ (fun hs_ => fun e_ => (((HO280.out).1 k_ e_.symm).2) hs_) (fun hn_ => (Kd.fresh' (Kd.R_lt (by (with_reducible repeat (first | apply Kd.R_alloc | apply Kd.R_drewN | apply Kd.R_drew)); exact HO280.out)) k_ hn_)))); have n2_ := Aside0.mk (hb); clear HO280; clear HB; clear HO283; have HO280 := n0_; have HO286 := n1_; have HB := n2_; clear n0_ n1_ n2_; (try clear hb); (try clear hkp); (try clear ho0)))
      all_goals (try (exfalso; rename_i h_; rw [c9b0] at h_; cases h_; done))
      go_ret2
      exact ⟨_, by first | rfl | (simp [errW_none, errW_some] <;> rfl) | (simp [*, errW_none, errW_some] <;> rfl), by (with_reducible repeat (first | apply Kd.R_alloc | apply Kd.R_drewN | apply Kd.R_drew)); exact Kd.R_mono HO286.out (fun _ hk => trivial), by repeat (first | (with_reducible first | exact HB.out | apply below_alloc | apply pw_below_drewN | apply below_drew1) | exact HB.out)⟩

end Go.Proofs.Ytpbelbckinpinaa.AFnReplaced
