-- this session's own text: written by wip/tools/ownprint.py over the kit's print
import Derived.Test.YtmkenlejdaphnaaAFnExactRebalancex0
import Derived.Test.YtmkenlejdaphnaaAFnExactRebalancex3
import Derived.Test.YtmkenlejdaphnaaAFnExactRebalancex4
namespace Go.Proofs.Ytmkenlejdaphnaa.AFnExactRebalance
open Go.RowKit Go.Proofs.YtmkenlejdaphnaaW.PrintWords Go.Proofs.YtmkenlejdaphnaaW.PrintLast Go.Proofs.YtmkenlejdaphnaaW.PrintMore
attribute [local go_sem] max2_int min2_int max_two min_two max_three min_three max_four min_four   -- for this text's walks alone
set_option linter.unusedVariables false
set_option linter.unusedSimpArgs false

/-! ### spec_l12First: function 46 -/
mutual
def spec_l12First.j0 : Nat → List (S58) → Int → Bool → Int → Int → ByteArray → Int → Int → Option (Int)
 | 0, _, _, _, _, _, _, _, _ => none
 | k + 1, x0, x1, x19, x157000, x157001, x157002, x157003, x157004 => if x19 = true then ((spec_l1In.f (x157002.size : Int) 1 8).bind fun t157 => (if t157 = true then ((spec_l1Text.f k x157002).bind fun t158 => (if t158 = true then (if x157003 = (x157002.size : Int) then (if x157004 = 0 then (some x1) else (some (-1))) else (some (-1))) else (some (-1)))) else (some (-1)))) else (if x157002.toList = ([] : List UInt8) then (if x157001 = (wrap64 (x1 - 1)) then (spec_l12First.j1 k x0 x1 (decide (x1 < 2)) x157000 x157001 x157002 x157003 x157004) else (spec_l12First.j1 k x0 x1 true x157000 x157001 x157002 x157003 x157004)) else (spec_l12First.j1 k x0 x1 true x157000 x157001 x157002 x157003 x157004))
def spec_l12First.j1 : Nat → List (S58) → Int → Bool → Int → Int → ByteArray → Int → Int → Option (Int)
 | 0, _, _, _, _, _, _, _, _ => none
 | k + 1, x0, x1, x58, x157000, x157001, x157002, x157003, x157004 => if x58 = true then (some (-1)) else ((spec_l12First.f k x0 (wrap64 (x1 - 1))).bind fun t159 => (if t159 < 1 then (spec_l12First.j2 k x0 true x157000 x157001 x157002 x157003 x157004) else (spec_l12First.j2 k x0 (x157000 != (wrap64 (t159 - 1))) x157000 x157001 x157002 x157003 x157004)))
def spec_l12First.j2 : Nat → List (S58) → Bool → Int → Int → ByteArray → Int → Int → Option (Int)
 | 0, _, _, _, _, _, _, _ => none
 | k + 1, x0, x71, x157000, x157001, x157002, x157003, x157004 => if x71 = true then (some (-1)) else (if 0 ≤ x157000 then (if x157000 < (x0.length : Int) then (if 0 ≤ x157001 then (if x157001 < (x0.length : Int) then (if ((rd_T58 x0 x157001).f4) > ((rd_T58 x0 x157000).f4) then (if x157003 = (wrap64 (((rd_T58 x0 x157000).f3) + ((rd_T58 x0 x157001).f3))) then (if x157004 = (wrap64 (((rd_T58 x0 x157001).f4) + 1)) then ((spec_l12First.f k x0 x157000).bind fun t165 => (some t165)) else (some (-1))) else (some (-1))) else (if x157003 = (wrap64 (((rd_T58 x0 x157000).f3) + ((rd_T58 x0 x157001).f3))) then (if x157004 = (wrap64 (((rd_T58 x0 x157000).f4) + 1)) then ((spec_l12First.f k x0 x157000).bind fun t168 => (some t168)) else (some (-1))) else (some (-1)))) else (none)) else (none)) else (none)) else (none))
def spec_l12First.f : Nat → List (S58) → Int → Option (Int)
 | 0, _, _ => none
 | k + 1, l0, a1 => if 0 ≤ a1 then (if a1 < (l0.length : Int) then (if ((rd_T58 l0 a1).f0) = (-1) then (spec_l12First.j0 k l0 a1 (((rd_T58 l0 a1).f1) == (-1)) ((rd_T58 l0 a1).f0) ((rd_T58 l0 a1).f1) ((rd_T58 l0 a1).f2) ((rd_T58 l0 a1).f3) ((rd_T58 l0 a1).f4)) else (spec_l12First.j0 k l0 a1 false ((rd_T58 l0 a1).f0) ((rd_T58 l0 a1).f1) ((rd_T58 l0 a1).f2) ((rd_T58 l0 a1).f3) ((rd_T58 l0 a1).f4))) else (none)) else (none)
end
theorem spec_l12First.mono_l : ∀ k, (∀ y0 y1, LeO (spec_l12First.f k y0 y1) (spec_l12First.f (k + 1) y0 y1)) ∧ (∀ y0 y1 y2 y3 y4 y5 y6 y7, LeO (spec_l12First.j0 k y0 y1 y2 y3 y4 y5 y6 y7) (spec_l12First.j0 (k + 1) y0 y1 y2 y3 y4 y5 y6 y7)) ∧ (∀ y0 y1 y2 y3 y4 y5 y6 y7, LeO (spec_l12First.j1 k y0 y1 y2 y3 y4 y5 y6 y7) (spec_l12First.j1 (k + 1) y0 y1 y2 y3 y4 y5 y6 y7)) ∧ (∀ y0 y1 y2 y3 y4 y5 y6, LeO (spec_l12First.j2 k y0 y1 y2 y3 y4 y5 y6) (spec_l12First.j2 (k + 1) y0 y1 y2 y3 y4 y5 y6))
 | 0 => ⟨fun _ _ r h => by simp [spec_l12First.f] at h, fun _ _ _ _ _ _ _ _ r h => by simp [spec_l12First.j0] at h, fun _ _ _ _ _ _ _ _ r h => by simp [spec_l12First.j1] at h, fun _ _ _ _ _ _ _ r h => by simp [spec_l12First.j2] at h⟩
 | k + 1 => by
  obtain ⟨ih0, ih1, ih2, ih3⟩ := spec_l12First.mono_l k
  refine ⟨?_, ?_, ?_, ?_⟩
  ·intro y0 y1
   unfold spec_l12First.f
   repeat' first
   | (with_reducible exact ih0 _ _)
   | (with_reducible exact ih1 _ _ _ _ _ _ _ _)
   | (with_reducible exact ih2 _ _ _ _ _ _ _ _)
   | (with_reducible exact ih3 _ _ _ _ _ _ _)
   | (with_reducible exact spec_l1Text.mono _ _)
   | (with_reducible exact LeO.refl _)
   | (with_reducible exact LeO.none _)
   | (with_reducible refine LeO.ite ?_ ?_)
   | (with_reducible refine LeO.bind ?_ (fun _ => ?_))
   | exact ih0 _ _
   | exact ih1 _ _ _ _ _ _ _ _
   | exact ih2 _ _ _ _ _ _ _ _
   | exact ih3 _ _ _ _ _ _ _
   | exact spec_l1Text.mono _ _
   | exact LeO.none _
   | refine LeO.ite ?_ ?_
   | refine LeO.bind ?_ (fun _ => ?_)
  ·intro y0 y1 y2 y3 y4 y5 y6 y7
   unfold spec_l12First.j0
   repeat' first
   | (with_reducible exact ih0 _ _)
   | (with_reducible exact ih1 _ _ _ _ _ _ _ _)
   | (with_reducible exact ih2 _ _ _ _ _ _ _ _)
   | (with_reducible exact ih3 _ _ _ _ _ _ _)
   | (with_reducible exact spec_l1Text.mono _ _)
   | (with_reducible exact LeO.refl _)
   | (with_reducible exact LeO.none _)
   | (with_reducible refine LeO.ite ?_ ?_)
   | (with_reducible refine LeO.bind ?_ (fun _ => ?_))
   | exact ih0 _ _
   | exact ih1 _ _ _ _ _ _ _ _
   | exact ih2 _ _ _ _ _ _ _ _
   | exact ih3 _ _ _ _ _ _ _
   | exact spec_l1Text.mono _ _
   | exact LeO.none _
   | refine LeO.ite ?_ ?_
   | refine LeO.bind ?_ (fun _ => ?_)
  ·intro y0 y1 y2 y3 y4 y5 y6 y7
   unfold spec_l12First.j1
   repeat' first
   | (with_reducible exact ih0 _ _)
   | (with_reducible exact ih1 _ _ _ _ _ _ _ _)
   | (with_reducible exact ih2 _ _ _ _ _ _ _ _)
   | (with_reducible exact ih3 _ _ _ _ _ _ _)
   | (with_reducible exact spec_l1Text.mono _ _)
   | (with_reducible exact LeO.refl _)
   | (with_reducible exact LeO.none _)
   | (with_reducible refine LeO.ite ?_ ?_)
   | (with_reducible refine LeO.bind ?_ (fun _ => ?_))
   | exact ih0 _ _
   | exact ih1 _ _ _ _ _ _ _ _
   | exact ih2 _ _ _ _ _ _ _ _
   | exact ih3 _ _ _ _ _ _ _
   | exact spec_l1Text.mono _ _
   | exact LeO.none _
   | refine LeO.ite ?_ ?_
   | refine LeO.bind ?_ (fun _ => ?_)
  ·intro y0 y1 y2 y3 y4 y5 y6
   unfold spec_l12First.j2
   repeat' first
   | (with_reducible exact ih0 _ _)
   | (with_reducible exact ih1 _ _ _ _ _ _ _ _)
   | (with_reducible exact ih2 _ _ _ _ _ _ _ _)
   | (with_reducible exact ih3 _ _ _ _ _ _ _)
   | (with_reducible exact spec_l1Text.mono _ _)
   | (with_reducible exact LeO.refl _)
   | (with_reducible exact LeO.none _)
   | (with_reducible refine LeO.ite ?_ ?_)
   | (with_reducible refine LeO.bind ?_ (fun _ => ?_))
   | exact ih0 _ _
   | exact ih1 _ _ _ _ _ _ _ _
   | exact ih2 _ _ _ _ _ _ _ _
   | exact ih3 _ _ _ _ _ _ _
   | exact spec_l1Text.mono _ _
   | exact LeO.none _
   | refine LeO.ite ?_ ?_
   | refine LeO.bind ?_ (fun _ => ?_)
theorem spec_l12First.mono : ∀ a0 a1 k, LeO (spec_l12First.f k a0 a1) (spec_l12First.f (k + 1) a0 a1) := by
 intro a0 a1 k
 obtain ⟨ih0, ih1, ih2, ih3⟩ := spec_l12First.mono_l k
 exact ih0 a0 a1
set_option maxHeartbeats 8000000 in
set_option maxRecDepth 100000 in
theorem spec_l12First.calls (k : Nat) : ∀ (A0 : Option Addr) (c0 : Nat) (l0 : List (S58)) (a1 : Int) (r : Int) (w : World) (hr0 : Kd.C k58 w A0 l0.length l0) (hc0 : l0.length ≤ c0) (h : spec_l12First.f k l0 a1 = some r),
  Calls Try.prog 46 #[.slice A0 l0.length c0, .int .i64 a1] w fun e w' => e = .returned (.int .i64 r) ∧ Below w.heap.size w w' := by
 induction k using Nat.strongRecOn with
 | _ k ih =>
 intro A0 c0 l0 a1 r w hr0 hc0 h
 cases k with
 | zero => exact absurd h (by simp [spec_l12First.f])
 | succ k =>
 simp only [spec_l12First.f] at h
 have hu58 := Try.underlying58
 have HR0 := Aside0.mk hr0
 have HC0 := Aside0.mk hc0
 clear hr0 hc0
 have HB := Aside0.mk (Below.refl w.heap.size w)
 have H : (if 0 ≤ a1 then (if a1 < (l0.length : Int) then (if ((rd_T58 l0 a1).f0) = (-1) then (spec_l12First.j0 k l0 a1 (((rd_T58 l0 a1).f1) == (-1)) ((rd_T58 l0 a1).f0) ((rd_T58 l0 a1).f1) ((rd_T58 l0 a1).f2) ((rd_T58 l0 a1).f3) ((rd_T58 l0 a1).f4)) else (spec_l12First.j0 k l0 a1 false ((rd_T58 l0 a1).f0) ((rd_T58 l0 a1).f1) ((rd_T58 l0 a1).f2) ((rd_T58 l0 a1).f3) ((rd_T58 l0 a1).f4))) else (none)) else (none)) = some r := h
 clear h
 by_cases c3 : 0 ≤ a1
 ·rw [if_pos c3] at H
  have c3b0 : decide (0 ≤ a1) = true := decide_eq_true c3
  clear c3
  by_cases c4 : a1 < (l0.length : Int)
  ·rw [if_pos c4] at H
   have c4b0 : decide (a1 < (l0.length : Int)) = true := decide_eq_true c4
   clear c4
   have HC5 := Aside0.mk H
   clear H
   have p155 : 0 ≤ (a1 : Int) := of_decide_eq_true z2
   have q155 : a1 < (l0.length : Int) := of_decide_eq_true z2
   obtain ⟨ad155, e155, hx155_0, hx155_1, hx155_2, hx155_3, hx155_4⟩ := at_T58 HR0.out a1 p155 q155
   cases e155
   replace p155 := eq_true p155
   replace q155 := eq_true q155
   go_enter Try.func46, Try.ntmps46
   go_upto_region 2 with (first | ((with_reducible refine gate_dst (N := 5) rfl ?_); (try (refine gate_guard (by rfl) ?_; dsimp only)); refine box_event ?hg (N := 5) ?hd (cs := #[.int .i64 0, .int .i64 0, .string (⟨#[]⟩ : ByteArray), .int .i64 0, .int .i64 0]) (t := 58) ?hr ?_; (case hd => rfl); (case hg => rfl); (case hr => first | (go_simp; done) | (go_simp; rfl)); intro gb156 hg w6 hbox hb; have n0_ := Aside0.mk (below_step z12 hb); have n1_ := Aside0.mk (hbox); have n2_ := Aside0.mk ((by rw [hg]; exact (below_size z12) : w.heap.size ≤ gb156)); have n3_ := Aside0.mk ((by rw [hg]; exact (below_size z12) : w.heap.size ≤ gb156)); clear HB; have HB := n0_; have BK156 := n1_; have GW156 := n2_; have GE156 := n3_; clear n0_ n1_ n2_ n3_; clear hb hbox hg; have hcz7_0 : w6.cell? ⟨gb156, 0, none⟩ = some (.int .i64 0) := (blk_cell BK156.out 0).trans rfl; have hcz7_1 : w6.cell? ⟨gb156, 1, none⟩ = some (.int .i64 0) := (blk_cell BK156.out 1).trans rfl; have hcz7_2 : w6.cell? ⟨gb156, 2, none⟩ = some (.string (⟨#[]⟩ : ByteArray)) := (blk_cell BK156.out 2).trans rfl; have hcz7_3 : w6.cell? ⟨gb156, 3, none⟩ = some (.int .i64 0) := (blk_cell BK156.out 3).trans rfl; have hcz7_4 : w6.cell? ⟨gb156, 4, none⟩ = some (.int .i64 0) := (blk_cell BK156.out 4).trans rfl; have hfz7_0 := blk_frozen BK156.out 0; have hfz7_1 := blk_frozen BK156.out 1; have hfz7_2 := blk_frozen BK156.out 2; have hfz7_3 := blk_frozen BK156.out 3; have hfz7_4 := blk_frozen BK156.out 4))
   repeat (go_quiet (first | ((with_reducible refine gate_dst (N := 5) rfl ?_); (try (refine gate_guard (by rfl) ?_; dsimp only)); refine box_event ?hg (N := 5) ?hd (cs := #[.int .i64 0, .int .i64 0, .string (⟨#[]⟩ : ByteArray), .int .i64 0, .int .i64 0]) (t := 58) ?hr ?_; (case hd => rfl); (case hg => rfl); (case hr => first | (go_simp; done) | (go_simp; rfl)); intro gb156 hg w6 hbox hb; have n0_ := Aside0.mk (below_step z12 hb); have n1_ := Aside0.mk (hbox); have n2_ := Aside0.mk ((by rw [hg]; exact (below_size z12) : w.heap.size ≤ gb156)); have n3_ := Aside0.mk ((by rw [hg]; exact (below_size z12) : w.heap.size ≤ gb156)); clear HB; have HB := n0_; have BK156 := n1_; have GW156 := n2_; have GE156 := n3_; clear n0_ n1_ n2_ n3_; clear hb hbox hg; have hcz7_0 : w6.cell? ⟨gb156, 0, none⟩ = some (.int .i64 0) := (blk_cell BK156.out 0).trans rfl; have hcz7_1 : w6.cell? ⟨gb156, 1, none⟩ = some (.int .i64 0) := (blk_cell BK156.out 1).trans rfl; have hcz7_2 : w6.cell? ⟨gb156, 2, none⟩ = some (.string (⟨#[]⟩ : ByteArray)) := (blk_cell BK156.out 2).trans rfl; have hcz7_3 : w6.cell? ⟨gb156, 3, none⟩ = some (.int .i64 0) := (blk_cell BK156.out 3).trans rfl; have hcz7_4 : w6.cell? ⟨gb156, 4, none⟩ = some (.int .i64 0) := (blk_cell BK156.out 4).trans rfl; have hfz7_0 := blk_frozen BK156.out 0; have hfz7_1 := blk_frozen BK156.out 1; have hfz7_2 := blk_frozen BK156.out 2; have hfz7_3 := blk_frozen BK156.out 3; have hfz7_4 := blk_frozen BK156.out 4)); go_upto_region 2 with (first | ((with_reducible refine gate_dst (N := 5) rfl ?_); (try (refine gate_guard (by rfl) ?_; dsimp only)); refine box_event ?hg (N := 5) ?hd (cs := #[.int .i64 0, .int .i64 0, .string (⟨#[]⟩ : ByteArray), .int .i64 0, .int .i64 0]) (t := 58) ?hr ?_; (case hd => rfl); (case hg => rfl); (case hr => first | (go_simp; done) | (go_simp; rfl)); intro gb156 hg w6 hbox hb; have n0_ := Aside0.mk (below_step z12 hb); have n1_ := Aside0.mk (hbox); have n2_ := Aside0.mk ((by rw [hg]; exact (below_size z12) : w.heap.size ≤ gb156)); have n3_ := Aside0.mk ((by rw [hg]; exact (below_size z12) : w.heap.size ≤ gb156)); clear HB; have HB := n0_; have BK156 := n1_; have GW156 := n2_; have GE156 := n3_; clear n0_ n1_ n2_ n3_; clear hb hbox hg; have hcz7_0 : w6.cell? ⟨gb156, 0, none⟩ = some (.int .i64 0) := (blk_cell BK156.out 0).trans rfl; have hcz7_1 : w6.cell? ⟨gb156, 1, none⟩ = some (.int .i64 0) := (blk_cell BK156.out 1).trans rfl; have hcz7_2 : w6.cell? ⟨gb156, 2, none⟩ = some (.string (⟨#[]⟩ : ByteArray)) := (blk_cell BK156.out 2).trans rfl; have hcz7_3 : w6.cell? ⟨gb156, 3, none⟩ = some (.int .i64 0) := (blk_cell BK156.out 3).trans rfl; have hcz7_4 : w6.cell? ⟨gb156, 4, none⟩ = some (.int .i64 0) := (blk_cell BK156.out 4).trans rfl; have hfz7_0 := blk_frozen BK156.out 0; have hfz7_1 := blk_frozen BK156.out 1; have hfz7_2 := blk_frozen BK156.out 2; have hfz7_3 := blk_frozen BK156.out 3; have hfz7_4 := blk_frozen BK156.out 4)))
   (try simp only [Act.put, List.setIfInBounds_toArray, List.set_cons_zero, List.set_cons_succ])
   go_cut [19] (fun v19 wc => ∃ (kq : Nat) (x19_4 : Bool), v19 = .bool x19_4 ∧ Aside0 (spec_l12First.j0 kq l0 a1 x19_4 ((rd_T58 l0 a1).f0) ((rd_T58 l0 a1).f1) ((rd_T58 l0 a1).f2) ((rd_T58 l0 a1).f3) ((rd_T58 l0 a1).f4) = some r) ∧ Aside0 (kq ≤ k) ∧ Aside0 (wc.heap[gb156]? = some (.cells #[.int .i64 ((rd_T58 l0 a1).f0), .int .i64 ((rd_T58 l0 a1).f1), .string ((rd_T58 l0 a1).f2), .int .i64 ((rd_T58 l0 a1).f3), .int .i64 ((rd_T58 l0 a1).f4)] 58 (0, 0))) ∧ Aside0 (Below w.heap.size w wc))
   case first =>
    have H := HC5.out
    clear HC5
    by_cases c8 : ((rd_T58 l0 a1).f0) = (-1)
    ·rw [if_pos c8] at H
     have c8b0 : (((rd_T58 l0 a1).f0) == (-1)) = true := beq_iff_eq.mpr c8
     have c8b1 : (((rd_T58 l0 a1).f0) != (-1)) = false := bne_eq_false_iff_eq.mpr c8
     clear c8
     (first | rw [c8b0] | (simp only [i64_w, i32_w]; rw [c8b0]) | skip)
     have H' := Aside0.mk H
     clear H
     have hcz9_0 : w6.cell? ⟨gb156, 0, none⟩ = some (.int .i64 0) := (blk_cell BK156.out 0).trans rfl
     have hcz9_1 : w6.cell? ⟨gb156, 1, none⟩ = some (.int .i64 0) := (blk_cell BK156.out 1).trans rfl
     have hcz9_2 : w6.cell? ⟨gb156, 2, none⟩ = some (.string (⟨#[]⟩ : ByteArray)) := (blk_cell BK156.out 2).trans rfl
     have hcz9_3 : w6.cell? ⟨gb156, 3, none⟩ = some (.int .i64 0) := (blk_cell BK156.out 3).trans rfl
     have hcz9_4 : w6.cell? ⟨gb156, 4, none⟩ = some (.int .i64 0) := (blk_cell BK156.out 4).trans rfl
     have hfz9_0 := blk_frozen BK156.out 0
     have hfz9_1 := blk_frozen BK156.out 1
     have hfz9_2 := blk_frozen BK156.out 2
     have hfz9_3 := blk_frozen BK156.out 3
     have hfz9_4 := blk_frozen BK156.out 4
     go_wp2
     repeat (go_quiet (fail); try go_wp2)
     go_meet
     case rel => exact ⟨_, ((((rd_T58 l0 a1).f1) == (-1))), z1, H', ⟨by first | omega | exact Nat.le_refl _⟩, ⟨by (with_reducible repeat (first | refine blk_drewN ?_ _ | refine blk_drew ?_ | refine blk_alloc ?_ _)); refine blk_put (cs := #[.int .i64 ((rd_T58 l0 a1).f0), .int .i64 ((rd_T58 l0 a1).f1), .string ((rd_T58 l0 a1).f2), .int .i64 ((rd_T58 l0 a1).f3), .int .i64 0]) ?_ 4 _ rfl; (with_reducible repeat (first | refine blk_drewN ?_ _ | refine blk_drew ?_ | refine blk_alloc ?_ _)); refine blk_put (cs := #[.int .i64 ((rd_T58 l0 a1).f0), .int .i64 ((rd_T58 l0 a1).f1), .string ((rd_T58 l0 a1).f2), .int .i64 0, .int .i64 0]) ?_ 3 _ rfl; (with_reducible repeat (first | refine blk_drewN ?_ _ | refine blk_drew ?_ | refine blk_alloc ?_ _)); refine blk_put (cs := #[.int .i64 ((rd_T58 l0 a1).f0), .int .i64 ((rd_T58 l0 a1).f1), .string (⟨#[]⟩ : ByteArray), .int .i64 0, .int .i64 0]) ?_ 2 _ rfl; (with_reducible repeat (first | refine blk_drewN ?_ _ | refine blk_drew ?_ | refine blk_alloc ?_ _)); refine blk_put (cs := #[.int .i64 ((rd_T58 l0 a1).f0), .int .i64 0, .string (⟨#[]⟩ : ByteArray), .int .i64 0, .int .i64 0]) ?_ 1 _ rfl; (with_reducible repeat (first | refine blk_drewN ?_ _ | refine blk_drew ?_ | refine blk_alloc ?_ _)); refine blk_put (cs := #[.int .i64 0, .int .i64 0, .string (⟨#[]⟩ : ByteArray), .int .i64 0, .int .i64 0]) ?_ 0 _ rfl; (with_reducible repeat (first | refine blk_drewN ?_ _ | refine blk_drew ?_ | refine blk_alloc ?_ _)); exact BK156.out⟩, ⟨by repeat (first | (with_reducible first | exact HB.out | apply below_alloc | apply pw_below_drewN | apply below_drew1 | refine below_set ?_ GE156.out) | exact HB.out)⟩⟩
    ·rw [if_neg c8] at H
     have c8b0 : (((rd_T58 l0 a1).f0) == (-1)) = false := beq_eq_false_iff_ne.mpr c8
     have c8b1 : (((rd_T58 l0 a1).f0) != (-1)) = true := bne_iff_ne.mpr c8
     (first | rw [c8b0] | (simp only [i64_w, i32_w]; rw [c8b0]) | skip)
     have H' := Aside0.mk H
     clear H
     have hcz10_0 : w6.cell? ⟨gb156, 0, none⟩ = some (.int .i64 0) := (blk_cell BK156.out 0).trans rfl
     have hcz10_1 : w6.cell? ⟨gb156, 1, none⟩ = some (.int .i64 0) := (blk_cell BK156.out 1).trans rfl
     have hcz10_2 : w6.cell? ⟨gb156, 2, none⟩ = some (.string (⟨#[]⟩ : ByteArray)) := (blk_cell BK156.out 2).trans rfl
     have hcz10_3 : w6.cell? ⟨gb156, 3, none⟩ = some (.int .i64 0) := (blk_cell BK156.out 3).trans rfl
     have hcz10_4 : w6.cell? ⟨gb156, 4, none⟩ = some (.int .i64 0) := (blk_cell BK156.out 4).trans rfl
     have hfz10_0 := blk_frozen BK156.out 0
     have hfz10_1 := blk_frozen BK156.out 1
     have hfz10_2 := blk_frozen BK156.out 2
     have hfz10_3 := blk_frozen BK156.out 3
     have hfz10_4 := blk_frozen BK156.out 4
     go_wp2
     repeat (go_quiet (fail); try go_wp2)
     go_meet
     case rel => exact ⟨_, (false), z1, H', ⟨by first | omega | exact Nat.le_refl _⟩, ⟨by (with_reducible repeat (first | refine blk_drewN ?_ _ | refine blk_drew ?_ | refine blk_alloc ?_ _)); refine blk_put (cs := #[.int .i64 ((rd_T58 l0 a1).f0), .int .i64 ((rd_T58 l0 a1).f1), .string ((rd_T58 l0 a1).f2), .int .i64 ((rd_T58 l0 a1).f3), .int .i64 0]) ?_ 4 _ rfl; (with_reducible repeat (first | refine blk_drewN ?_ _ | refine blk_drew ?_ | refine blk_alloc ?_ _)); refine blk_put (cs := #[.int .i64 ((rd_T58 l0 a1).f0), .int .i64 ((rd_T58 l0 a1).f1), .string ((rd_T58 l0 a1).f2), .int .i64 0, .int .i64 0]) ?_ 3 _ rfl; (with_reducible repeat (first | refine blk_drewN ?_ _ | refine blk_drew ?_ | refine blk_alloc ?_ _)); refine blk_put (cs := #[.int .i64 ((rd_T58 l0 a1).f0), .int .i64 ((rd_T58 l0 a1).f1), .string (⟨#[]⟩ : ByteArray), .int .i64 0, .int .i64 0]) ?_ 2 _ rfl; (with_reducible repeat (first | refine blk_drewN ?_ _ | refine blk_drew ?_ | refine blk_alloc ?_ _)); refine blk_put (cs := #[.int .i64 ((rd_T58 l0 a1).f0), .int .i64 0, .string (⟨#[]⟩ : ByteArray), .int .i64 0, .int .i64 0]) ?_ 1 _ rfl; (with_reducible repeat (first | refine blk_drewN ?_ _ | refine blk_drew ?_ | refine blk_alloc ?_ _)); refine blk_put (cs := #[.int .i64 0, .int .i64 0, .string (⟨#[]⟩ : ByteArray), .int .i64 0, .int .i64 0]) ?_ 0 _ rfl; (with_reducible repeat (first | refine blk_drewN ?_ _ | refine blk_drew ?_ | refine blk_alloc ?_ _)); exact BK156.out⟩, ⟨by repeat (first | (with_reducible first | exact HB.out | apply below_alloc | apply pw_below_drewN | apply below_drew1 | refine below_set ?_ GE156.out) | exact HB.out)⟩⟩
   case rest =>
    clear HC5
    try clear p1
    try clear q1
    try clear hx1
    try clear p2
    try clear c3
    try clear c3b0
    try clear c4
    try clear c4b0
    try clear c8
    try clear c8b0
    try clear c8b1
    try clear hcz10_0
    try clear hcz10_1
    try clear hcz10_2
    try clear hcz10_3
    try clear hcz10_4
    try clear hcz7_0
    try clear hcz7_1
    try clear hcz7_2
    try clear hcz7_3
    try clear hcz7_4
    try clear hcz9_0
    try clear hcz9_1
    try clear hcz9_2
    try clear hcz9_3
    try clear hcz9_4
    try clear hfz10_0
    try clear hfz10_1
    try clear hfz10_2
    try clear hfz10_3
    try clear hfz10_4
    try clear hfz7_0
    try clear hfz7_1
    try clear hfz7_2
    try clear hfz7_3
    try clear hfz7_4
    try clear hfz9_0
    try clear hfz9_1
    try clear hfz9_2
    try clear hfz9_3
    try clear hfz9_4
    try clear hx155_0
    try clear hx155_1
    try clear hx155_2
    try clear hx155_3
    try clear hx155_4
    try clear p155
    try clear q155
    obtain ⟨kq, x19_4, rfl, HA, HJ4, BK156, HB⟩ := hcut
    cases kq with
    | zero => exact absurd HA.out (by simp [spec_l12First.j0])
    | succ kj4 =>
     have H := HA.out
     clear HA
     simp only [spec_l12First.j0] at H
     by_cases c11 : x19_4 = true
     ·subst c11
      rw [if_pos rfl] at H
      replace H := Option.bind_eq_some_iff.mp H
      obtain ⟨t157, A120, H⟩ := H
      try dsimp only at H
      have A12 := Aside0.mk A120
      clear A120
      by_cases c13 : t157 = true
      ·subst c13
       rw [if_pos rfl] at H
       replace H := Option.bind_eq_some_iff.mp H
       obtain ⟨t158, A140, H⟩ := H
       try dsimp only at H
       have A14 := Aside0.mk A140
       clear A140
       by_cases c15 : t158 = true
       ·subst c15
        rw [if_pos rfl] at H
        by_cases c16 : ((rd_T58 l0 a1).f3) = (((rd_T58 l0 a1).f2).size : Int)
        ·rw [if_pos c16] at H
         have c16b0 : (((rd_T58 l0 a1).f3) == (((rd_T58 l0 a1).f2).size : Int)) = true := beq_iff_eq.mpr c16
         have c16b1 : (((rd_T58 l0 a1).f3) != (((rd_T58 l0 a1).f2).size : Int)) = false := bne_eq_false_iff_eq.mpr c16
         clear c16
         by_cases c17 : ((rd_T58 l0 a1).f4) = 0
         ·rw [if_pos c17] at H
          have c17b0 : (((rd_T58 l0 a1).f4) == 0) = true := beq_iff_eq.mpr c17
          have c17b1 : (((rd_T58 l0 a1).f4) != 0) = false := bne_eq_false_iff_eq.mpr c17
          clear c17
          obtain rfl := Option.some.inj H
          have hcz18_0 : wc.cell? ⟨gb156, 0, none⟩ = some (.int .i64 ((rd_T58 l0 a1).f0)) := (blk_cell BK156.out 0).trans rfl
          have hcz18_1 : wc.cell? ⟨gb156, 1, none⟩ = some (.int .i64 ((rd_T58 l0 a1).f1)) := (blk_cell BK156.out 1).trans rfl
          have hcz18_2 : wc.cell? ⟨gb156, 2, none⟩ = some (.string ((rd_T58 l0 a1).f2)) := (blk_cell BK156.out 2).trans rfl
          have hcz18_3 : wc.cell? ⟨gb156, 3, none⟩ = some (.int .i64 ((rd_T58 l0 a1).f3)) := (blk_cell BK156.out 3).trans rfl
          have hcz18_4 : wc.cell? ⟨gb156, 4, none⟩ = some (.int .i64 ((rd_T58 l0 a1).f4)) := (blk_cell BK156.out 4).trans rfl
          have hfz18_0 := blk_frozen BK156.out 0
          have hfz18_1 := blk_frozen BK156.out 1
          have hfz18_2 := blk_frozen BK156.out 2
          have hfz18_3 := blk_frozen BK156.out 3
          have hfz18_4 := blk_frozen BK156.out 4
          go_wp2_with (first | (go_at_call 50; (with_reducible refine (spec_l1In.calls (((rd_T58 l0 a1).f2).size : Int) 1 8 true _ A12.out).mono ?_); rintro e w' ⟨rfl, ⟨nd, rfl⟩⟩; (try first | exact ⟨rfl, _, World.drewN_drewN _ _ _⟩ | exact ⟨rfl, _, Eq.trans (World.drewN_drewN _ _ _) (congrArg (World.drewN _) (Nat.add_assoc _ _ _))⟩)) | (go_at_call 76; (with_reducible refine (spec_l1Text.calls kj4 ((rd_T58 l0 a1).f2) true _ A14.out).mono ?_); rintro e w' ⟨rfl, ⟨nd, rfl⟩⟩; (try first | exact ⟨rfl, _, World.drewN_drewN _ _ _⟩ | exact ⟨rfl, _, Eq.trans (World.drewN_drewN _ _ _) (congrArg (World.drewN _) (Nat.add_assoc _ _ _))⟩)))
          repeat (go_quiet (first | (go_at_call 50; (with_reducible refine (spec_l1In.calls (((rd_T58 l0 a1).f2).size : Int) 1 8 true _ A12.out).mono ?_); rintro e w' ⟨rfl, ⟨nd, rfl⟩⟩; (try first | exact ⟨rfl, _, World.drewN_drewN _ _ _⟩ | exact ⟨rfl, _, Eq.trans (World.drewN_drewN _ _ _) (congrArg (World.drewN _) (Nat.add_assoc _ _ _))⟩)) | (go_at_call 76; (with_reducible refine (spec_l1Text.calls kj4 ((rd_T58 l0 a1).f2) true _ A14.out).mono ?_); rintro e w' ⟨rfl, ⟨nd, rfl⟩⟩; (try first | exact ⟨rfl, _, World.drewN_drewN _ _ _⟩ | exact ⟨rfl, _, Eq.trans (World.drewN_drewN _ _ _) (congrArg (World.drewN _) (Nat.add_assoc _ _ _))⟩))); try go_wp2_with (first | (go_at_call 50; (with_reducible refine (spec_l1In.calls (((rd_T58 l0 a1).f2).size : Int) 1 8 true _ A12.out).mono ?_); rintro e w' ⟨rfl, ⟨nd, rfl⟩⟩; (try first | exact ⟨rfl, _, World.drewN_drewN _ _ _⟩ | exact ⟨rfl, _, Eq.trans (World.drewN_drewN _ _ _) (congrArg (World.drewN _) (Nat.add_assoc _ _ _))⟩)) | (go_at_call 76; (with_reducible refine (spec_l1Text.calls kj4 ((rd_T58 l0 a1).f2) true _ A14.out).mono ?_); rintro e w' ⟨rfl, ⟨nd, rfl⟩⟩; (try first | exact ⟨rfl, _, World.drewN_drewN _ _ _⟩ | exact ⟨rfl, _, Eq.trans (World.drewN_drewN _ _ _) (congrArg (World.drewN _) (Nat.add_assoc _ _ _))⟩))))
          go_ret
          exact ⟨by first | rfl | (simp [errW_none, errW_some] <;> rfl) | (simp [*, errW_none, errW_some] <;> rfl), by repeat (first | (with_reducible first | exact HB.out | apply below_alloc | apply pw_below_drewN | apply below_drew1 | refine below_set ?_ GE156.out) | exact HB.out)⟩
         ·rw [if_neg c17] at H
          have c17b0 : (((rd_T58 l0 a1).f4) == 0) = false := beq_eq_false_iff_ne.mpr c17
          have c17b1 : (((rd_T58 l0 a1).f4) != 0) = true := bne_iff_ne.mpr c17
          obtain rfl := Option.some.inj H
          have hcz19_0 : wc.cell? ⟨gb156, 0, none⟩ = some (.int .i64 ((rd_T58 l0 a1).f0)) := (blk_cell BK156.out 0).trans rfl
          have hcz19_1 : wc.cell? ⟨gb156, 1, none⟩ = some (.int .i64 ((rd_T58 l0 a1).f1)) := (blk_cell BK156.out 1).trans rfl
          have hcz19_2 : wc.cell? ⟨gb156, 2, none⟩ = some (.string ((rd_T58 l0 a1).f2)) := (blk_cell BK156.out 2).trans rfl
          have hcz19_3 : wc.cell? ⟨gb156, 3, none⟩ = some (.int .i64 ((rd_T58 l0 a1).f3)) := (blk_cell BK156.out 3).trans rfl
          have hcz19_4 : wc.cell? ⟨gb156, 4, none⟩ = some (.int .i64 ((rd_T58 l0 a1).f4)) := (blk_cell BK156.out 4).trans rfl
          have hfz19_0 := blk_frozen BK156.out 0
          have hfz19_1 := blk_frozen BK156.out 1
          have hfz19_2 := blk_frozen BK156.out 2
          have hfz19_3 := blk_frozen BK156.out 3
          have hfz19_4 := blk_frozen BK156.out 4
          go_wp2_with (first | (go_at_call 50; (with_reducible refine (spec_l1In.calls (((rd_T58 l0 a1).f2).size : Int) 1 8 true _ A12.out).mono ?_); rintro e w' ⟨rfl, ⟨nd, rfl⟩⟩; (try first | exact ⟨rfl, _, World.drewN_drewN _ _ _⟩ | exact ⟨rfl, _, Eq.trans (World.drewN_drewN _ _ _) (congrArg (World.drewN _) (Nat.add_assoc _ _ _))⟩)) | (go_at_call 76; (with_reducible refine (spec_l1Text.calls kj4 ((rd_T58 l0 a1).f2) true _ A14.out).mono ?_); rintro e w' ⟨rfl, ⟨nd, rfl⟩⟩; (try first | exact ⟨rfl, _, World.drewN_drewN _ _ _⟩ | exact ⟨rfl, _, Eq.trans (World.drewN_drewN _ _ _) (congrArg (World.drewN _) (Nat.add_assoc _ _ _))⟩)))
          repeat (go_quiet (first | (go_at_call 50; (with_reducible refine (spec_l1In.calls (((rd_T58 l0 a1).f2).size : Int) 1 8 true _ A12.out).mono ?_); rintro e w' ⟨rfl, ⟨nd, rfl⟩⟩; (try first | exact ⟨rfl, _, World.drewN_drewN _ _ _⟩ | exact ⟨rfl, _, Eq.trans (World.drewN_drewN _ _ _) (congrArg (World.drewN _) (Nat.add_assoc _ _ _))⟩)) | (go_at_call 76; (with_reducible refine (spec_l1Text.calls kj4 ((rd_T58 l0 a1).f2) true _ A14.out).mono ?_); rintro e w' ⟨rfl, ⟨nd, rfl⟩⟩; (try first | exact ⟨rfl, _, World.drewN_drewN _ _ _⟩ | exact ⟨rfl, _, Eq.trans (World.drewN_drewN _ _ _) (congrArg (World.drewN _) (Nat.add_assoc _ _ _))⟩))); try go_wp2_with (first | (go_at_call 50; (with_reducible refine (spec_l1In.calls (((rd_T58 l0 a1).f2).size : Int) 1 8 true _ A12.out).mono ?_); rintro e w' ⟨rfl, ⟨nd, rfl⟩⟩; (try first | exact ⟨rfl, _, World.drewN_drewN _ _ _⟩ | exact ⟨rfl, _, Eq.trans (World.drewN_drewN _ _ _) (congrArg (World.drewN _) (Nat.add_assoc _ _ _))⟩)) | (go_at_call 76; (with_reducible refine (spec_l1Text.calls kj4 ((rd_T58 l0 a1).f2) true _ A14.out).mono ?_); rintro e w' ⟨rfl, ⟨nd, rfl⟩⟩; (try first | exact ⟨rfl, _, World.drewN_drewN _ _ _⟩ | exact ⟨rfl, _, Eq.trans (World.drewN_drewN _ _ _) (congrArg (World.drewN _) (Nat.add_assoc _ _ _))⟩))))
          go_ret
          exact ⟨by first | rfl | (simp [errW_none, errW_some] <;> rfl) | (simp [*, errW_none, errW_some] <;> rfl), by repeat (first | (with_reducible first | exact HB.out | apply below_alloc | apply pw_below_drewN | apply below_drew1 | refine below_set ?_ GE156.out) | exact HB.out)⟩
        ·rw [if_neg c16] at H
         have c16b0 : (((rd_T58 l0 a1).f3) == (((rd_T58 l0 a1).f2).size : Int)) = false := beq_eq_false_iff_ne.mpr c16
         have c16b1 : (((rd_T58 l0 a1).f3) != (((rd_T58 l0 a1).f2).size : Int)) = true := bne_iff_ne.mpr c16
         obtain rfl := Option.some.inj H
         have hcz20_0 : wc.cell? ⟨gb156, 0, none⟩ = some (.int .i64 ((rd_T58 l0 a1).f0)) := (blk_cell BK156.out 0).trans rfl
         have hcz20_1 : wc.cell? ⟨gb156, 1, none⟩ = some (.int .i64 ((rd_T58 l0 a1).f1)) := (blk_cell BK156.out 1).trans rfl
         have hcz20_2 : wc.cell? ⟨gb156, 2, none⟩ = some (.string ((rd_T58 l0 a1).f2)) := (blk_cell BK156.out 2).trans rfl
         have hcz20_3 : wc.cell? ⟨gb156, 3, none⟩ = some (.int .i64 ((rd_T58 l0 a1).f3)) := (blk_cell BK156.out 3).trans rfl
         have hcz20_4 : wc.cell? ⟨gb156, 4, none⟩ = some (.int .i64 ((rd_T58 l0 a1).f4)) := (blk_cell BK156.out 4).trans rfl
         have hfz20_0 := blk_frozen BK156.out 0
         have hfz20_1 := blk_frozen BK156.out 1
         have hfz20_2 := blk_frozen BK156.out 2
         have hfz20_3 := blk_frozen BK156.out 3
         have hfz20_4 := blk_frozen BK156.out 4
         go_wp2_with (first | (go_at_call 50; (with_reducible refine (spec_l1In.calls (((rd_T58 l0 a1).f2).size : Int) 1 8 true _ A12.out).mono ?_); rintro e w' ⟨rfl, ⟨nd, rfl⟩⟩; (try first | exact ⟨rfl, _, World.drewN_drewN _ _ _⟩ | exact ⟨rfl, _, Eq.trans (World.drewN_drewN _ _ _) (congrArg (World.drewN _) (Nat.add_assoc _ _ _))⟩)) | (go_at_call 76; (with_reducible refine (spec_l1Text.calls kj4 ((rd_T58 l0 a1).f2) true _ A14.out).mono ?_); rintro e w' ⟨rfl, ⟨nd, rfl⟩⟩; (try first | exact ⟨rfl, _, World.drewN_drewN _ _ _⟩ | exact ⟨rfl, _, Eq.trans (World.drewN_drewN _ _ _) (congrArg (World.drewN _) (Nat.add_assoc _ _ _))⟩)))
         repeat (go_quiet (first | (go_at_call 50; (with_reducible refine (spec_l1In.calls (((rd_T58 l0 a1).f2).size : Int) 1 8 true _ A12.out).mono ?_); rintro e w' ⟨rfl, ⟨nd, rfl⟩⟩; (try first | exact ⟨rfl, _, World.drewN_drewN _ _ _⟩ | exact ⟨rfl, _, Eq.trans (World.drewN_drewN _ _ _) (congrArg (World.drewN _) (Nat.add_assoc _ _ _))⟩)) | (go_at_call 76; (with_reducible refine (spec_l1Text.calls kj4 ((rd_T58 l0 a1).f2) true _ A14.out).mono ?_); rintro e w' ⟨rfl, ⟨nd, rfl⟩⟩; (try first | exact ⟨rfl, _, World.drewN_drewN _ _ _⟩ | exact ⟨rfl, _, Eq.trans (World.drewN_drewN _ _ _) (congrArg (World.drewN _) (Nat.add_assoc _ _ _))⟩))); try go_wp2_with (first | (go_at_call 50; (with_reducible refine (spec_l1In.calls (((rd_T58 l0 a1).f2).size : Int) 1 8 true _ A12.out).mono ?_); rintro e w' ⟨rfl, ⟨nd, rfl⟩⟩; (try first | exact ⟨rfl, _, World.drewN_drewN _ _ _⟩ | exact ⟨rfl, _, Eq.trans (World.drewN_drewN _ _ _) (congrArg (World.drewN _) (Nat.add_assoc _ _ _))⟩)) | (go_at_call 76; (with_reducible refine (spec_l1Text.calls kj4 ((rd_T58 l0 a1).f2) true _ A14.out).mono ?_); rintro e w' ⟨rfl, ⟨nd, rfl⟩⟩; (try first | exact ⟨rfl, _, World.drewN_drewN _ _ _⟩ | exact ⟨rfl, _, Eq.trans (World.drewN_drewN _ _ _) (congrArg (World.drewN _) (Nat.add_assoc _ _ _))⟩))))
         go_ret
         exact ⟨by first | rfl | (simp [errW_none, errW_some] <;> rfl) | (simp [*, errW_none, errW_some] <;> rfl), by repeat (first | (with_reducible first | exact HB.out | apply below_alloc | apply pw_below_drewN | apply below_drew1 | refine below_set ?_ GE156.out) | exact HB.out)⟩
       ·replace c15 := Bool.eq_false_iff.mpr c15
        subst c15
        rw [if_neg (show ¬ (false = true) by decide)] at H
        obtain rfl := Option.some.inj H
        have hcz21_0 : wc.cell? ⟨gb156, 0, none⟩ = some (.int .i64 ((rd_T58 l0 a1).f0)) := (blk_cell BK156.out 0).trans rfl
        have hcz21_1 : wc.cell? ⟨gb156, 1, none⟩ = some (.int .i64 ((rd_T58 l0 a1).f1)) := (blk_cell BK156.out 1).trans rfl
        have hcz21_2 : wc.cell? ⟨gb156, 2, none⟩ = some (.string ((rd_T58 l0 a1).f2)) := (blk_cell BK156.out 2).trans rfl
        have hcz21_3 : wc.cell? ⟨gb156, 3, none⟩ = some (.int .i64 ((rd_T58 l0 a1).f3)) := (blk_cell BK156.out 3).trans rfl
        have hcz21_4 : wc.cell? ⟨gb156, 4, none⟩ = some (.int .i64 ((rd_T58 l0 a1).f4)) := (blk_cell BK156.out 4).trans rfl
        have hfz21_0 := blk_frozen BK156.out 0
        have hfz21_1 := blk_frozen BK156.out 1
        have hfz21_2 := blk_frozen BK156.out 2
        have hfz21_3 := blk_frozen BK156.out 3
        have hfz21_4 := blk_frozen BK156.out 4
        go_wp2_with (first | (go_at_call 50; (with_reducible refine (spec_l1In.calls (((rd_T58 l0 a1).f2).size : Int) 1 8 true _ A12.out).mono ?_); rintro e w' ⟨rfl, ⟨nd, rfl⟩⟩; (try first | exact ⟨rfl, _, World.drewN_drewN _ _ _⟩ | exact ⟨rfl, _, Eq.trans (World.drewN_drewN _ _ _) (congrArg (World.drewN _) (Nat.add_assoc _ _ _))⟩)) | (go_at_call 76; (with_reducible refine (spec_l1Text.calls kj4 ((rd_T58 l0 a1).f2) false _ A14.out).mono ?_); rintro e w' ⟨rfl, ⟨nd, rfl⟩⟩; (try first | exact ⟨rfl, _, World.drewN_drewN _ _ _⟩ | exact ⟨rfl, _, Eq.trans (World.drewN_drewN _ _ _) (congrArg (World.drewN _) (Nat.add_assoc _ _ _))⟩)))
        repeat (go_quiet (first | (go_at_call 50; (with_reducible refine (spec_l1In.calls (((rd_T58 l0 a1).f2).size : Int) 1 8 true _ A12.out).mono ?_); rintro e w' ⟨rfl, ⟨nd, rfl⟩⟩; (try first | exact ⟨rfl, _, World.drewN_drewN _ _ _⟩ | exact ⟨rfl, _, Eq.trans (World.drewN_drewN _ _ _) (congrArg (World.drewN _) (Nat.add_assoc _ _ _))⟩)) | (go_at_call 76; (with_reducible refine (spec_l1Text.calls kj4 ((rd_T58 l0 a1).f2) false _ A14.out).mono ?_); rintro e w' ⟨rfl, ⟨nd, rfl⟩⟩; (try first | exact ⟨rfl, _, World.drewN_drewN _ _ _⟩ | exact ⟨rfl, _, Eq.trans (World.drewN_drewN _ _ _) (congrArg (World.drewN _) (Nat.add_assoc _ _ _))⟩))); try go_wp2_with (first | (go_at_call 50; (with_reducible refine (spec_l1In.calls (((rd_T58 l0 a1).f2).size : Int) 1 8 true _ A12.out).mono ?_); rintro e w' ⟨rfl, ⟨nd, rfl⟩⟩; (try first | exact ⟨rfl, _, World.drewN_drewN _ _ _⟩ | exact ⟨rfl, _, Eq.trans (World.drewN_drewN _ _ _) (congrArg (World.drewN _) (Nat.add_assoc _ _ _))⟩)) | (go_at_call 76; (with_reducible refine (spec_l1Text.calls kj4 ((rd_T58 l0 a1).f2) false _ A14.out).mono ?_); rintro e w' ⟨rfl, ⟨nd, rfl⟩⟩; (try first | exact ⟨rfl, _, World.drewN_drewN _ _ _⟩ | exact ⟨rfl, _, Eq.trans (World.drewN_drewN _ _ _) (congrArg (World.drewN _) (Nat.add_assoc _ _ _))⟩))))
        go_ret
        exact ⟨by first | rfl | (simp [errW_none, errW_some] <;> rfl) | (simp [*, errW_none, errW_some] <;> rfl), by repeat (first | (with_reducible first | exact HB.out | apply below_alloc | apply pw_below_drewN | apply below_drew1 | refine below_set ?_ GE156.out) | exact HB.out)⟩
      ·replace c13 := Bool.eq_false_iff.mpr c13
       subst c13
       rw [if_neg (show ¬ (false = true) by decide)] at H
       obtain rfl := Option.some.inj H
       have hcz22_0 : wc.cell? ⟨gb156, 0, none⟩ = some (.int .i64 ((rd_T58 l0 a1).f0)) := (blk_cell BK156.out 0).trans rfl
       have hcz22_1 : wc.cell? ⟨gb156, 1, none⟩ = some (.int .i64 ((rd_T58 l0 a1).f1)) := (blk_cell BK156.out 1).trans rfl
       have hcz22_2 : wc.cell? ⟨gb156, 2, none⟩ = some (.string ((rd_T58 l0 a1).f2)) := (blk_cell BK156.out 2).trans rfl
       have hcz22_3 : wc.cell? ⟨gb156, 3, none⟩ = some (.int .i64 ((rd_T58 l0 a1).f3)) := (blk_cell BK156.out 3).trans rfl
       have hcz22_4 : wc.cell? ⟨gb156, 4, none⟩ = some (.int .i64 ((rd_T58 l0 a1).f4)) := (blk_cell BK156.out 4).trans rfl
       have hfz22_0 := blk_frozen BK156.out 0
       have hfz22_1 := blk_frozen BK156.out 1
       have hfz22_2 := blk_frozen BK156.out 2
       have hfz22_3 := blk_frozen BK156.out 3
       have hfz22_4 := blk_frozen BK156.out 4
       go_wp2_with (first | (go_at_call 50; (with_reducible refine (spec_l1In.calls (((rd_T58 l0 a1).f2).size : Int) 1 8 false _ A12.out).mono ?_); rintro e w' ⟨rfl, ⟨nd, rfl⟩⟩; (try first | exact ⟨rfl, _, World.drewN_drewN _ _ _⟩ | exact ⟨rfl, _, Eq.trans (World.drewN_drewN _ _ _) (congrArg (World.drewN _) (Nat.add_assoc _ _ _))⟩)))
       repeat (go_quiet (first | (go_at_call 50; (with_reducible refine (spec_l1In.calls (((rd_T58 l0 a1).f2).size : Int) 1 8 false _ A12.out).mono ?_); rintro e w' ⟨rfl, ⟨nd, rfl⟩⟩; (try first | exact ⟨rfl, _, World.drewN_drewN _ _ _⟩ | exact ⟨rfl, _, Eq.trans (World.drewN_drewN _ _ _) (congrArg (World.drewN _) (Nat.add_assoc _ _ _))⟩))); try go_wp2_with (first | (go_at_call 50; (with_reducible refine (spec_l1In.calls (((rd_T58 l0 a1).f2).size : Int) 1 8 false _ A12.out).mono ?_); rintro e w' ⟨rfl, ⟨nd, rfl⟩⟩; (try first | exact ⟨rfl, _, World.drewN_drewN _ _ _⟩ | exact ⟨rfl, _, Eq.trans (World.drewN_drewN _ _ _) (congrArg (World.drewN _) (Nat.add_assoc _ _ _))⟩))))
       go_ret
       exact ⟨by first | rfl | (simp [errW_none, errW_some] <;> rfl) | (simp [*, errW_none, errW_some] <;> rfl), by repeat (first | (with_reducible first | exact HB.out | apply below_alloc | apply pw_below_drewN | apply below_drew1 | refine below_set ?_ GE156.out) | exact HB.out)⟩
     ·replace c11 := Bool.eq_false_iff.mpr c11
      subst c11
      rw [if_neg (show ¬ (false = true) by decide)] at H
      have HC23 := Aside0.mk H
      clear H
      go_upto_region 6 with (fail)
      repeat (go_quiet (fail); go_upto_region 6 with (fail))
      go_cut [58] (fun v58 wc => ∃ (kq : Nat) (x58_22 : Bool), v58 = .bool x58_22 ∧ Aside0 (spec_l12First.j1 kq l0 a1 x58_22 ((rd_T58 l0 a1).f0) ((rd_T58 l0 a1).f1) ((rd_T58 l0 a1).f2) ((rd_T58 l0 a1).f3) ((rd_T58 l0 a1).f4) = some r) ∧ Aside0 (kq ≤ kj4) ∧ Aside0 (wc.heap[gb156]? = some (.cells #[.int .i64 ((rd_T58 l0 a1).f0), .int .i64 ((rd_T58 l0 a1).f1), .string ((rd_T58 l0 a1).f2), .int .i64 ((rd_T58 l0 a1).f3), .int .i64 ((rd_T58 l0 a1).f4)] 58 (0, 0))) ∧ Aside0 (Below w.heap.size w wc))
      case first =>
       have H := HC23.out
       clear HC23
       by_cases c24 : ((rd_T58 l0 a1).f2).toList = ([] : List UInt8)
       ·rw [if_pos c24] at H
        have c24b0 : (((rd_T58 l0 a1).f2).toList == ([] : List UInt8)) = true := beq_iff_eq.mpr c24
        have c24b1 : (((rd_T58 l0 a1).f2).toList != ([] : List UInt8)) = false := bne_eq_false_iff_eq.mpr c24
        clear c24
        (first | rw [c24b0] | (simp only [i64_w, i32_w]; rw [c24b0]) | skip)
        by_cases c25 : ((rd_T58 l0 a1).f1) = (wrap64 (a1 - 1))
        ·rw [if_pos c25] at H
         have c25b0 : (((rd_T58 l0 a1).f1) == (wrap64 (a1 - 1))) = true := beq_iff_eq.mpr c25
         have c25b1 : (((rd_T58 l0 a1).f1) != (wrap64 (a1 - 1))) = false := bne_eq_false_iff_eq.mpr c25
         clear c25
         have H' := Aside0.mk H
         clear H
         have hcz26_0 : wc.cell? ⟨gb156, 0, none⟩ = some (.int .i64 ((rd_T58 l0 a1).f0)) := (blk_cell BK156.out 0).trans rfl
         have hcz26_1 : wc.cell? ⟨gb156, 1, none⟩ = some (.int .i64 ((rd_T58 l0 a1).f1)) := (blk_cell BK156.out 1).trans rfl
         have hcz26_2 : wc.cell? ⟨gb156, 2, none⟩ = some (.string ((rd_T58 l0 a1).f2)) := (blk_cell BK156.out 2).trans rfl
         have hcz26_3 : wc.cell? ⟨gb156, 3, none⟩ = some (.int .i64 ((rd_T58 l0 a1).f3)) := (blk_cell BK156.out 3).trans rfl
         have hcz26_4 : wc.cell? ⟨gb156, 4, none⟩ = some (.int .i64 ((rd_T58 l0 a1).f4)) := (blk_cell BK156.out 4).trans rfl
         have hfz26_0 := blk_frozen BK156.out 0
         have hfz26_1 := blk_frozen BK156.out 1
         have hfz26_2 := blk_frozen BK156.out 2
         have hfz26_3 := blk_frozen BK156.out 3
         have hfz26_4 := blk_frozen BK156.out 4
         go_wp2
         all_goals (try (exfalso; rename_i h_; rw [c24b0] at h_; cases h_; done))
         repeat (go_quiet (fail); try go_wp2)
         all_goals (try (exfalso; rename_i h_; rw [c24b0] at h_; cases h_; done))
         go_meet
         case rel => exact ⟨_, (decide (a1 < 2)), z1, H', ⟨by have := HJ4.out; first | omega | exact Nat.le_refl _⟩, ⟨by (with_reducible repeat (first | refine blk_drewN ?_ _ | refine blk_drew ?_ | refine blk_alloc ?_ _)); exact BK156.out⟩, ⟨by repeat (first | (with_reducible first | exact HB.out | apply below_alloc | apply pw_below_drewN | apply below_drew1 | refine below_set ?_ GE156.out) | exact HB.out)⟩⟩
        ·rw [if_neg c25] at H
         have c25b0 : (((rd_T58 l0 a1).f1) == (wrap64 (a1 - 1))) = false := beq_eq_false_iff_ne.mpr c25
         have c25b1 : (((rd_T58 l0 a1).f1) != (wrap64 (a1 - 1))) = true := bne_iff_ne.mpr c25
         have H' := Aside0.mk H
         clear H
         have hcz27_0 : wc.cell? ⟨gb156, 0, none⟩ = some (.int .i64 ((rd_T58 l0 a1).f0)) := (blk_cell BK156.out 0).trans rfl
         have hcz27_1 : wc.cell? ⟨gb156, 1, none⟩ = some (.int .i64 ((rd_T58 l0 a1).f1)) := (blk_cell BK156.out 1).trans rfl
         have hcz27_2 : wc.cell? ⟨gb156, 2, none⟩ = some (.string ((rd_T58 l0 a1).f2)) := (blk_cell BK156.out 2).trans rfl
         have hcz27_3 : wc.cell? ⟨gb156, 3, none⟩ = some (.int .i64 ((rd_T58 l0 a1).f3)) := (blk_cell BK156.out 3).trans rfl
         have hcz27_4 : wc.cell? ⟨gb156, 4, none⟩ = some (.int .i64 ((rd_T58 l0 a1).f4)) := (blk_cell BK156.out 4).trans rfl
         have hfz27_0 := blk_frozen BK156.out 0
         have hfz27_1 := blk_frozen BK156.out 1
         have hfz27_2 := blk_frozen BK156.out 2
         have hfz27_3 := blk_frozen BK156.out 3
         have hfz27_4 := blk_frozen BK156.out 4
         go_wp2
         all_goals (try (exfalso; rename_i h_; rw [c24b0] at h_; cases h_; done))
         repeat (go_quiet (fail); try go_wp2)
         all_goals (try (exfalso; rename_i h_; rw [c24b0] at h_; cases h_; done))
         go_meet
         case rel => exact ⟨_, (true), z1, H', ⟨by have := HJ4.out; first | omega | exact Nat.le_refl _⟩, ⟨by (with_reducible repeat (first | refine blk_drewN ?_ _ | refine blk_drew ?_ | refine blk_alloc ?_ _)); exact BK156.out⟩, ⟨by repeat (first | (with_reducible first | exact HB.out | apply below_alloc | apply pw_below_drewN | apply below_drew1 | refine below_set ?_ GE156.out) | exact HB.out)⟩⟩
       ·rw [if_neg c24] at H
        have c24b0 : (((rd_T58 l0 a1).f2).toList == ([] : List UInt8)) = false := beq_eq_false_iff_ne.mpr c24
        have c24b1 : (((rd_T58 l0 a1).f2).toList != ([] : List UInt8)) = true := bne_iff_ne.mpr c24
        (first | rw [c24b0] | (simp only [i64_w, i32_w]; rw [c24b0]) | skip)
        have H' := Aside0.mk H
        clear H
        have hcz28_0 : wc.cell? ⟨gb156, 0, none⟩ = some (.int .i64 ((rd_T58 l0 a1).f0)) := (blk_cell BK156.out 0).trans rfl
        have hcz28_1 : wc.cell? ⟨gb156, 1, none⟩ = some (.int .i64 ((rd_T58 l0 a1).f1)) := (blk_cell BK156.out 1).trans rfl
        have hcz28_2 : wc.cell? ⟨gb156, 2, none⟩ = some (.string ((rd_T58 l0 a1).f2)) := (blk_cell BK156.out 2).trans rfl
        have hcz28_3 : wc.cell? ⟨gb156, 3, none⟩ = some (.int .i64 ((rd_T58 l0 a1).f3)) := (blk_cell BK156.out 3).trans rfl
        have hcz28_4 : wc.cell? ⟨gb156, 4, none⟩ = some (.int .i64 ((rd_T58 l0 a1).f4)) := (blk_cell BK156.out 4).trans rfl
        have hfz28_0 := blk_frozen BK156.out 0
        have hfz28_1 := blk_frozen BK156.out 1
        have hfz28_2 := blk_frozen BK156.out 2
        have hfz28_3 := blk_frozen BK156.out 3
        have hfz28_4 := blk_frozen BK156.out 4
        go_wp2
        all_goals (try (exfalso; rename_i h_; rw [c24b0] at h_; cases h_; done))
        repeat (go_quiet (fail); try go_wp2)
        all_goals (try (exfalso; rename_i h_; rw [c24b0] at h_; cases h_; done))
        go_meet
        case rel => exact ⟨_, (true), z1, H', ⟨by have := HJ4.out; first | omega | exact Nat.le_refl _⟩, ⟨by (with_reducible repeat (first | refine blk_drewN ?_ _ | refine blk_drew ?_ | refine blk_alloc ?_ _)); exact BK156.out⟩, ⟨by repeat (first | (with_reducible first | exact HB.out | apply below_alloc | apply pw_below_drewN | apply below_drew1 | refine below_set ?_ GE156.out) | exact HB.out)⟩⟩
      case rest =>
       clear HC23
       try clear c1
       try clear p1
       try clear q1
       try clear hx1
       try clear c2
       try clear p2
       try clear c3
       try clear c3b0
       try clear c4
       try clear c4b0
       try clear p6
       try clear c8
       try clear c8b0
       try clear c8b1
       try clear c11
       try clear c13
       try clear c15
       try clear p15
       try clear q15
       try clear hx15
       try clear c16
       try clear c16b0
       try clear c16b1
       try clear c17
       try clear c17b0
       try clear c17b1
       try clear c24
       try clear c24b0
       try clear c24b1
       try clear c25
       try clear c25b0
       try clear c25b1
       try clear hcz10_0
       try clear hcz10_1
       try clear hcz10_2
       try clear hcz10_3
       try clear hcz10_4
       try clear hcz18_0
       try clear hcz18_1
       try clear hcz18_2
       try clear hcz18_3
       try clear hcz18_4
       try clear hcz19_0
       try clear hcz19_1
       try clear hcz19_2
       try clear hcz19_3
       try clear hcz19_4
       try clear hcz20_0
       try clear hcz20_1
       try clear hcz20_2
       try clear hcz20_3
       try clear hcz20_4
       try clear hcz21_0
       try clear hcz21_1
       try clear hcz21_2
       try clear hcz21_3
       try clear hcz21_4
       try clear hcz22_0
       try clear hcz22_1
       try clear hcz22_2
       try clear hcz22_3
       try clear hcz22_4
       try clear hcz26_0
       try clear hcz26_1
       try clear hcz26_2
       try clear hcz26_3
       try clear hcz26_4
       try clear hcz27_0
       try clear hcz27_1
       try clear hcz27_2
       try clear hcz27_3
       try clear hcz27_4
       try clear hcz28_0
       try clear hcz28_1
       try clear hcz28_2
       try clear hcz28_3
       try clear hcz28_4
       try clear hcz7_0
       try clear hcz7_1
       try clear hcz7_2
       try clear hcz7_3
       try clear hcz7_4
       try clear hcz9_0
       try clear hcz9_1
       try clear hcz9_2
       try clear hcz9_3
       try clear hcz9_4
       try clear hfz10_0
       try clear hfz10_1
       try clear hfz10_2
       try clear hfz10_3
       try clear hfz10_4
       try clear hfz18_0
       try clear hfz18_1
       try clear hfz18_2
       try clear hfz18_3
       try clear hfz18_4
       try clear hfz19_0
       try clear hfz19_1
       try clear hfz19_2
       try clear hfz19_3
       try clear hfz19_4
       try clear hfz20_0
       try clear hfz20_1
       try clear hfz20_2
       try clear hfz20_3
       try clear hfz20_4
       try clear hfz21_0
       try clear hfz21_1
       try clear hfz21_2
       try clear hfz21_3
       try clear hfz21_4
       try clear hfz22_0
       try clear hfz22_1
       try clear hfz22_2
       try clear hfz22_3
       try clear hfz22_4
       try clear hfz26_0
       try clear hfz26_1
       try clear hfz26_2
       try clear hfz26_3
       try clear hfz26_4
       try clear hfz27_0
       try clear hfz27_1
       try clear hfz27_2
       try clear hfz27_3
       try clear hfz27_4
       try clear hfz28_0
       try clear hfz28_1
       try clear hfz28_2
       try clear hfz28_3
       try clear hfz28_4
       try clear hfz7_0
       try clear hfz7_1
       try clear hfz7_2
       try clear hfz7_3
       try clear hfz7_4
       try clear hfz9_0
       try clear hfz9_1
       try clear hfz9_2
       try clear hfz9_3
       try clear hfz9_4
       try clear hx155_0
       try clear hx155_1
       try clear hx155_2
       try clear hx155_3
       try clear hx155_4
       try clear p1
       try clear p155
       try clear p2
       try clear q1
       try clear q155
       obtain ⟨kq, x58_22, rfl, HA, HJ22, BK156, HB⟩ := hcut
       cases kq with
       | zero => exact absurd HA.out (by simp [spec_l12First.j1])
       | succ kj22 =>
        have H := HA.out
        clear HA
        simp only [spec_l12First.j1] at H
        by_cases c29 : x58_22 = true
        ·subst c29
         rw [if_pos rfl] at H
         obtain rfl := Option.some.inj H
         go_wp2
         repeat (go_quiet (fail); try go_wp2)
         go_ret
         exact ⟨by first | rfl | (simp [errW_none, errW_some] <;> rfl) | (simp [*, errW_none, errW_some] <;> rfl), by repeat (first | (with_reducible first | exact HB.out | apply below_alloc | apply pw_below_drewN | apply below_drew1 | refine below_set ?_ GE156.out) | exact HB.out)⟩
        ·replace c29 := Bool.eq_false_iff.mpr c29
         subst c29
         rw [if_neg (show ¬ (false = true) by decide)] at H
         replace H := Option.bind_eq_some_iff.mp H
         obtain ⟨t159, A300, H⟩ := H
         try dsimp only at H
         have A30 := Aside0.mk A300
         clear A300
         have HC31 := Aside0.mk H
         clear H
         go_upto_region 9 with (first | (go_at_call 46; (with_reducible refine (ih kj22 (by have := HJ4.out; have := HJ22.out; omega) _ _ l0 (wrap64 (a1 - 1)) t159 _ ?side1 ?side2 A30.out).mono ?_); (case side1 => repeat (first | exact (Kd.C_below HR0.out HB.out) | (with_reducible refine Kd.C_alloc ?_ _) | (with_reducible refine Kd.C_drewN ?_ _) | (with_reducible refine Kd.C_drew ?_))); (case side2 => exact HC0.out); rintro e w32 ⟨rfl, hb⟩; have n0_ := Aside0.mk (blk_below (g := gb156) (o := .cells #[.int .i64 ((rd_T58 l0 a1).f0), .int .i64 ((rd_T58 l0 a1).f1), .string ((rd_T58 l0 a1).f2), .int .i64 ((rd_T58 l0 a1).f3), .int .i64 ((rd_T58 l0 a1).f4)] 58 (0, 0)) (by (with_reducible repeat (first | refine blk_drewN ?_ _ | refine blk_drew ?_ | refine blk_alloc ?_ _)); exact BK156.out) hb); have n1_ := Aside0.mk (below_step (by repeat (first | (with_reducible first | exact HB.out | apply below_alloc | apply pw_below_drewN | apply below_drew1 | refine below_set ?_ GE156.out) | exact HB.out)) hb); clear BK156; clear HB; have BK156 := n0_; have HB := n1_; clear n0_ n1_; (try clear hb); (try clear hb2); (try clear hk); (try clear hi)))
         repeat (go_quiet (first | (go_at_call 46; (with_reducible refine (ih kj22 (by have := HJ4.out; have := HJ22.out; omega) _ _ l0 (wrap64 (a1 - 1)) t159 _ ?side1 ?side2 A30.out).mono ?_); (case side1 => repeat (first | exact (Kd.C_below HR0.out HB.out) | (with_reducible refine Kd.C_alloc ?_ _) | (with_reducible refine Kd.C_drewN ?_ _) | (with_reducible refine Kd.C_drew ?_))); (case side2 => exact HC0.out); rintro e w32 ⟨rfl, hb⟩; have n0_ := Aside0.mk (blk_below (g := gb156) (o := .cells #[.int .i64 ((rd_T58 l0 a1).f0), .int .i64 ((rd_T58 l0 a1).f1), .string ((rd_T58 l0 a1).f2), .int .i64 ((rd_T58 l0 a1).f3), .int .i64 ((rd_T58 l0 a1).f4)] 58 (0, 0)) (by (with_reducible repeat (first | refine blk_drewN ?_ _ | refine blk_drew ?_ | refine blk_alloc ?_ _)); exact BK156.out) hb); have n1_ := Aside0.mk (below_step (by repeat (first | (with_reducible first | exact HB.out | apply below_alloc | apply pw_below_drewN | apply below_drew1 | refine below_set ?_ GE156.out) | exact HB.out)) hb); clear BK156; clear HB; have BK156 := n0_; have HB := n1_; clear n0_ n1_; (try clear hb); (try clear hb2); (try clear hk); (try clear hi))); go_upto_region 9 with (first | (go_at_call 46; (with_reducible refine (ih kj22 (by have := HJ4.out; have := HJ22.out; omega) _ _ l0 (wrap64 (a1 - 1)) t159 _ ?side1 ?side2 A30.out).mono ?_); (case side1 => repeat (first | exact (Kd.C_below HR0.out HB.out) | (with_reducible refine Kd.C_alloc ?_ _) | (with_reducible refine Kd.C_drewN ?_ _) | (with_reducible refine Kd.C_drew ?_))); (case side2 => exact HC0.out); rintro e w32 ⟨rfl, hb⟩; have n0_ := Aside0.mk (blk_below (g := gb156) (o := .cells #[.int .i64 ((rd_T58 l0 a1).f0), .int .i64 ((rd_T58 l0 a1).f1), .string ((rd_T58 l0 a1).f2), .int .i64 ((rd_T58 l0 a1).f3), .int .i64 ((rd_T58 l0 a1).f4)] 58 (0, 0)) (by (with_reducible repeat (first | refine blk_drewN ?_ _ | refine blk_drew ?_ | refine blk_alloc ?_ _)); exact BK156.out) hb); have n1_ := Aside0.mk (below_step (by repeat (first | (with_reducible first | exact HB.out | apply below_alloc | apply pw_below_drewN | apply below_drew1 | refine below_set ?_ GE156.out) | exact HB.out)) hb); clear BK156; clear HB; have BK156 := n0_; have HB := n1_; clear n0_ n1_; (try clear hb); (try clear hb2); (try clear hk); (try clear hi))))
         (try simp only [Act.put, List.setIfInBounds_toArray, List.set_cons_zero, List.set_cons_succ])
         go_cut [71] (fun v71 wc => ∃ (kq : Nat) (x71_30 : Bool), v71 = .bool x71_30 ∧ Aside0 (spec_l12First.j2 kq l0 x71_30 ((rd_T58 l0 a1).f0) ((rd_T58 l0 a1).f1) ((rd_T58 l0 a1).f2) ((rd_T58 l0 a1).f3) ((rd_T58 l0 a1).f4) = some r) ∧ Aside0 (kq ≤ kj22) ∧ Aside0 (wc.heap[gb156]? = some (.cells #[.int .i64 ((rd_T58 l0 a1).f0), .int .i64 ((rd_T58 l0 a1).f1), .string ((rd_T58 l0 a1).f2), .int .i64 ((rd_T58 l0 a1).f3), .int .i64 ((rd_T58 l0 a1).f4)] 58 (0, 0))) ∧ Aside0 (Below w.heap.size w wc))
         case first =>
          have H := HC31.out
          clear HC31
          by_cases c33 : t159 < 1
          ·rw [if_pos c33] at H
           have c33b0 : decide (t159 < 1) = true := decide_eq_true c33
           clear c33
           (first | rw [c33b0] | (simp only [i64_w, i32_w]; rw [c33b0]) | skip)
           have H' := Aside0.mk H
           clear H
           go_wp2
           repeat (go_quiet (fail); try go_wp2)
           go_meet
           case rel => exact ⟨_, (true), z1, H', ⟨by have := HJ4.out; have := HJ22.out; first | omega | exact Nat.le_refl _⟩, ⟨by (with_reducible repeat (first | refine blk_drewN ?_ _ | refine blk_drew ?_ | refine blk_alloc ?_ _)); exact BK156.out⟩, ⟨by repeat (first | (with_reducible first | exact HB.out | apply below_alloc | apply pw_below_drewN | apply below_drew1 | refine below_set ?_ GE156.out) | exact HB.out)⟩⟩
          ·rw [if_neg c33] at H
           have c33b0 : decide (t159 < 1) = false := decide_eq_false c33
           clear c33
           (first | rw [c33b0] | (simp only [i64_w, i32_w]; rw [c33b0]) | skip)
           have H' := Aside0.mk H
           clear H
           have hcz34_0 : w32.cell? ⟨gb156, 0, none⟩ = some (.int .i64 ((rd_T58 l0 a1).f0)) := (blk_cell BK156.out 0).trans rfl
           have hcz34_1 : w32.cell? ⟨gb156, 1, none⟩ = some (.int .i64 ((rd_T58 l0 a1).f1)) := (blk_cell BK156.out 1).trans rfl
           have hcz34_2 : w32.cell? ⟨gb156, 2, none⟩ = some (.string ((rd_T58 l0 a1).f2)) := (blk_cell BK156.out 2).trans rfl
           have hcz34_3 : w32.cell? ⟨gb156, 3, none⟩ = some (.int .i64 ((rd_T58 l0 a1).f3)) := (blk_cell BK156.out 3).trans rfl
           have hcz34_4 : w32.cell? ⟨gb156, 4, none⟩ = some (.int .i64 ((rd_T58 l0 a1).f4)) := (blk_cell BK156.out 4).trans rfl
           have hfz34_0 := blk_frozen BK156.out 0
           have hfz34_1 := blk_frozen BK156.out 1
           have hfz34_2 := blk_frozen BK156.out 2
           have hfz34_3 := blk_frozen BK156.out 3
           have hfz34_4 := blk_frozen BK156.out 4
           go_wp2
           repeat (go_quiet (fail); try go_wp2)
           go_meet
           case rel => exact ⟨_, ((((rd_T58 l0 a1).f0) != (wrap64 (t159 - 1)))), z1, H', ⟨by have := HJ4.out; have := HJ22.out; first | omega | exact Nat.le_refl _⟩, ⟨by (with_reducible repeat (first | refine blk_drewN ?_ _ | refine blk_drew ?_ | refine blk_alloc ?_ _)); exact BK156.out⟩, ⟨by repeat (first | (with_reducible first | exact HB.out | apply below_alloc | apply pw_below_drewN | apply below_drew1 | refine below_set ?_ GE156.out) | exact HB.out)⟩⟩
         case rest =>
          clear HC31
          try clear c1
          try clear p1
          try clear q1
          try clear hx1
          try clear c2
          try clear p2
          try clear c3
          try clear c3b0
          try clear c4
          try clear c4b0
          try clear p6
          try clear c8
          try clear c8b0
          try clear c8b1
          try clear c11
          try clear c13
          try clear c15
          try clear p15
          try clear q15
          try clear hx15
          try clear c16
          try clear c16b0
          try clear c16b1
          try clear c17
          try clear c17b0
          try clear c17b1
          try clear c24
          try clear c24b0
          try clear c24b1
          try clear c25
          try clear c25b0
          try clear c25b1
          try clear c29
          try clear c33
          try clear c33b0
          try clear hcz10_0
          try clear hcz10_1
          try clear hcz10_2
          try clear hcz10_3
          try clear hcz10_4
          try clear hcz18_0
          try clear hcz18_1
          try clear hcz18_2
          try clear hcz18_3
          try clear hcz18_4
          try clear hcz19_0
          try clear hcz19_1
          try clear hcz19_2
          try clear hcz19_3
          try clear hcz19_4
          try clear hcz20_0
          try clear hcz20_1
          try clear hcz20_2
          try clear hcz20_3
          try clear hcz20_4
          try clear hcz21_0
          try clear hcz21_1
          try clear hcz21_2
          try clear hcz21_3
          try clear hcz21_4
          try clear hcz22_0
          try clear hcz22_1
          try clear hcz22_2
          try clear hcz22_3
          try clear hcz22_4
          try clear hcz26_0
          try clear hcz26_1
          try clear hcz26_2
          try clear hcz26_3
          try clear hcz26_4
          try clear hcz27_0
          try clear hcz27_1
          try clear hcz27_2
          try clear hcz27_3
          try clear hcz27_4
          try clear hcz28_0
          try clear hcz28_1
          try clear hcz28_2
          try clear hcz28_3
          try clear hcz28_4
          try clear hcz34_0
          try clear hcz34_1
          try clear hcz34_2
          try clear hcz34_3
          try clear hcz34_4
          try clear hcz7_0
          try clear hcz7_1
          try clear hcz7_2
          try clear hcz7_3
          try clear hcz7_4
          try clear hcz9_0
          try clear hcz9_1
          try clear hcz9_2
          try clear hcz9_3
          try clear hcz9_4
          try clear hfz10_0
          try clear hfz10_1
          try clear hfz10_2
          try clear hfz10_3
          try clear hfz10_4
          try clear hfz18_0
          try clear hfz18_1
          try clear hfz18_2
          try clear hfz18_3
          try clear hfz18_4
          try clear hfz19_0
          try clear hfz19_1
          try clear hfz19_2
          try clear hfz19_3
          try clear hfz19_4
          try clear hfz20_0
          try clear hfz20_1
          try clear hfz20_2
          try clear hfz20_3
          try clear hfz20_4
          try clear hfz21_0
          try clear hfz21_1
          try clear hfz21_2
          try clear hfz21_3
          try clear hfz21_4
          try clear hfz22_0
          try clear hfz22_1
          try clear hfz22_2
          try clear hfz22_3
          try clear hfz22_4
          try clear hfz26_0
          try clear hfz26_1
          try clear hfz26_2
          try clear hfz26_3
          try clear hfz26_4
          try clear hfz27_0
          try clear hfz27_1
          try clear hfz27_2
          try clear hfz27_3
          try clear hfz27_4
          try clear hfz28_0
          try clear hfz28_1
          try clear hfz28_2
          try clear hfz28_3
          try clear hfz28_4
          try clear hfz34_0
          try clear hfz34_1
          try clear hfz34_2
          try clear hfz34_3
          try clear hfz34_4
          try clear hfz7_0
          try clear hfz7_1
          try clear hfz7_2
          try clear hfz7_3
          try clear hfz7_4
          try clear hfz9_0
          try clear hfz9_1
          try clear hfz9_2
          try clear hfz9_3
          try clear hfz9_4
          try clear hx155_0
          try clear hx155_1
          try clear hx155_2
          try clear hx155_3
          try clear hx155_4
          try clear p1
          try clear p15
          try clear p155
          try clear p2
          try clear p6
          try clear q1
          try clear q15
          try clear q155
          obtain ⟨kq, x71_30, rfl, HA, HJ30, BK156, HB⟩ := hcut
          cases kq with
          | zero => exact absurd HA.out (by simp [spec_l12First.j2])
          | succ kj30 =>
           have H := HA.out
           clear HA
           simp only [spec_l12First.j2] at H
           by_cases c35 : x71_30 = true
           ·subst c35
            rw [if_pos rfl] at H
            obtain rfl := Option.some.inj H
            go_wp2
            repeat (go_quiet (fail); try go_wp2)
            go_ret
            exact ⟨by first | rfl | (simp [errW_none, errW_some] <;> rfl) | (simp [*, errW_none, errW_some] <;> rfl), by repeat (first | (with_reducible first | exact HB.out | apply below_alloc | apply pw_below_drewN | apply below_drew1 | refine below_set ?_ GE156.out) | exact HB.out)⟩
           ·replace c35 := Bool.eq_false_iff.mpr c35
            subst c35
            rw [if_neg (show ¬ (false = true) by decide)] at H
            by_cases c36 : 0 ≤ ((rd_T58 l0 a1).f0)
            ·rw [if_pos c36] at H
             have c36b0 : decide (0 ≤ ((rd_T58 l0 a1).f0)) = true := decide_eq_true c36
             clear c36
             by_cases c37 : ((rd_T58 l0 a1).f0) < (l0.length : Int)
             ·rw [if_pos c37] at H
              have c37b0 : decide (((rd_T58 l0 a1).f0) < (l0.length : Int)) = true := decide_eq_true c37
              clear c37
              by_cases c38 : 0 ≤ ((rd_T58 l0 a1).f1)
              ·rw [if_pos c38] at H
               have c38b0 : decide (0 ≤ ((rd_T58 l0 a1).f1)) = true := decide_eq_true c38
               clear c38
               by_cases c39 : ((rd_T58 l0 a1).f1) < (l0.length : Int)
               ·rw [if_pos c39] at H
                have c39b0 : decide (((rd_T58 l0 a1).f1) < (l0.length : Int)) = true := decide_eq_true c39
                clear c39
                by_cases c40 : ((rd_T58 l0 ((rd_T58 l0 a1).f1)).f4) > ((rd_T58 l0 ((rd_T58 l0 a1).f0)).f4)
                ·rw [if_pos c40] at H
                 have c40b0 : decide (((rd_T58 l0 ((rd_T58 l0 a1).f0)).f4) < ((rd_T58 l0 ((rd_T58 l0 a1).f1)).f4)) = true := decide_eq_true c40
                 clear c40
                 by_cases c41 : ((rd_T58 l0 a1).f3) = (wrap64 (((rd_T58 l0 ((rd_T58 l0 a1).f0)).f3) + ((rd_T58 l0 ((rd_T58 l0 a1).f1)).f3)))
                 ·rw [if_pos c41] at H
                  have c41b0 : (((rd_T58 l0 a1).f3) == (wrap64 (((rd_T58 l0 ((rd_T58 l0 a1).f0)).f3) + ((rd_T58 l0 ((rd_T58 l0 a1).f1)).f3)))) = true := beq_iff_eq.mpr c41
                  have c41b1 : (((rd_T58 l0 a1).f3) != (wrap64 (((rd_T58 l0 ((rd_T58 l0 a1).f0)).f3) + ((rd_T58 l0 ((rd_T58 l0 a1).f1)).f3)))) = false := bne_eq_false_iff_eq.mpr c41
                  clear c41
                  by_cases c42 : ((rd_T58 l0 a1).f4) = (wrap64 (((rd_T58 l0 ((rd_T58 l0 a1).f1)).f4) + 1))
                  ·rw [if_pos c42] at H
                   have c42b0 : (((rd_T58 l0 a1).f4) == (wrap64 (((rd_T58 l0 ((rd_T58 l0 a1).f1)).f4) + 1))) = true := beq_iff_eq.mpr c42
                   have c42b1 : (((rd_T58 l0 a1).f4) != (wrap64 (((rd_T58 l0 ((rd_T58 l0 a1).f1)).f4) + 1))) = false := bne_eq_false_iff_eq.mpr c42
                   clear c42
                   replace H := Option.bind_eq_some_iff.mp H
                   obtain ⟨t165, A430, H⟩ := H
                   try dsimp only at H
                   have A43 := Aside0.mk A430
                   clear A430
                   obtain rfl := Option.some.inj H
                   have hcz44_0 : wc.cell? ⟨gb156, 0, none⟩ = some (.int .i64 ((rd_T58 l0 a1).f0)) := (blk_cell BK156.out 0).trans rfl
                   have hcz44_1 : wc.cell? ⟨gb156, 1, none⟩ = some (.int .i64 ((rd_T58 l0 a1).f1)) := (blk_cell BK156.out 1).trans rfl
                   have hcz44_2 : wc.cell? ⟨gb156, 2, none⟩ = some (.string ((rd_T58 l0 a1).f2)) := (blk_cell BK156.out 2).trans rfl
                   have hcz44_3 : wc.cell? ⟨gb156, 3, none⟩ = some (.int .i64 ((rd_T58 l0 a1).f3)) := (blk_cell BK156.out 3).trans rfl
                   have hcz44_4 : wc.cell? ⟨gb156, 4, none⟩ = some (.int .i64 ((rd_T58 l0 a1).f4)) := (blk_cell BK156.out 4).trans rfl
                   have hfz44_0 := blk_frozen BK156.out 0
                   have hfz44_1 := blk_frozen BK156.out 1
                   have hfz44_2 := blk_frozen BK156.out 2
                   have hfz44_3 := blk_frozen BK156.out 3
                   have hfz44_4 := blk_frozen BK156.out 4
                   have p160 : 0 ≤ (((rd_T58 l0 a1).f0) : Int) := of_decide_eq_true z2
                   have q160 : ((rd_T58 l0 a1).f0) < (l0.length : Int) := of_decide_eq_true z2
                   obtain ⟨ad160, e160, hx160_0, hx160_1, hx160_2, hx160_3, hx160_4⟩ := at_T58 HR0.out ((rd_T58 l0 a1).f0) p160 q160
                   obtain rfl : ad155 = ad160 := (by injection e160)
                   replace hx160_0 := (HB.out.cell (World.block_lt_of_cell? w _ hx160_0)).trans hx160_0
                   replace hx160_1 := (HB.out.cell (World.block_lt_of_cell? w _ hx160_1)).trans hx160_1
                   replace hx160_2 := (HB.out.cell (World.block_lt_of_cell? w _ hx160_2)).trans hx160_2
                   replace hx160_3 := (HB.out.cell (World.block_lt_of_cell? w _ hx160_3)).trans hx160_3
                   replace hx160_4 := (HB.out.cell (World.block_lt_of_cell? w _ hx160_4)).trans hx160_4
                   replace p160 := eq_true p160
                   replace q160 := eq_true q160
                   have p161 : 0 ≤ (((rd_T58 l0 a1).f1) : Int) := of_decide_eq_true z2
                   have q161 : ((rd_T58 l0 a1).f1) < (l0.length : Int) := of_decide_eq_true z2
                   obtain ⟨ad161, e161, hx161_0, hx161_1, hx161_2, hx161_3, hx161_4⟩ := at_T58 HR0.out ((rd_T58 l0 a1).f1) p161 q161
                   obtain rfl : ad155 = ad161 := (by injection e161)
                   replace hx161_0 := (HB.out.cell (World.block_lt_of_cell? w _ hx161_0)).trans hx161_0
                   replace hx161_1 := (HB.out.cell (World.block_lt_of_cell? w _ hx161_1)).trans hx161_1
                   replace hx161_2 := (HB.out.cell (World.block_lt_of_cell? w _ hx161_2)).trans hx161_2
                   replace hx161_3 := (HB.out.cell (World.block_lt_of_cell? w _ hx161_3)).trans hx161_3
                   replace hx161_4 := (HB.out.cell (World.block_lt_of_cell? w _ hx161_4)).trans hx161_4
                   replace p161 := eq_true p161
                   replace q161 := eq_true q161
                   have p162 : 0 ≤ (((rd_T58 l0 a1).f1) : Int) := of_decide_eq_true z2
                   have q162 : ((rd_T58 l0 a1).f1) < (l0.length : Int) := of_decide_eq_true z2
                   obtain ⟨ad162, e162, hx162_0, hx162_1, hx162_2, hx162_3, hx162_4⟩ := at_T58 HR0.out ((rd_T58 l0 a1).f1) p162 q162
                   obtain rfl : ad155 = ad162 := (by injection e162)
                   replace hx162_0 := (HB.out.cell (World.block_lt_of_cell? w _ hx162_0)).trans hx162_0
                   replace hx162_1 := (HB.out.cell (World.block_lt_of_cell? w _ hx162_1)).trans hx162_1
                   replace hx162_2 := (HB.out.cell (World.block_lt_of_cell? w _ hx162_2)).trans hx162_2
                   replace hx162_3 := (HB.out.cell (World.block_lt_of_cell? w _ hx162_3)).trans hx162_3
                   replace hx162_4 := (HB.out.cell (World.block_lt_of_cell? w _ hx162_4)).trans hx162_4
                   replace p162 := eq_true p162
                   replace q162 := eq_true q162
                   have p163 : 0 ≤ (((rd_T58 l0 a1).f0) : Int) := of_decide_eq_true z2
                   have q163 : ((rd_T58 l0 a1).f0) < (l0.length : Int) := of_decide_eq_true z2
                   obtain ⟨ad163, e163, hx163_0, hx163_1, hx163_2, hx163_3, hx163_4⟩ := at_T58 HR0.out ((rd_T58 l0 a1).f0) p163 q163
                   obtain rfl : ad155 = ad163 := (by injection e163)
                   replace hx163_0 := (HB.out.cell (World.block_lt_of_cell? w _ hx163_0)).trans hx163_0
                   replace hx163_1 := (HB.out.cell (World.block_lt_of_cell? w _ hx163_1)).trans hx163_1
                   replace hx163_2 := (HB.out.cell (World.block_lt_of_cell? w _ hx163_2)).trans hx163_2
                   replace hx163_3 := (HB.out.cell (World.block_lt_of_cell? w _ hx163_3)).trans hx163_3
                   replace hx163_4 := (HB.out.cell (World.block_lt_of_cell? w _ hx163_4)).trans hx163_4
                   replace p163 := eq_true p163
                   replace q163 := eq_true q163
                   have p164 : 0 ≤ (((rd_T58 l0 a1).f1) : Int) := of_decide_eq_true z2
                   have q164 : ((rd_T58 l0 a1).f1) < (l0.length : Int) := of_decide_eq_true z2
                   obtain ⟨ad164, e164, hx164_0, hx164_1, hx164_2, hx164_3, hx164_4⟩ := at_T58 HR0.out ((rd_T58 l0 a1).f1) p164 q164
                   obtain rfl : ad155 = ad164 := (by injection e164)
                   replace hx164_0 := (HB.out.cell (World.block_lt_of_cell? w _ hx164_0)).trans hx164_0
                   replace hx164_1 := (HB.out.cell (World.block_lt_of_cell? w _ hx164_1)).trans hx164_1
                   replace hx164_2 := (HB.out.cell (World.block_lt_of_cell? w _ hx164_2)).trans hx164_2
                   replace hx164_3 := (HB.out.cell (World.block_lt_of_cell? w _ hx164_3)).trans hx164_3
                   replace hx164_4 := (HB.out.cell (World.block_lt_of_cell? w _ hx164_4)).trans hx164_4
                   replace p164 := eq_true p164
                   replace q164 := eq_true q164
                   go_wp2_with (first | (go_at_call 46; (with_reducible refine (ih kj30 (by have := HJ4.out; have := HJ22.out; have := HJ30.out; omega) _ _ l0 ((rd_T58 l0 a1).f0) t165 _ ?side1 ?side2 A43.out).mono ?_); (case side1 => repeat (first | exact (Kd.C_below HR0.out HB.out) | (with_reducible refine Kd.C_alloc ?_ _) | (with_reducible refine Kd.C_drewN ?_ _) | (with_reducible refine Kd.C_drew ?_))); (case side2 => exact HC0.out); rintro e w45 ⟨rfl, hb⟩; have n0_ := Aside0.mk (blk_below (g := gb156) (o := .cells #[.int .i64 ((rd_T58 l0 a1).f0), .int .i64 ((rd_T58 l0 a1).f1), .string ((rd_T58 l0 a1).f2), .int .i64 ((rd_T58 l0 a1).f3), .int .i64 ((rd_T58 l0 a1).f4)] 58 (0, 0)) (by (with_reducible repeat (first | refine blk_drewN ?_ _ | refine blk_drew ?_ | refine blk_alloc ?_ _)); exact BK156.out) hb); have n1_ := Aside0.mk (below_step (by repeat (first | (with_reducible first | exact HB.out | apply below_alloc | apply pw_below_drewN | apply below_drew1 | refine below_set ?_ GE156.out) | exact HB.out)) hb); clear BK156; clear HB; have BK156 := n0_; have HB := n1_; clear n0_ n1_; (try clear hb); (try clear hb2); (try clear hk); (try clear hi)))
                   repeat (go_quiet (first | (go_at_call 46; (with_reducible refine (ih kj30 (by have := HJ4.out; have := HJ22.out; have := HJ30.out; omega) _ _ l0 ((rd_T58 l0 a1).f0) t165 _ ?side1 ?side2 A43.out).mono ?_); (case side1 => repeat (first | exact (Kd.C_below HR0.out HB.out) | (with_reducible refine Kd.C_alloc ?_ _) | (with_reducible refine Kd.C_drewN ?_ _) | (with_reducible refine Kd.C_drew ?_))); (case side2 => exact HC0.out); rintro e w45 ⟨rfl, hb⟩; have n0_ := Aside0.mk (blk_below (g := gb156) (o := .cells #[.int .i64 ((rd_T58 l0 a1).f0), .int .i64 ((rd_T58 l0 a1).f1), .string ((rd_T58 l0 a1).f2), .int .i64 ((rd_T58 l0 a1).f3), .int .i64 ((rd_T58 l0 a1).f4)] 58 (0, 0)) (by (with_reducible repeat (first | refine blk_drewN ?_ _ | refine blk_drew ?_ | refine blk_alloc ?_ _)); exact BK156.out) hb); have n1_ := Aside0.mk (below_step (by repeat (first | (with_reducible first | exact HB.out | apply below_alloc | apply pw_below_drewN | apply below_drew1 | refine below_set ?_ GE156.out) | exact HB.out)) hb); clear BK156; clear HB; have BK156 := n0_; have HB := n1_; clear n0_ n1_; (try clear hb); (try clear hb2); (try clear hk); (try clear hi))); try go_wp2_with (first | (go_at_call 46; (with_reducible refine (ih kj30 (by have := HJ4.out; have := HJ22.out; have := HJ30.out; omega) _ _ l0 ((rd_T58 l0 a1).f0) t165 _ ?side1 ?side2 A43.out).mono ?_); (case side1 => repeat (first | exact (Kd.C_below HR0.out HB.out) | (with_reducible refine Kd.C_alloc ?_ _) | (with_reducible refine Kd.C_drewN ?_ _) | (with_reducible refine Kd.C_drew ?_))); (case side2 => exact HC0.out); rintro e w45 ⟨rfl, hb⟩; have n0_ := Aside0.mk (blk_below (g := gb156) (o := .cells #[.int .i64 ((rd_T58 l0 a1).f0), .int .i64 ((rd_T58 l0 a1).f1), .string ((rd_T58 l0 a1).f2), .int .i64 ((rd_T58 l0 a1).f3), .int .i64 ((rd_T58 l0 a1).f4)] 58 (0, 0)) (by (with_reducible repeat (first | refine blk_drewN ?_ _ | refine blk_drew ?_ | refine blk_alloc ?_ _)); exact BK156.out) hb); have n1_ := Aside0.mk (below_step (by repeat (first | (with_reducible first | exact HB.out | apply below_alloc | apply pw_below_drewN | apply below_drew1 | refine below_set ?_ GE156.out) | exact HB.out)) hb); clear BK156; clear HB; have BK156 := n0_; have HB := n1_; clear n0_ n1_; (try clear hb); (try clear hb2); (try clear hk); (try clear hi))))
                   go_ret
                   exact ⟨by first | rfl | (simp [errW_none, errW_some] <;> rfl) | (simp [*, errW_none, errW_some] <;> rfl), by repeat (first | (with_reducible first | exact HB.out | apply below_alloc | apply pw_below_drewN | apply below_drew1 | refine below_set ?_ GE156.out) | exact HB.out)⟩
                  ·rw [if_neg c42] at H
                   have c42b0 : (((rd_T58 l0 a1).f4) == (wrap64 (((rd_T58 l0 ((rd_T58 l0 a1).f1)).f4) + 1))) = false := beq_eq_false_iff_ne.mpr c42
                   have c42b1 : (((rd_T58 l0 a1).f4) != (wrap64 (((rd_T58 l0 ((rd_T58 l0 a1).f1)).f4) + 1))) = true := bne_iff_ne.mpr c42
                   obtain rfl := Option.some.inj H
                   have hcz46_0 : wc.cell? ⟨gb156, 0, none⟩ = some (.int .i64 ((rd_T58 l0 a1).f0)) := (blk_cell BK156.out 0).trans rfl
                   have hcz46_1 : wc.cell? ⟨gb156, 1, none⟩ = some (.int .i64 ((rd_T58 l0 a1).f1)) := (blk_cell BK156.out 1).trans rfl
                   have hcz46_2 : wc.cell? ⟨gb156, 2, none⟩ = some (.string ((rd_T58 l0 a1).f2)) := (blk_cell BK156.out 2).trans rfl
                   have hcz46_3 : wc.cell? ⟨gb156, 3, none⟩ = some (.int .i64 ((rd_T58 l0 a1).f3)) := (blk_cell BK156.out 3).trans rfl
                   have hcz46_4 : wc.cell? ⟨gb156, 4, none⟩ = some (.int .i64 ((rd_T58 l0 a1).f4)) := (blk_cell BK156.out 4).trans rfl
                   have hfz46_0 := blk_frozen BK156.out 0
                   have hfz46_1 := blk_frozen BK156.out 1
                   have hfz46_2 := blk_frozen BK156.out 2
                   have hfz46_3 := blk_frozen BK156.out 3
                   have hfz46_4 := blk_frozen BK156.out 4
                   have p160 : 0 ≤ (((rd_T58 l0 a1).f0) : Int) := of_decide_eq_true z2
                   have q160 : ((rd_T58 l0 a1).f0) < (l0.length : Int) := of_decide_eq_true z2
                   obtain ⟨ad160, e160, hx160_0, hx160_1, hx160_2, hx160_3, hx160_4⟩ := at_T58 HR0.out ((rd_T58 l0 a1).f0) p160 q160
                   obtain rfl : ad155 = ad160 := (by injection e160)
                   replace hx160_0 := (HB.out.cell (World.block_lt_of_cell? w _ hx160_0)).trans hx160_0
                   replace hx160_1 := (HB.out.cell (World.block_lt_of_cell? w _ hx160_1)).trans hx160_1
                   replace hx160_2 := (HB.out.cell (World.block_lt_of_cell? w _ hx160_2)).trans hx160_2
                   replace hx160_3 := (HB.out.cell (World.block_lt_of_cell? w _ hx160_3)).trans hx160_3
                   replace hx160_4 := (HB.out.cell (World.block_lt_of_cell? w _ hx160_4)).trans hx160_4
                   replace p160 := eq_true p160
                   replace q160 := eq_true q160
                   have p161 : 0 ≤ (((rd_T58 l0 a1).f1) : Int) := of_decide_eq_true z2
                   have q161 : ((rd_T58 l0 a1).f1) < (l0.length : Int) := of_decide_eq_true z2
                   obtain ⟨ad161, e161, hx161_0, hx161_1, hx161_2, hx161_3, hx161_4⟩ := at_T58 HR0.out ((rd_T58 l0 a1).f1) p161 q161
                   obtain rfl : ad155 = ad161 := (by injection e161)
                   replace hx161_0 := (HB.out.cell (World.block_lt_of_cell? w _ hx161_0)).trans hx161_0
                   replace hx161_1 := (HB.out.cell (World.block_lt_of_cell? w _ hx161_1)).trans hx161_1
                   replace hx161_2 := (HB.out.cell (World.block_lt_of_cell? w _ hx161_2)).trans hx161_2
                   replace hx161_3 := (HB.out.cell (World.block_lt_of_cell? w _ hx161_3)).trans hx161_3
                   replace hx161_4 := (HB.out.cell (World.block_lt_of_cell? w _ hx161_4)).trans hx161_4
                   replace p161 := eq_true p161
                   replace q161 := eq_true q161
                   have p162 : 0 ≤ (((rd_T58 l0 a1).f1) : Int) := of_decide_eq_true z2
                   have q162 : ((rd_T58 l0 a1).f1) < (l0.length : Int) := of_decide_eq_true z2
                   obtain ⟨ad162, e162, hx162_0, hx162_1, hx162_2, hx162_3, hx162_4⟩ := at_T58 HR0.out ((rd_T58 l0 a1).f1) p162 q162
                   obtain rfl : ad155 = ad162 := (by injection e162)
                   replace hx162_0 := (HB.out.cell (World.block_lt_of_cell? w _ hx162_0)).trans hx162_0
                   replace hx162_1 := (HB.out.cell (World.block_lt_of_cell? w _ hx162_1)).trans hx162_1
                   replace hx162_2 := (HB.out.cell (World.block_lt_of_cell? w _ hx162_2)).trans hx162_2
                   replace hx162_3 := (HB.out.cell (World.block_lt_of_cell? w _ hx162_3)).trans hx162_3
                   replace hx162_4 := (HB.out.cell (World.block_lt_of_cell? w _ hx162_4)).trans hx162_4
                   replace p162 := eq_true p162
                   replace q162 := eq_true q162
                   have p163 : 0 ≤ (((rd_T58 l0 a1).f0) : Int) := of_decide_eq_true z2
                   have q163 : ((rd_T58 l0 a1).f0) < (l0.length : Int) := of_decide_eq_true z2
                   obtain ⟨ad163, e163, hx163_0, hx163_1, hx163_2, hx163_3, hx163_4⟩ := at_T58 HR0.out ((rd_T58 l0 a1).f0) p163 q163
                   obtain rfl : ad155 = ad163 := (by injection e163)
                   replace hx163_0 := (HB.out.cell (World.block_lt_of_cell? w _ hx163_0)).trans hx163_0
                   replace hx163_1 := (HB.out.cell (World.block_lt_of_cell? w _ hx163_1)).trans hx163_1
                   replace hx163_2 := (HB.out.cell (World.block_lt_of_cell? w _ hx163_2)).trans hx163_2
                   replace hx163_3 := (HB.out.cell (World.block_lt_of_cell? w _ hx163_3)).trans hx163_3
                   replace hx163_4 := (HB.out.cell (World.block_lt_of_cell? w _ hx163_4)).trans hx163_4
                   replace p163 := eq_true p163
                   replace q163 := eq_true q163
                   have p164 : 0 ≤ (((rd_T58 l0 a1).f1) : Int) := of_decide_eq_true z2
                   have q164 : ((rd_T58 l0 a1).f1) < (l0.length : Int) := of_decide_eq_true z2
                   obtain ⟨ad164, e164, hx164_0, hx164_1, hx164_2, hx164_3, hx164_4⟩ := at_T58 HR0.out ((rd_T58 l0 a1).f1) p164 q164
                   obtain rfl : ad155 = ad164 := (by injection e164)
                   replace hx164_0 := (HB.out.cell (World.block_lt_of_cell? w _ hx164_0)).trans hx164_0
                   replace hx164_1 := (HB.out.cell (World.block_lt_of_cell? w _ hx164_1)).trans hx164_1
                   replace hx164_2 := (HB.out.cell (World.block_lt_of_cell? w _ hx164_2)).trans hx164_2
                   replace hx164_3 := (HB.out.cell (World.block_lt_of_cell? w _ hx164_3)).trans hx164_3
                   replace hx164_4 := (HB.out.cell (World.block_lt_of_cell? w _ hx164_4)).trans hx164_4
                   replace p164 := eq_true p164
                   replace q164 := eq_true q164
                   go_wp2
                   repeat (go_quiet (fail); try go_wp2)
                   go_ret
                   exact ⟨by first | rfl | (simp [errW_none, errW_some] <;> rfl) | (simp [*, errW_none, errW_some] <;> rfl), by repeat (first | (with_reducible first | exact HB.out | apply below_alloc | apply pw_below_drewN | apply below_drew1 | refine below_set ?_ GE156.out) | exact HB.out)⟩
                 ·rw [if_neg c41] at H
                  have c41b0 : (((rd_T58 l0 a1).f3) == (wrap64 (((rd_T58 l0 ((rd_T58 l0 a1).f0)).f3) + ((rd_T58 l0 ((rd_T58 l0 a1).f1)).f3)))) = false := beq_eq_false_iff_ne.mpr c41
                  have c41b1 : (((rd_T58 l0 a1).f3) != (wrap64 (((rd_T58 l0 ((rd_T58 l0 a1).f0)).f3) + ((rd_T58 l0 ((rd_T58 l0 a1).f1)).f3)))) = true := bne_iff_ne.mpr c41
                  obtain rfl := Option.some.inj H
                  have hcz47_0 : wc.cell? ⟨gb156, 0, none⟩ = some (.int .i64 ((rd_T58 l0 a1).f0)) := (blk_cell BK156.out 0).trans rfl
                  have hcz47_1 : wc.cell? ⟨gb156, 1, none⟩ = some (.int .i64 ((rd_T58 l0 a1).f1)) := (blk_cell BK156.out 1).trans rfl
                  have hcz47_2 : wc.cell? ⟨gb156, 2, none⟩ = some (.string ((rd_T58 l0 a1).f2)) := (blk_cell BK156.out 2).trans rfl
                  have hcz47_3 : wc.cell? ⟨gb156, 3, none⟩ = some (.int .i64 ((rd_T58 l0 a1).f3)) := (blk_cell BK156.out 3).trans rfl
                  have hcz47_4 : wc.cell? ⟨gb156, 4, none⟩ = some (.int .i64 ((rd_T58 l0 a1).f4)) := (blk_cell BK156.out 4).trans rfl
                  have hfz47_0 := blk_frozen BK156.out 0
                  have hfz47_1 := blk_frozen BK156.out 1
                  have hfz47_2 := blk_frozen BK156.out 2
                  have hfz47_3 := blk_frozen BK156.out 3
                  have hfz47_4 := blk_frozen BK156.out 4
                  have p160 : 0 ≤ (((rd_T58 l0 a1).f0) : Int) := of_decide_eq_true z2
                  have q160 : ((rd_T58 l0 a1).f0) < (l0.length : Int) := of_decide_eq_true z2
                  obtain ⟨ad160, e160, hx160_0, hx160_1, hx160_2, hx160_3, hx160_4⟩ := at_T58 HR0.out ((rd_T58 l0 a1).f0) p160 q160
                  obtain rfl : ad155 = ad160 := (by injection e160)
                  replace hx160_0 := (HB.out.cell (World.block_lt_of_cell? w _ hx160_0)).trans hx160_0
                  replace hx160_1 := (HB.out.cell (World.block_lt_of_cell? w _ hx160_1)).trans hx160_1
                  replace hx160_2 := (HB.out.cell (World.block_lt_of_cell? w _ hx160_2)).trans hx160_2
                  replace hx160_3 := (HB.out.cell (World.block_lt_of_cell? w _ hx160_3)).trans hx160_3
                  replace hx160_4 := (HB.out.cell (World.block_lt_of_cell? w _ hx160_4)).trans hx160_4
                  replace p160 := eq_true p160
                  replace q160 := eq_true q160
                  have p161 : 0 ≤ (((rd_T58 l0 a1).f1) : Int) := of_decide_eq_true z2
                  have q161 : ((rd_T58 l0 a1).f1) < (l0.length : Int) := of_decide_eq_true z2
                  obtain ⟨ad161, e161, hx161_0, hx161_1, hx161_2, hx161_3, hx161_4⟩ := at_T58 HR0.out ((rd_T58 l0 a1).f1) p161 q161
                  obtain rfl : ad155 = ad161 := (by injection e161)
                  replace hx161_0 := (HB.out.cell (World.block_lt_of_cell? w _ hx161_0)).trans hx161_0
                  replace hx161_1 := (HB.out.cell (World.block_lt_of_cell? w _ hx161_1)).trans hx161_1
                  replace hx161_2 := (HB.out.cell (World.block_lt_of_cell? w _ hx161_2)).trans hx161_2
                  replace hx161_3 := (HB.out.cell (World.block_lt_of_cell? w _ hx161_3)).trans hx161_3
                  replace hx161_4 := (HB.out.cell (World.block_lt_of_cell? w _ hx161_4)).trans hx161_4
                  replace p161 := eq_true p161
                  replace q161 := eq_true q161
                  have p162 : 0 ≤ (((rd_T58 l0 a1).f1) : Int) := of_decide_eq_true z2
                  have q162 : ((rd_T58 l0 a1).f1) < (l0.length : Int) := of_decide_eq_true z2
                  obtain ⟨ad162, e162, hx162_0, hx162_1, hx162_2, hx162_3, hx162_4⟩ := at_T58 HR0.out ((rd_T58 l0 a1).f1) p162 q162
                  obtain rfl : ad155 = ad162 := (by injection e162)
                  replace hx162_0 := (HB.out.cell (World.block_lt_of_cell? w _ hx162_0)).trans hx162_0
                  replace hx162_1 := (HB.out.cell (World.block_lt_of_cell? w _ hx162_1)).trans hx162_1
                  replace hx162_2 := (HB.out.cell (World.block_lt_of_cell? w _ hx162_2)).trans hx162_2
                  replace hx162_3 := (HB.out.cell (World.block_lt_of_cell? w _ hx162_3)).trans hx162_3
                  replace hx162_4 := (HB.out.cell (World.block_lt_of_cell? w _ hx162_4)).trans hx162_4
                  replace p162 := eq_true p162
                  replace q162 := eq_true q162
                  have p163 : 0 ≤ (((rd_T58 l0 a1).f0) : Int) := of_decide_eq_true z2
                  have q163 : ((rd_T58 l0 a1).f0) < (l0.length : Int) := of_decide_eq_true z2
                  obtain ⟨ad163, e163, hx163_0, hx163_1, hx163_2, hx163_3, hx163_4⟩ := at_T58 HR0.out ((rd_T58 l0 a1).f0) p163 q163
                  obtain rfl : ad155 = ad163 := (by injection e163)
                  replace hx163_0 := (HB.out.cell (World.block_lt_of_cell? w _ hx163_0)).trans hx163_0
                  replace hx163_1 := (HB.out.cell (World.block_lt_of_cell? w _ hx163_1)).trans hx163_1
                  replace hx163_2 := (HB.out.cell (World.block_lt_of_cell? w _ hx163_2)).trans hx163_2
                  replace hx163_3 := (HB.out.cell (World.block_lt_of_cell? w _ hx163_3)).trans hx163_3
                  replace hx163_4 := (HB.out.cell (World.block_lt_of_cell? w _ hx163_4)).trans hx163_4
                  replace p163 := eq_true p163
                  replace q163 := eq_true q163
                  have p164 : 0 ≤ (((rd_T58 l0 a1).f1) : Int) := of_decide_eq_true z2
                  have q164 : ((rd_T58 l0 a1).f1) < (l0.length : Int) := of_decide_eq_true z2
                  obtain ⟨ad164, e164, hx164_0, hx164_1, hx164_2, hx164_3, hx164_4⟩ := at_T58 HR0.out ((rd_T58 l0 a1).f1) p164 q164
                  obtain rfl : ad155 = ad164 := (by injection e164)
                  replace hx164_0 := (HB.out.cell (World.block_lt_of_cell? w _ hx164_0)).trans hx164_0
                  replace hx164_1 := (HB.out.cell (World.block_lt_of_cell? w _ hx164_1)).trans hx164_1
                  replace hx164_2 := (HB.out.cell (World.block_lt_of_cell? w _ hx164_2)).trans hx164_2
                  replace hx164_3 := (HB.out.cell (World.block_lt_of_cell? w _ hx164_3)).trans hx164_3
                  replace hx164_4 := (HB.out.cell (World.block_lt_of_cell? w _ hx164_4)).trans hx164_4
                  replace p164 := eq_true p164
                  replace q164 := eq_true q164
                  go_wp2
                  repeat (go_quiet (fail); try go_wp2)
                  go_ret
                  exact ⟨by first | rfl | (simp [errW_none, errW_some] <;> rfl) | (simp [*, errW_none, errW_some] <;> rfl), by repeat (first | (with_reducible first | exact HB.out | apply below_alloc | apply pw_below_drewN | apply below_drew1 | refine below_set ?_ GE156.out) | exact HB.out)⟩
                ·rw [if_neg c40] at H
                 have c40b0 : decide (((rd_T58 l0 ((rd_T58 l0 a1).f0)).f4) < ((rd_T58 l0 ((rd_T58 l0 a1).f1)).f4)) = false := decide_eq_false c40
                 clear c40
                 by_cases c48 : ((rd_T58 l0 a1).f3) = (wrap64 (((rd_T58 l0 ((rd_T58 l0 a1).f0)).f3) + ((rd_T58 l0 ((rd_T58 l0 a1).f1)).f3)))
                 ·rw [if_pos c48] at H
                  have c48b0 : (((rd_T58 l0 a1).f3) == (wrap64 (((rd_T58 l0 ((rd_T58 l0 a1).f0)).f3) + ((rd_T58 l0 ((rd_T58 l0 a1).f1)).f3)))) = true := beq_iff_eq.mpr c48
                  have c48b1 : (((rd_T58 l0 a1).f3) != (wrap64 (((rd_T58 l0 ((rd_T58 l0 a1).f0)).f3) + ((rd_T58 l0 ((rd_T58 l0 a1).f1)).f3)))) = false := bne_eq_false_iff_eq.mpr c48
                  clear c48
                  by_cases c49 : ((rd_T58 l0 a1).f4) = (wrap64 (((rd_T58 l0 ((rd_T58 l0 a1).f0)).f4) + 1))
                  ·rw [if_pos c49] at H
                   have c49b0 : (((rd_T58 l0 a1).f4) == (wrap64 (((rd_T58 l0 ((rd_T58 l0 a1).f0)).f4) + 1))) = true := beq_iff_eq.mpr c49
                   have c49b1 : (((rd_T58 l0 a1).f4) != (wrap64 (((rd_T58 l0 ((rd_T58 l0 a1).f0)).f4) + 1))) = false := bne_eq_false_iff_eq.mpr c49
                   clear c49
                   replace H := Option.bind_eq_some_iff.mp H
                   obtain ⟨t168, A500, H⟩ := H
                   try dsimp only at H
                   have A50 := Aside0.mk A500
                   clear A500
                   obtain rfl := Option.some.inj H
                   have hcz51_0 : wc.cell? ⟨gb156, 0, none⟩ = some (.int .i64 ((rd_T58 l0 a1).f0)) := (blk_cell BK156.out 0).trans rfl
                   have hcz51_1 : wc.cell? ⟨gb156, 1, none⟩ = some (.int .i64 ((rd_T58 l0 a1).f1)) := (blk_cell BK156.out 1).trans rfl
                   have hcz51_2 : wc.cell? ⟨gb156, 2, none⟩ = some (.string ((rd_T58 l0 a1).f2)) := (blk_cell BK156.out 2).trans rfl
                   have hcz51_3 : wc.cell? ⟨gb156, 3, none⟩ = some (.int .i64 ((rd_T58 l0 a1).f3)) := (blk_cell BK156.out 3).trans rfl
                   have hcz51_4 : wc.cell? ⟨gb156, 4, none⟩ = some (.int .i64 ((rd_T58 l0 a1).f4)) := (blk_cell BK156.out 4).trans rfl
                   have hfz51_0 := blk_frozen BK156.out 0
                   have hfz51_1 := blk_frozen BK156.out 1
                   have hfz51_2 := blk_frozen BK156.out 2
                   have hfz51_3 := blk_frozen BK156.out 3
                   have hfz51_4 := blk_frozen BK156.out 4
                   have p160 : 0 ≤ (((rd_T58 l0 a1).f0) : Int) := of_decide_eq_true z2
                   have q160 : ((rd_T58 l0 a1).f0) < (l0.length : Int) := of_decide_eq_true z2
                   obtain ⟨ad160, e160, hx160_0, hx160_1, hx160_2, hx160_3, hx160_4⟩ := at_T58 HR0.out ((rd_T58 l0 a1).f0) p160 q160
                   obtain rfl : ad155 = ad160 := (by injection e160)
                   replace hx160_0 := (HB.out.cell (World.block_lt_of_cell? w _ hx160_0)).trans hx160_0
                   replace hx160_1 := (HB.out.cell (World.block_lt_of_cell? w _ hx160_1)).trans hx160_1
                   replace hx160_2 := (HB.out.cell (World.block_lt_of_cell? w _ hx160_2)).trans hx160_2
                   replace hx160_3 := (HB.out.cell (World.block_lt_of_cell? w _ hx160_3)).trans hx160_3
                   replace hx160_4 := (HB.out.cell (World.block_lt_of_cell? w _ hx160_4)).trans hx160_4
                   replace p160 := eq_true p160
                   replace q160 := eq_true q160
                   have p161 : 0 ≤ (((rd_T58 l0 a1).f1) : Int) := of_decide_eq_true z2
                   have q161 : ((rd_T58 l0 a1).f1) < (l0.length : Int) := of_decide_eq_true z2
                   obtain ⟨ad161, e161, hx161_0, hx161_1, hx161_2, hx161_3, hx161_4⟩ := at_T58 HR0.out ((rd_T58 l0 a1).f1) p161 q161
                   obtain rfl : ad155 = ad161 := (by injection e161)
                   replace hx161_0 := (HB.out.cell (World.block_lt_of_cell? w _ hx161_0)).trans hx161_0
                   replace hx161_1 := (HB.out.cell (World.block_lt_of_cell? w _ hx161_1)).trans hx161_1
                   replace hx161_2 := (HB.out.cell (World.block_lt_of_cell? w _ hx161_2)).trans hx161_2
                   replace hx161_3 := (HB.out.cell (World.block_lt_of_cell? w _ hx161_3)).trans hx161_3
                   replace hx161_4 := (HB.out.cell (World.block_lt_of_cell? w _ hx161_4)).trans hx161_4
                   replace p161 := eq_true p161
                   replace q161 := eq_true q161
                   have p166 : 0 ≤ (((rd_T58 l0 a1).f0) : Int) := of_decide_eq_true z2
                   have q166 : ((rd_T58 l0 a1).f0) < (l0.length : Int) := of_decide_eq_true z2
                   obtain ⟨ad166, e166, hx166_0, hx166_1, hx166_2, hx166_3, hx166_4⟩ := at_T58 HR0.out ((rd_T58 l0 a1).f0) p166 q166
                   obtain rfl : ad155 = ad166 := (by injection e166)
                   replace hx166_0 := (HB.out.cell (World.block_lt_of_cell? w _ hx166_0)).trans hx166_0
                   replace hx166_1 := (HB.out.cell (World.block_lt_of_cell? w _ hx166_1)).trans hx166_1
                   replace hx166_2 := (HB.out.cell (World.block_lt_of_cell? w _ hx166_2)).trans hx166_2
                   replace hx166_3 := (HB.out.cell (World.block_lt_of_cell? w _ hx166_3)).trans hx166_3
                   replace hx166_4 := (HB.out.cell (World.block_lt_of_cell? w _ hx166_4)).trans hx166_4
                   replace p166 := eq_true p166
                   replace q166 := eq_true q166
                   have p167 : 0 ≤ (((rd_T58 l0 a1).f1) : Int) := of_decide_eq_true z2
                   have q167 : ((rd_T58 l0 a1).f1) < (l0.length : Int) := of_decide_eq_true z2
                   obtain ⟨ad167, e167, hx167_0, hx167_1, hx167_2, hx167_3, hx167_4⟩ := at_T58 HR0.out ((rd_T58 l0 a1).f1) p167 q167
                   obtain rfl : ad155 = ad167 := (by injection e167)
                   replace hx167_0 := (HB.out.cell (World.block_lt_of_cell? w _ hx167_0)).trans hx167_0
                   replace hx167_1 := (HB.out.cell (World.block_lt_of_cell? w _ hx167_1)).trans hx167_1
                   replace hx167_2 := (HB.out.cell (World.block_lt_of_cell? w _ hx167_2)).trans hx167_2
                   replace hx167_3 := (HB.out.cell (World.block_lt_of_cell? w _ hx167_3)).trans hx167_3
                   replace hx167_4 := (HB.out.cell (World.block_lt_of_cell? w _ hx167_4)).trans hx167_4
                   replace p167 := eq_true p167
                   replace q167 := eq_true q167
                   go_wp2_with (first | (go_at_call 46; (with_reducible refine (ih kj30 (by have := HJ4.out; have := HJ22.out; have := HJ30.out; omega) _ _ l0 ((rd_T58 l0 a1).f0) t168 _ ?side1 ?side2 A50.out).mono ?_); (case side1 => repeat (first | exact (Kd.C_below HR0.out HB.out) | (with_reducible refine Kd.C_alloc ?_ _) | (with_reducible refine Kd.C_drewN ?_ _) | (with_reducible refine Kd.C_drew ?_))); (case side2 => exact HC0.out); rintro e w52 ⟨rfl, hb⟩; have n0_ := Aside0.mk (blk_below (g := gb156) (o := .cells #[.int .i64 ((rd_T58 l0 a1).f0), .int .i64 ((rd_T58 l0 a1).f1), .string ((rd_T58 l0 a1).f2), .int .i64 ((rd_T58 l0 a1).f3), .int .i64 ((rd_T58 l0 a1).f4)] 58 (0, 0)) (by (with_reducible repeat (first | refine blk_drewN ?_ _ | refine blk_drew ?_ | refine blk_alloc ?_ _)); exact BK156.out) hb); have n1_ := Aside0.mk (below_step (by repeat (first | (with_reducible first | exact HB.out | apply below_alloc | apply pw_below_drewN | apply below_drew1 | refine below_set ?_ GE156.out) | exact HB.out)) hb); clear BK156; clear HB; have BK156 := n0_; have HB := n1_; clear n0_ n1_; (try clear hb); (try clear hb2); (try clear hk); (try clear hi)))
                   repeat (go_quiet (first | (go_at_call 46; (with_reducible refine (ih kj30 (by have := HJ4.out; have := HJ22.out; have := HJ30.out; omega) _ _ l0 ((rd_T58 l0 a1).f0) t168 _ ?side1 ?side2 A50.out).mono ?_); (case side1 => repeat (first | exact (Kd.C_below HR0.out HB.out) | (with_reducible refine Kd.C_alloc ?_ _) | (with_reducible refine Kd.C_drewN ?_ _) | (with_reducible refine Kd.C_drew ?_))); (case side2 => exact HC0.out); rintro e w52 ⟨rfl, hb⟩; have n0_ := Aside0.mk (blk_below (g := gb156) (o := .cells #[.int .i64 ((rd_T58 l0 a1).f0), .int .i64 ((rd_T58 l0 a1).f1), .string ((rd_T58 l0 a1).f2), .int .i64 ((rd_T58 l0 a1).f3), .int .i64 ((rd_T58 l0 a1).f4)] 58 (0, 0)) (by (with_reducible repeat (first | refine blk_drewN ?_ _ | refine blk_drew ?_ | refine blk_alloc ?_ _)); exact BK156.out) hb); have n1_ := Aside0.mk (below_step (by repeat (first | (with_reducible first | exact HB.out | apply below_alloc | apply pw_below_drewN | apply below_drew1 | refine below_set ?_ GE156.out) | exact HB.out)) hb); clear BK156; clear HB; have BK156 := n0_; have HB := n1_; clear n0_ n1_; (try clear hb); (try clear hb2); (try clear hk); (try clear hi))); try go_wp2_with (first | (go_at_call 46; (with_reducible refine (ih kj30 (by have := HJ4.out; have := HJ22.out; have := HJ30.out; omega) _ _ l0 ((rd_T58 l0 a1).f0) t168 _ ?side1 ?side2 A50.out).mono ?_); (case side1 => repeat (first | exact (Kd.C_below HR0.out HB.out) | (with_reducible refine Kd.C_alloc ?_ _) | (with_reducible refine Kd.C_drewN ?_ _) | (with_reducible refine Kd.C_drew ?_))); (case side2 => exact HC0.out); rintro e w52 ⟨rfl, hb⟩; have n0_ := Aside0.mk (blk_below (g := gb156) (o := .cells #[.int .i64 ((rd_T58 l0 a1).f0), .int .i64 ((rd_T58 l0 a1).f1), .string ((rd_T58 l0 a1).f2), .int .i64 ((rd_T58 l0 a1).f3), .int .i64 ((rd_T58 l0 a1).f4)] 58 (0, 0)) (by (with_reducible repeat (first | refine blk_drewN ?_ _ | refine blk_drew ?_ | refine blk_alloc ?_ _)); exact BK156.out) hb); have n1_ := Aside0.mk (below_step (by repeat (first | (with_reducible first | exact HB.out | apply below_alloc | apply pw_below_drewN | apply below_drew1 | refine below_set ?_ GE156.out) | exact HB.out)) hb); clear BK156; clear HB; have BK156 := n0_; have HB := n1_; clear n0_ n1_; (try clear hb); (try clear hb2); (try clear hk); (try clear hi))))
                   go_ret
                   exact ⟨by first | rfl | (simp [errW_none, errW_some] <;> rfl) | (simp [*, errW_none, errW_some] <;> rfl), by repeat (first | (with_reducible first | exact HB.out | apply below_alloc | apply pw_below_drewN | apply below_drew1 | refine below_set ?_ GE156.out) | exact HB.out)⟩
                  ·rw [if_neg c49] at H
                   have c49b0 : (((rd_T58 l0 a1).f4) == (wrap64 (((rd_T58 l0 ((rd_T58 l0 a1).f0)).f4) + 1))) = false := beq_eq_false_iff_ne.mpr c49
                   have c49b1 : (((rd_T58 l0 a1).f4) != (wrap64 (((rd_T58 l0 ((rd_T58 l0 a1).f0)).f4) + 1))) = true := bne_iff_ne.mpr c49
                   obtain rfl := Option.some.inj H
                   have hcz53_0 : wc.cell? ⟨gb156, 0, none⟩ = some (.int .i64 ((rd_T58 l0 a1).f0)) := (blk_cell BK156.out 0).trans rfl
                   have hcz53_1 : wc.cell? ⟨gb156, 1, none⟩ = some (.int .i64 ((rd_T58 l0 a1).f1)) := (blk_cell BK156.out 1).trans rfl
                   have hcz53_2 : wc.cell? ⟨gb156, 2, none⟩ = some (.string ((rd_T58 l0 a1).f2)) := (blk_cell BK156.out 2).trans rfl
                   have hcz53_3 : wc.cell? ⟨gb156, 3, none⟩ = some (.int .i64 ((rd_T58 l0 a1).f3)) := (blk_cell BK156.out 3).trans rfl
                   have hcz53_4 : wc.cell? ⟨gb156, 4, none⟩ = some (.int .i64 ((rd_T58 l0 a1).f4)) := (blk_cell BK156.out 4).trans rfl
                   have hfz53_0 := blk_frozen BK156.out 0
                   have hfz53_1 := blk_frozen BK156.out 1
                   have hfz53_2 := blk_frozen BK156.out 2
                   have hfz53_3 := blk_frozen BK156.out 3
                   have hfz53_4 := blk_frozen BK156.out 4
                   have p160 : 0 ≤ (((rd_T58 l0 a1).f0) : Int) := of_decide_eq_true z2
                   have q160 : ((rd_T58 l0 a1).f0) < (l0.length : Int) := of_decide_eq_true z2
                   obtain ⟨ad160, e160, hx160_0, hx160_1, hx160_2, hx160_3, hx160_4⟩ := at_T58 HR0.out ((rd_T58 l0 a1).f0) p160 q160
                   obtain rfl : ad155 = ad160 := (by injection e160)
                   replace hx160_0 := (HB.out.cell (World.block_lt_of_cell? w _ hx160_0)).trans hx160_0
                   replace hx160_1 := (HB.out.cell (World.block_lt_of_cell? w _ hx160_1)).trans hx160_1
                   replace hx160_2 := (HB.out.cell (World.block_lt_of_cell? w _ hx160_2)).trans hx160_2
                   replace hx160_3 := (HB.out.cell (World.block_lt_of_cell? w _ hx160_3)).trans hx160_3
                   replace hx160_4 := (HB.out.cell (World.block_lt_of_cell? w _ hx160_4)).trans hx160_4
                   replace p160 := eq_true p160
                   replace q160 := eq_true q160
                   have p161 : 0 ≤ (((rd_T58 l0 a1).f1) : Int) := of_decide_eq_true z2
                   have q161 : ((rd_T58 l0 a1).f1) < (l0.length : Int) := of_decide_eq_true z2
                   obtain ⟨ad161, e161, hx161_0, hx161_1, hx161_2, hx161_3, hx161_4⟩ := at_T58 HR0.out ((rd_T58 l0 a1).f1) p161 q161
                   obtain rfl : ad155 = ad161 := (by injection e161)
                   replace hx161_0 := (HB.out.cell (World.block_lt_of_cell? w _ hx161_0)).trans hx161_0
                   replace hx161_1 := (HB.out.cell (World.block_lt_of_cell? w _ hx161_1)).trans hx161_1
                   replace hx161_2 := (HB.out.cell (World.block_lt_of_cell? w _ hx161_2)).trans hx161_2
                   replace hx161_3 := (HB.out.cell (World.block_lt_of_cell? w _ hx161_3)).trans hx161_3
                   replace hx161_4 := (HB.out.cell (World.block_lt_of_cell? w _ hx161_4)).trans hx161_4
                   replace p161 := eq_true p161
                   replace q161 := eq_true q161
                   have p166 : 0 ≤ (((rd_T58 l0 a1).f0) : Int) := of_decide_eq_true z2
                   have q166 : ((rd_T58 l0 a1).f0) < (l0.length : Int) := of_decide_eq_true z2
                   obtain ⟨ad166, e166, hx166_0, hx166_1, hx166_2, hx166_3, hx166_4⟩ := at_T58 HR0.out ((rd_T58 l0 a1).f0) p166 q166
                   obtain rfl : ad155 = ad166 := (by injection e166)
                   replace hx166_0 := (HB.out.cell (World.block_lt_of_cell? w _ hx166_0)).trans hx166_0
                   replace hx166_1 := (HB.out.cell (World.block_lt_of_cell? w _ hx166_1)).trans hx166_1
                   replace hx166_2 := (HB.out.cell (World.block_lt_of_cell? w _ hx166_2)).trans hx166_2
                   replace hx166_3 := (HB.out.cell (World.block_lt_of_cell? w _ hx166_3)).trans hx166_3
                   replace hx166_4 := (HB.out.cell (World.block_lt_of_cell? w _ hx166_4)).trans hx166_4
                   replace p166 := eq_true p166
                   replace q166 := eq_true q166
                   have p167 : 0 ≤ (((rd_T58 l0 a1).f1) : Int) := of_decide_eq_true z2
                   have q167 : ((rd_T58 l0 a1).f1) < (l0.length : Int) := of_decide_eq_true z2
                   obtain ⟨ad167, e167, hx167_0, hx167_1, hx167_2, hx167_3, hx167_4⟩ := at_T58 HR0.out ((rd_T58 l0 a1).f1) p167 q167
                   obtain rfl : ad155 = ad167 := (by injection e167)
                   replace hx167_0 := (HB.out.cell (World.block_lt_of_cell? w _ hx167_0)).trans hx167_0
                   replace hx167_1 := (HB.out.cell (World.block_lt_of_cell? w _ hx167_1)).trans hx167_1
                   replace hx167_2 := (HB.out.cell (World.block_lt_of_cell? w _ hx167_2)).trans hx167_2
                   replace hx167_3 := (HB.out.cell (World.block_lt_of_cell? w _ hx167_3)).trans hx167_3
                   replace hx167_4 := (HB.out.cell (World.block_lt_of_cell? w _ hx167_4)).trans hx167_4
                   replace p167 := eq_true p167
                   replace q167 := eq_true q167
                   go_wp2
                   repeat (go_quiet (fail); try go_wp2)
                   go_ret
                   exact ⟨by first | rfl | (simp [errW_none, errW_some] <;> rfl) | (simp [*, errW_none, errW_some] <;> rfl), by repeat (first | (with_reducible first | exact HB.out | apply below_alloc | apply pw_below_drewN | apply below_drew1 | refine below_set ?_ GE156.out) | exact HB.out)⟩
                 ·rw [if_neg c48] at H
                  have c48b0 : (((rd_T58 l0 a1).f3) == (wrap64 (((rd_T58 l0 ((rd_T58 l0 a1).f0)).f3) + ((rd_T58 l0 ((rd_T58 l0 a1).f1)).f3)))) = false := beq_eq_false_iff_ne.mpr c48
                  have c48b1 : (((rd_T58 l0 a1).f3) != (wrap64 (((rd_T58 l0 ((rd_T58 l0 a1).f0)).f3) + ((rd_T58 l0 ((rd_T58 l0 a1).f1)).f3)))) = true := bne_iff_ne.mpr c48
                  obtain rfl := Option.some.inj H
                  have hcz54_0 : wc.cell? ⟨gb156, 0, none⟩ = some (.int .i64 ((rd_T58 l0 a1).f0)) := (blk_cell BK156.out 0).trans rfl
                  have hcz54_1 : wc.cell? ⟨gb156, 1, none⟩ = some (.int .i64 ((rd_T58 l0 a1).f1)) := (blk_cell BK156.out 1).trans rfl
                  have hcz54_2 : wc.cell? ⟨gb156, 2, none⟩ = some (.string ((rd_T58 l0 a1).f2)) := (blk_cell BK156.out 2).trans rfl
                  have hcz54_3 : wc.cell? ⟨gb156, 3, none⟩ = some (.int .i64 ((rd_T58 l0 a1).f3)) := (blk_cell BK156.out 3).trans rfl
                  have hcz54_4 : wc.cell? ⟨gb156, 4, none⟩ = some (.int .i64 ((rd_T58 l0 a1).f4)) := (blk_cell BK156.out 4).trans rfl
                  have hfz54_0 := blk_frozen BK156.out 0
                  have hfz54_1 := blk_frozen BK156.out 1
                  have hfz54_2 := blk_frozen BK156.out 2
                  have hfz54_3 := blk_frozen BK156.out 3
                  have hfz54_4 := blk_frozen BK156.out 4
                  have p160 : 0 ≤ (((rd_T58 l0 a1).f0) : Int) := of_decide_eq_true z2
                  have q160 : ((rd_T58 l0 a1).f0) < (l0.length : Int) := of_decide_eq_true z2
                  obtain ⟨ad160, e160, hx160_0, hx160_1, hx160_2, hx160_3, hx160_4⟩ := at_T58 HR0.out ((rd_T58 l0 a1).f0) p160 q160
                  obtain rfl : ad155 = ad160 := (by injection e160)
                  replace hx160_0 := (HB.out.cell (World.block_lt_of_cell? w _ hx160_0)).trans hx160_0
                  replace hx160_1 := (HB.out.cell (World.block_lt_of_cell? w _ hx160_1)).trans hx160_1
                  replace hx160_2 := (HB.out.cell (World.block_lt_of_cell? w _ hx160_2)).trans hx160_2
                  replace hx160_3 := (HB.out.cell (World.block_lt_of_cell? w _ hx160_3)).trans hx160_3
                  replace hx160_4 := (HB.out.cell (World.block_lt_of_cell? w _ hx160_4)).trans hx160_4
                  replace p160 := eq_true p160
                  replace q160 := eq_true q160
                  have p161 : 0 ≤ (((rd_T58 l0 a1).f1) : Int) := of_decide_eq_true z2
                  have q161 : ((rd_T58 l0 a1).f1) < (l0.length : Int) := of_decide_eq_true z2
                  obtain ⟨ad161, e161, hx161_0, hx161_1, hx161_2, hx161_3, hx161_4⟩ := at_T58 HR0.out ((rd_T58 l0 a1).f1) p161 q161
                  obtain rfl : ad155 = ad161 := (by injection e161)
                  replace hx161_0 := (HB.out.cell (World.block_lt_of_cell? w _ hx161_0)).trans hx161_0
                  replace hx161_1 := (HB.out.cell (World.block_lt_of_cell? w _ hx161_1)).trans hx161_1
                  replace hx161_2 := (HB.out.cell (World.block_lt_of_cell? w _ hx161_2)).trans hx161_2
                  replace hx161_3 := (HB.out.cell (World.block_lt_of_cell? w _ hx161_3)).trans hx161_3
                  replace hx161_4 := (HB.out.cell (World.block_lt_of_cell? w _ hx161_4)).trans hx161_4
                  replace p161 := eq_true p161
                  replace q161 := eq_true q161
                  have p166 : 0 ≤ (((rd_T58 l0 a1).f0) : Int) := of_decide_eq_true z2
                  have q166 : ((rd_T58 l0 a1).f0) < (l0.length : Int) := of_decide_eq_true z2
                  obtain ⟨ad166, e166, hx166_0, hx166_1, hx166_2, hx166_3, hx166_4⟩ := at_T58 HR0.out ((rd_T58 l0 a1).f0) p166 q166
                  obtain rfl : ad155 = ad166 := (by injection e166)
                  replace hx166_0 := (HB.out.cell (World.block_lt_of_cell? w _ hx166_0)).trans hx166_0
                  replace hx166_1 := (HB.out.cell (World.block_lt_of_cell? w _ hx166_1)).trans hx166_1
                  replace hx166_2 := (HB.out.cell (World.block_lt_of_cell? w _ hx166_2)).trans hx166_2
                  replace hx166_3 := (HB.out.cell (World.block_lt_of_cell? w _ hx166_3)).trans hx166_3
                  replace hx166_4 := (HB.out.cell (World.block_lt_of_cell? w _ hx166_4)).trans hx166_4
                  replace p166 := eq_true p166
                  replace q166 := eq_true q166
                  have p167 : 0 ≤ (((rd_T58 l0 a1).f1) : Int) := of_decide_eq_true z2
                  have q167 : ((rd_T58 l0 a1).f1) < (l0.length : Int) := of_decide_eq_true z2
                  obtain ⟨ad167, e167, hx167_0, hx167_1, hx167_2, hx167_3, hx167_4⟩ := at_T58 HR0.out ((rd_T58 l0 a1).f1) p167 q167
                  obtain rfl : ad155 = ad167 := (by injection e167)
                  replace hx167_0 := (HB.out.cell (World.block_lt_of_cell? w _ hx167_0)).trans hx167_0
                  replace hx167_1 := (HB.out.cell (World.block_lt_of_cell? w _ hx167_1)).trans hx167_1
                  replace hx167_2 := (HB.out.cell (World.block_lt_of_cell? w _ hx167_2)).trans hx167_2
                  replace hx167_3 := (HB.out.cell (World.block_lt_of_cell? w _ hx167_3)).trans hx167_3
                  replace hx167_4 := (HB.out.cell (World.block_lt_of_cell? w _ hx167_4)).trans hx167_4
                  replace p167 := eq_true p167
                  replace q167 := eq_true q167
                  go_wp2
                  repeat (go_quiet (fail); try go_wp2)
                  go_ret
                  exact ⟨by first | rfl | (simp [errW_none, errW_some] <;> rfl) | (simp [*, errW_none, errW_some] <;> rfl), by repeat (first | (with_reducible first | exact HB.out | apply below_alloc | apply pw_below_drewN | apply below_drew1 | refine below_set ?_ GE156.out) | exact HB.out)⟩
               ·rw [if_neg c39] at H
                exact absurd H (by simp)
              ·rw [if_neg c38] at H
               exact absurd H (by simp)
             ·rw [if_neg c37] at H
              exact absurd H (by simp)
            ·rw [if_neg c36] at H
             exact absurd H (by simp)
  ·rw [if_neg c4] at H
   exact absurd H (by simp)
 ·rw [if_neg c3] at H
  exact absurd H (by simp)

end Go.Proofs.Ytmkenlejdaphnaa.AFnExactRebalance
