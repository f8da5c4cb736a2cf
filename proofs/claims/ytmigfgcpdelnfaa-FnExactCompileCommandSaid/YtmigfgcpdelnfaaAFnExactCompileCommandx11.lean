-- this session's own text: written by wip/tools/ownprint.py over the kit's print
import Derived.Test.YtmigfgcpdelnfaaAFnExactCompileCommandx0
import Derived.Test.YtmigfgcpdelnfaaAFnExactCompileCommandx7
import Derived.Test.YtmigfgcpdelnfaaAFnExactCompileCommandx8
import Derived.Test.YtmigfgcpdelnfaaAFnExactCompileCommandx10
namespace Go.Proofs.Ytmigfgcpdelnfaa.AFnExactCompileCommand
open Go.RowKit Go.Proofs.YtmigfgcpdelnfaaW.PrintWords Go.Proofs.YtmigfgcpdelnfaaW.PrintLast Go.Proofs.YtmigfgcpdelnfaaW.PrintMore
attribute [local go_sem] max2_int min2_int max_two min_two max_three min_three max_four min_four   -- for this text's walks alone
set_option linter.unusedVariables false
set_option linter.unusedSimpArgs false

/-! ### impl_Command_do: function 35 -/
mutual
def impl_Command_do.j0 : Nat → ByteArray → Bool → Int → Int → Int → ByteArray → Option (ByteArray × (List (S61)) × Bool)
 | 0, _, _, _, _, _, _ => none
 | k + 1, x1, x7, x376000, x376001, x376002, x376003 => (impl_GoodDoc.f k x1).bind fun t376 => (if t376 = true then ((impl_hasPlace.f x1 x376001).bind fun t377 => (if t377 = true then (if x7 = true then ((impl_hasPlace.f x1 x376002).bind fun t378 => (impl_Command_do.j1 k x1 (!t378) x376000 x376001 x376002 x376003)) else (impl_Command_do.j1 k x1 false x376000 x376001 x376002 x376003)) else (impl_Command_do.j1 k x1 true x376000 x376001 x376002 x376003))) else (impl_Command_do.j1 k x1 true x376000 x376001 x376002 x376003))
def impl_Command_do.j1 : Nat → ByteArray → Bool → Int → Int → Int → ByteArray → Option (ByteArray × (List (S61)) × Bool)
 | 0, _, _, _, _, _, _ => none
 | k + 1, x1, x46, x376000, x376001, x376002, x376003 => if x46 = true then (some ((⟨#[]⟩ : ByteArray), ([] : List (S61)), false)) else ((impl_Command_parts.f k x376000 x376001 x376002 x376003 x1).bind fun bt379 => (if bt379.2 = true then (impl_Command_do.l0 k bt379.1 (⟨#[]⟩ : ByteArray) x1 bt379.1 (bt379.1.length : Int) 0) else (some ((⟨#[]⟩ : ByteArray), ([] : List (S61)), false))))
def impl_Command_do.l0 : Nat → List (S61) → ByteArray → ByteArray → List (S61) → Int → Int → Option (ByteArray × (List (S61)) × Bool)
 | 0, _, _, _, _, _, _ => none
 | k + 1, x8, x10, x11, x56, x57, x58 => if x58 < x57 then (if 0 ≤ x58 then (if x58 < (x56.length : Int) then (if 0 ≤ ((rd_T61 x56 x58).f0) then (if ((rd_T61 x56 x58).f0) ≤ (x11.size : Int) then (if (x11.extract 0 (((rd_T61 x56 x58).f0) : Int).toNat).size + ((rd_T61 x56 x58).f1).size ≤ 9223372036854775807 then (if x10.size + ((x11.extract 0 (((rd_T61 x56 x58).f0) : Int).toNat) ++ ((rd_T61 x56 x58).f1)).size ≤ 9223372036854775807 then (if 0 ≤ (wrap64 (((rd_T61 x56 x58).f0) + (((rd_T61 x56 x58).f2).size : Int))) then (if (wrap64 (((rd_T61 x56 x58).f0) + (((rd_T61 x56 x58).f2).size : Int))) ≤ (x11.size : Int) then (impl_Command_do.l0 k x8 (x10 ++ ((x11.extract 0 (((rd_T61 x56 x58).f0) : Int).toNat) ++ ((rd_T61 x56 x58).f1))) (x11.extract ((wrap64 (((rd_T61 x56 x58).f0) + (((rd_T61 x56 x58).f2).size : Int))) : Int).toNat x11.size) x56 x57 (wrap64 (x58 + 1))) else (none)) else (none)) else (none)) else (none)) else (none)) else (none)) else (none)) else (none)) else ((impl_GoodDoc.f k x10).bind fun t385 => (if t385 = true then ((impl_normal.f x8).bind fun t386 => (some (x10, t386, true))) else (some ((⟨#[]⟩ : ByteArray), ([] : List (S61)), false))))
end
def impl_Command_do.f (k : Nat) (a0_0 : Int) (a0_1 : Int) (a0_2 : Int) (a0_3 : ByteArray) (a1 : ByteArray) : Option (ByteArray × (List (S61)) × Bool) := if a0_0 = 2 then (impl_Command_do.j0 k a1 true a0_0 a0_1 a0_2 a0_3) else (if a0_0 = 3 then (impl_Command_do.j0 k a1 true a0_0 a0_1 a0_2 a0_3) else (impl_Command_do.j0 k a1 (a0_0 == 7) a0_0 a0_1 a0_2 a0_3))
theorem impl_Command_do.mono_l : ∀ k, (∀ y0 y1 y2 y3 y4 y5, LeO (impl_Command_do.j0 k y0 y1 y2 y3 y4 y5) (impl_Command_do.j0 (k + 1) y0 y1 y2 y3 y4 y5)) ∧ (∀ y0 y1 y2 y3 y4 y5, LeO (impl_Command_do.j1 k y0 y1 y2 y3 y4 y5) (impl_Command_do.j1 (k + 1) y0 y1 y2 y3 y4 y5)) ∧ (∀ y0 y1 y2 y3 y4 y5, LeO (impl_Command_do.l0 k y0 y1 y2 y3 y4 y5) (impl_Command_do.l0 (k + 1) y0 y1 y2 y3 y4 y5))
 | 0 => ⟨fun _ _ _ _ _ _ r h => by simp [impl_Command_do.j0] at h, fun _ _ _ _ _ _ r h => by simp [impl_Command_do.j1] at h, fun _ _ _ _ _ _ r h => by simp [impl_Command_do.l0] at h⟩
 | k + 1 => by
  obtain ⟨ih0, ih1, ih2⟩ := impl_Command_do.mono_l k
  refine ⟨?_, ?_, ?_⟩
  ·intro y0 y1 y2 y3 y4 y5
   unfold impl_Command_do.j0
   repeat' first
   | (with_reducible exact ih0 _ _ _ _ _ _)
   | (with_reducible exact ih1 _ _ _ _ _ _)
   | (with_reducible exact ih2 _ _ _ _ _ _)
   | (with_reducible exact impl_Command_parts.mono _ _ _ _ _ _)
   | (with_reducible exact impl_GoodDoc.mono _ _)
   | (with_reducible exact LeO.refl _)
   | (with_reducible exact LeO.none _)
   | (with_reducible refine LeO.ite ?_ ?_)
   | (with_reducible refine LeO.bind ?_ (fun _ => ?_))
   | exact ih0 _ _ _ _ _ _
   | exact ih1 _ _ _ _ _ _
   | exact ih2 _ _ _ _ _ _
   | exact impl_Command_parts.mono _ _ _ _ _ _
   | exact impl_GoodDoc.mono _ _
   | exact LeO.none _
   | refine LeO.ite ?_ ?_
   | refine LeO.bind ?_ (fun _ => ?_)
  ·intro y0 y1 y2 y3 y4 y5
   unfold impl_Command_do.j1
   repeat' first
   | (with_reducible exact ih0 _ _ _ _ _ _)
   | (with_reducible exact ih1 _ _ _ _ _ _)
   | (with_reducible exact ih2 _ _ _ _ _ _)
   | (with_reducible exact impl_Command_parts.mono _ _ _ _ _ _)
   | (with_reducible exact impl_GoodDoc.mono _ _)
   | (with_reducible exact LeO.refl _)
   | (with_reducible exact LeO.none _)
   | (with_reducible refine LeO.ite ?_ ?_)
   | (with_reducible refine LeO.bind ?_ (fun _ => ?_))
   | exact ih0 _ _ _ _ _ _
   | exact ih1 _ _ _ _ _ _
   | exact ih2 _ _ _ _ _ _
   | exact impl_Command_parts.mono _ _ _ _ _ _
   | exact impl_GoodDoc.mono _ _
   | exact LeO.none _
   | refine LeO.ite ?_ ?_
   | refine LeO.bind ?_ (fun _ => ?_)
  ·intro y0 y1 y2 y3 y4 y5
   unfold impl_Command_do.l0
   repeat' first
   | (with_reducible exact ih0 _ _ _ _ _ _)
   | (with_reducible exact ih1 _ _ _ _ _ _)
   | (with_reducible exact ih2 _ _ _ _ _ _)
   | (with_reducible exact impl_Command_parts.mono _ _ _ _ _ _)
   | (with_reducible exact impl_GoodDoc.mono _ _)
   | (with_reducible exact LeO.refl _)
   | (with_reducible exact LeO.none _)
   | (with_reducible refine LeO.ite ?_ ?_)
   | (with_reducible refine LeO.bind ?_ (fun _ => ?_))
   | exact ih0 _ _ _ _ _ _
   | exact ih1 _ _ _ _ _ _
   | exact ih2 _ _ _ _ _ _
   | exact impl_Command_parts.mono _ _ _ _ _ _
   | exact impl_GoodDoc.mono _ _
   | exact LeO.none _
   | refine LeO.ite ?_ ?_
   | refine LeO.bind ?_ (fun _ => ?_)
theorem impl_Command_do.mono : ∀ a0 a1 a2 a3 a4 k, LeO (impl_Command_do.f k a0 a1 a2 a3 a4) (impl_Command_do.f (k + 1) a0 a1 a2 a3 a4) := by
 intro a0 a1 a2 a3 a4 k
 obtain ⟨ih0, ih1, ih2⟩ := impl_Command_do.mono_l k
 unfold impl_Command_do.f
 repeat' first
   | (with_reducible exact ih0 _ _ _ _ _ _)
   | (with_reducible exact ih1 _ _ _ _ _ _)
   | (with_reducible exact ih2 _ _ _ _ _ _)
   | (with_reducible exact impl_Command_parts.mono _ _ _ _ _ _)
   | (with_reducible exact impl_GoodDoc.mono _ _)
   | (with_reducible exact LeO.refl _)
   | (with_reducible exact LeO.none _)
   | (with_reducible refine LeO.ite ?_ ?_)
   | (with_reducible refine LeO.bind ?_ (fun _ => ?_))
   | exact ih0 _ _ _ _ _ _
   | exact ih1 _ _ _ _ _ _
   | exact ih2 _ _ _ _ _ _
   | exact impl_Command_parts.mono _ _ _ _ _ _
   | exact impl_GoodDoc.mono _ _
   | exact LeO.none _
   | refine LeO.ite ?_ ?_
   | refine LeO.bind ?_ (fun _ => ?_)
set_option maxHeartbeats 8000000 in
set_option maxRecDepth 100000 in
theorem impl_Command_do.calls (k : Nat) (a0_0 : Int) (a0_1 : Int) (a0_2 : Int) (a0_3 : ByteArray) (a1 : ByteArray) (r1 : ByteArray) (r2 : List (S61)) (r3 : Bool) (w : World) (h : impl_Command_do.f k a0_0 a0_1 a0_2 a0_3 a1 = some (r1, r2, r3)) :
  Calls Try.prog 35 #[.agg #[.int .i64 a0_0, .int .i64 a0_1, .int .i64 a0_2, .string a0_3], .string a1] w fun e w' => ∃ v1_ : Value, e = .returned (.tuple #[.string r1, v1_, .bool r3]) ∧ Kd.R k61 61 w' w.heap.size (fun _ => True) v1_ r2 ∧ Below w.heap.size w w' := by
 have hu29 := Try.underlying29
 have hu61 := Try.underlying61
 have HB := aM (Below.refl w.heap.size w)
 have H : (if a0_0 = 2 then (impl_Command_do.j0 k a1 true a0_0 a0_1 a0_2 a0_3) else (if a0_0 = 3 then (impl_Command_do.j0 k a1 true a0_0 a0_1 a0_2 a0_3) else (impl_Command_do.j0 k a1 (a0_0 == 7) a0_0 a0_1 a0_2 a0_3))) = some (r1, r2, r3) := h
 clear h
 have HC3 := aM H
 clear H
 go_enter Try.func35, Try.ntmps35
 go_upto_region 1 with (first | ((with_reducible refine gate_dst (N := 2) rfl ?_); refine box_event ?hg (N := 2) ?hd (cs := #[.int .i64 a0_0, .int .i64 a0_1, .int .i64 a0_2, .string a0_3]) (t := 29) ?hr ?_; (case hd => rfl); (case hg => rfl); (case hr => first | (go_simp; done) | (go_simp; rfl)); intro gb375 hg w4 hbox hb; have n0_ := aM (below_step z11 hb); have n1_ := aM (hbox); have n2_ := aM ((by rw [hg]; exact (below_size z11) : w.heap.size ≤ gb375)); have n3_ := aM ((by rw [hg]; exact (below_size z11) : w.heap.size ≤ gb375)); clear HB; have HB := n0_; have BK375 := n1_; have GW375 := n2_; have GE375 := n3_; clear n0_ n1_ n2_ n3_; clear hb hbox hg))
 repeat (go_quiet (first | ((with_reducible refine gate_dst (N := 2) rfl ?_); refine box_event ?hg (N := 2) ?hd (cs := #[.int .i64 a0_0, .int .i64 a0_1, .int .i64 a0_2, .string a0_3]) (t := 29) ?hr ?_; (case hd => rfl); (case hg => rfl); (case hr => first | (go_simp; done) | (go_simp; rfl)); intro gb375 hg w4 hbox hb; have n0_ := aM (below_step z11 hb); have n1_ := aM (hbox); have n2_ := aM ((by rw [hg]; exact (below_size z11) : w.heap.size ≤ gb375)); have n3_ := aM ((by rw [hg]; exact (below_size z11) : w.heap.size ≤ gb375)); clear HB; have HB := n0_; have BK375 := n1_; have GW375 := n2_; have GE375 := n3_; clear n0_ n1_ n2_ n3_; clear hb hbox hg)); go_upto_region 1 with (first | ((with_reducible refine gate_dst (N := 2) rfl ?_); refine box_event ?hg (N := 2) ?hd (cs := #[.int .i64 a0_0, .int .i64 a0_1, .int .i64 a0_2, .string a0_3]) (t := 29) ?hr ?_; (case hd => rfl); (case hg => rfl); (case hr => first | (go_simp; done) | (go_simp; rfl)); intro gb375 hg w4 hbox hb; have n0_ := aM (below_step z11 hb); have n1_ := aM (hbox); have n2_ := aM ((by rw [hg]; exact (below_size z11) : w.heap.size ≤ gb375)); have n3_ := aM ((by rw [hg]; exact (below_size z11) : w.heap.size ≤ gb375)); clear HB; have HB := n0_; have BK375 := n1_; have GW375 := n2_; have GE375 := n3_; clear n0_ n1_ n2_ n3_; clear hb hbox hg)))
 (try simp only [Act.put, sA, sB, sC])
 go_cut [7] (fun v7 wc => ∃ (kq : Nat) (x7_2 : Bool), v7 = .bool x7_2 ∧ Aside0 (impl_Command_do.j0 kq a1 x7_2 a0_0 a0_1 a0_2 a0_3 = some (r1, r2, r3)) ∧ Aside0 (kq ≤ k) ∧ Aside0 (wc.heap[gb375]? = some (.cells #[.int .i64 a0_0, .int .i64 a0_1, .int .i64 a0_2, .string a0_3] 29 (0, 0))) ∧ Aside0 (Below w.heap.size w wc))
 case first =>
  have H := HC3.out
  clear HC3
  by_cases c5 : a0_0 = 2
  ·rw [if_pos c5] at H
   have c5b0 : (a0_0 == 2) = true := qT c5
   have c5b1 : (a0_0 != 2) = false := nF c5
   clear c5
   (first | rw [c5b0] | (simp only [i64_w, i32_w]; rw [c5b0]) | skip)
   have H' := aM H
   clear H
   have hcz6_0 : w4.cell? ⟨gb375, 0, none⟩ = some (.int .i64 a0_0) := (bC BK375.out 0).trans rfl
   have hcz6_1 : w4.cell? ⟨gb375, 1, none⟩ = some (.int .i64 a0_1) := (bC BK375.out 1).trans rfl
   have hcz6_2 : w4.cell? ⟨gb375, 2, none⟩ = some (.int .i64 a0_2) := (bC BK375.out 2).trans rfl
   have hcz6_3 : w4.cell? ⟨gb375, 3, none⟩ = some (.string a0_3) := (bC BK375.out 3).trans rfl
   have hfz6_0 := bF BK375.out 0
   have hfz6_1 := bF BK375.out 1
   have hfz6_2 := bF BK375.out 2
   have hfz6_3 := bF BK375.out 3
   go_wp2
   repeat (go_quiet (fail); try go_wp2)
   go_meet
   case rel => exact ⟨_, (true), z1, H', ⟨y0⟩, ⟨y7⟩, ⟨y13⟩⟩
  ·rw [if_neg c5] at H
   have c5b0 : (a0_0 == 2) = false := qF c5
   have c5b1 : (a0_0 != 2) = true := nT c5
   (first | rw [c5b0] | (simp only [i64_w, i32_w]; rw [c5b0]) | skip)
   by_cases c7 : a0_0 = 3
   ·rw [if_pos c7] at H
    have c7b0 : (a0_0 == 3) = true := qT c7
    have c7b1 : (a0_0 != 3) = false := nF c7
    clear c7
    have H' := aM H
    clear H
    have hcz8_0 : w4.cell? ⟨gb375, 0, none⟩ = some (.int .i64 a0_0) := (bC BK375.out 0).trans rfl
    have hcz8_1 : w4.cell? ⟨gb375, 1, none⟩ = some (.int .i64 a0_1) := (bC BK375.out 1).trans rfl
    have hcz8_2 : w4.cell? ⟨gb375, 2, none⟩ = some (.int .i64 a0_2) := (bC BK375.out 2).trans rfl
    have hcz8_3 : w4.cell? ⟨gb375, 3, none⟩ = some (.string a0_3) := (bC BK375.out 3).trans rfl
    have hfz8_0 := bF BK375.out 0
    have hfz8_1 := bF BK375.out 1
    have hfz8_2 := bF BK375.out 2
    have hfz8_3 := bF BK375.out 3
    go_wp2
    repeat (go_quiet (fail); try go_wp2)
    go_meet
    case rel => exact ⟨_, (true), z1, H', ⟨y0⟩, ⟨y7⟩, ⟨y13⟩⟩
   ·rw [if_neg c7] at H
    have c7b0 : (a0_0 == 3) = false := qF c7
    have c7b1 : (a0_0 != 3) = true := nT c7
    have H' := aM H
    clear H
    have hcz9_0 : w4.cell? ⟨gb375, 0, none⟩ = some (.int .i64 a0_0) := (bC BK375.out 0).trans rfl
    have hcz9_1 : w4.cell? ⟨gb375, 1, none⟩ = some (.int .i64 a0_1) := (bC BK375.out 1).trans rfl
    have hcz9_2 : w4.cell? ⟨gb375, 2, none⟩ = some (.int .i64 a0_2) := (bC BK375.out 2).trans rfl
    have hcz9_3 : w4.cell? ⟨gb375, 3, none⟩ = some (.string a0_3) := (bC BK375.out 3).trans rfl
    have hfz9_0 := bF BK375.out 0
    have hfz9_1 := bF BK375.out 1
    have hfz9_2 := bF BK375.out 2
    have hfz9_3 := bF BK375.out 3
    go_wp2
    repeat (go_quiet (fail); try go_wp2)
    go_meet
    case rel => exact ⟨_, ((a0_0 == 7)), z1, H', ⟨y0⟩, ⟨y7⟩, ⟨y13⟩⟩
 case rest =>
  clear HC3
  try clear p2
  try clear c3
  try clear c5
  try clear c5b0
  try clear c5b1
  try clear c7
  try clear c7b0
  try clear c7b1
  try clear hcz6_0
  try clear hcz6_1
  try clear hcz6_2
  try clear hcz6_3
  try clear hcz8_0
  try clear hcz8_1
  try clear hcz8_2
  try clear hcz8_3
  try clear hcz9_0
  try clear hcz9_1
  try clear hcz9_2
  try clear hcz9_3
  try clear hfz6_0
  try clear hfz6_1
  try clear hfz6_2
  try clear hfz6_3
  try clear hfz8_0
  try clear hfz8_1
  try clear hfz8_2
  try clear hfz8_3
  try clear hfz9_0
  try clear hfz9_1
  try clear hfz9_2
  try clear hfz9_3
  obtain ⟨kq, x7_2, rfl, HA, HJ2, BK375, HB⟩ := hcut
  cases kq with
  | zero => exact absurd HA.out (by simp [impl_Command_do.j0])
  | succ kj2 =>
   have H := HA.out
   clear HA
   simp only [impl_Command_do.j0] at H
   have HC10 := aM H
   clear H
   go_upto_region 2 with (fail)
   repeat (go_quiet (fail); go_upto_region 2 with (fail))
   go_cut [46] (fun v46 wc => ∃ (kq : Nat) (x46_9 : Bool), v46 = .bool x46_9 ∧ Aside0 (impl_Command_do.j1 kq a1 x46_9 a0_0 a0_1 a0_2 a0_3 = some (r1, r2, r3)) ∧ Aside0 (kq ≤ kj2) ∧ Aside0 (wc.heap[gb375]? = some (.cells #[.int .i64 a0_0, .int .i64 a0_1, .int .i64 a0_2, .string a0_3] 29 (0, 0))) ∧ Aside0 (Below w.heap.size w wc))
   case first =>
    have H := HC10.out
    clear HC10
    replace H := oB H
    obtain ⟨t376, A110, H⟩ := H
    try dsimp only at H
    have A11 := aM A110
    clear A110
    by_cases c12 : t376 = true
    ·subst c12
     rw [if_pos rfl] at H
     replace H := oB H
     obtain ⟨t377, A130, H⟩ := H
     try dsimp only at H
     have A13 := aM A130
     clear A130
     by_cases c14 : t377 = true
     ·subst c14
      rw [if_pos rfl] at H
      by_cases c15 : x7_2 = true
      ·subst c15
       rw [if_pos rfl] at H
       replace H := oB H
       obtain ⟨t378, A160, H⟩ := H
       try dsimp only at H
       have A16 := aM A160
       clear A160
       have H' := aM H
       clear H
       go_wp2_with (first | (go_at_call 18; (with_reducible refine (impl_GoodDoc.calls kj2 a1 true _ A11.out).mono ?_); rintro e w17 ⟨rfl, hb⟩; have n0_ := aM (blk_below (g := gb375) (o := .cells #[.int .i64 a0_0, .int .i64 a0_1, .int .i64 a0_2, .string a0_3] 29 (0, 0)) z9 hb); have n1_ := aM (below_step z16 hb); clear BK375; clear HB; have BK375 := n0_; have HB := n1_; clear n0_ n1_; (try clear hb); (try clear hb2); (try clear hk); (try clear hi); have hcz18_0 : w17.cell? ⟨gb375, 0, none⟩ = some (.int .i64 a0_0) := (bC BK375.out 0).trans rfl; have hcz18_1 : w17.cell? ⟨gb375, 1, none⟩ = some (.int .i64 a0_1) := (bC BK375.out 1).trans rfl; have hcz18_2 : w17.cell? ⟨gb375, 2, none⟩ = some (.int .i64 a0_2) := (bC BK375.out 2).trans rfl; have hcz18_3 : w17.cell? ⟨gb375, 3, none⟩ = some (.string a0_3) := (bC BK375.out 3).trans rfl; have hfz18_0 := bF BK375.out 0; have hfz18_1 := bF BK375.out 1; have hfz18_2 := bF BK375.out 2; have hfz18_3 := bF BK375.out 3) | (go_at_call 55; (with_reducible refine (impl_hasPlace.calls a1 a0_1 true _ A13.out).mono ?_); rintro e w' ⟨rfl, ⟨nd, rfl⟩⟩; (try first | exact ⟨rfl, _, World.drewN_drewN _ _ _⟩ | exact ⟨rfl, _, Eq.trans (World.drewN_drewN _ _ _) (congrArg (World.drewN _) (Nat.add_assoc _ _ _))⟩)) | (go_at_call 55; (with_reducible refine (impl_hasPlace.calls a1 a0_2 t378 _ A16.out).mono ?_); rintro e w' ⟨rfl, ⟨nd, rfl⟩⟩; (try first | exact ⟨rfl, _, World.drewN_drewN _ _ _⟩ | exact ⟨rfl, _, Eq.trans (World.drewN_drewN _ _ _) (congrArg (World.drewN _) (Nat.add_assoc _ _ _))⟩)))
       repeat (go_quiet (first | (go_at_call 18; (with_reducible refine (impl_GoodDoc.calls kj2 a1 true _ A11.out).mono ?_); rintro e w17 ⟨rfl, hb⟩; have n0_ := aM (blk_below (g := gb375) (o := .cells #[.int .i64 a0_0, .int .i64 a0_1, .int .i64 a0_2, .string a0_3] 29 (0, 0)) z9 hb); have n1_ := aM (below_step z16 hb); clear BK375; clear HB; have BK375 := n0_; have HB := n1_; clear n0_ n1_; (try clear hb); (try clear hb2); (try clear hk); (try clear hi); have hcz18_0 : w17.cell? ⟨gb375, 0, none⟩ = some (.int .i64 a0_0) := (bC BK375.out 0).trans rfl; have hcz18_1 : w17.cell? ⟨gb375, 1, none⟩ = some (.int .i64 a0_1) := (bC BK375.out 1).trans rfl; have hcz18_2 : w17.cell? ⟨gb375, 2, none⟩ = some (.int .i64 a0_2) := (bC BK375.out 2).trans rfl; have hcz18_3 : w17.cell? ⟨gb375, 3, none⟩ = some (.string a0_3) := (bC BK375.out 3).trans rfl; have hfz18_0 := bF BK375.out 0; have hfz18_1 := bF BK375.out 1; have hfz18_2 := bF BK375.out 2; have hfz18_3 := bF BK375.out 3) | (go_at_call 55; (with_reducible refine (impl_hasPlace.calls a1 a0_1 true _ A13.out).mono ?_); rintro e w' ⟨rfl, ⟨nd, rfl⟩⟩; (try first | exact ⟨rfl, _, World.drewN_drewN _ _ _⟩ | exact ⟨rfl, _, Eq.trans (World.drewN_drewN _ _ _) (congrArg (World.drewN _) (Nat.add_assoc _ _ _))⟩)) | (go_at_call 55; (with_reducible refine (impl_hasPlace.calls a1 a0_2 t378 _ A16.out).mono ?_); rintro e w' ⟨rfl, ⟨nd, rfl⟩⟩; (try first | exact ⟨rfl, _, World.drewN_drewN _ _ _⟩ | exact ⟨rfl, _, Eq.trans (World.drewN_drewN _ _ _) (congrArg (World.drewN _) (Nat.add_assoc _ _ _))⟩))); try go_wp2_with (first | (go_at_call 18; (with_reducible refine (impl_GoodDoc.calls kj2 a1 true _ A11.out).mono ?_); rintro e w17 ⟨rfl, hb⟩; have n0_ := aM (blk_below (g := gb375) (o := .cells #[.int .i64 a0_0, .int .i64 a0_1, .int .i64 a0_2, .string a0_3] 29 (0, 0)) z9 hb); have n1_ := aM (below_step z16 hb); clear BK375; clear HB; have BK375 := n0_; have HB := n1_; clear n0_ n1_; (try clear hb); (try clear hb2); (try clear hk); (try clear hi); have hcz18_0 : w17.cell? ⟨gb375, 0, none⟩ = some (.int .i64 a0_0) := (bC BK375.out 0).trans rfl; have hcz18_1 : w17.cell? ⟨gb375, 1, none⟩ = some (.int .i64 a0_1) := (bC BK375.out 1).trans rfl; have hcz18_2 : w17.cell? ⟨gb375, 2, none⟩ = some (.int .i64 a0_2) := (bC BK375.out 2).trans rfl; have hcz18_3 : w17.cell? ⟨gb375, 3, none⟩ = some (.string a0_3) := (bC BK375.out 3).trans rfl; have hfz18_0 := bF BK375.out 0; have hfz18_1 := bF BK375.out 1; have hfz18_2 := bF BK375.out 2; have hfz18_3 := bF BK375.out 3) | (go_at_call 55; (with_reducible refine (impl_hasPlace.calls a1 a0_1 true _ A13.out).mono ?_); rintro e w' ⟨rfl, ⟨nd, rfl⟩⟩; (try first | exact ⟨rfl, _, World.drewN_drewN _ _ _⟩ | exact ⟨rfl, _, Eq.trans (World.drewN_drewN _ _ _) (congrArg (World.drewN _) (Nat.add_assoc _ _ _))⟩)) | (go_at_call 55; (with_reducible refine (impl_hasPlace.calls a1 a0_2 t378 _ A16.out).mono ?_); rintro e w' ⟨rfl, ⟨nd, rfl⟩⟩; (try first | exact ⟨rfl, _, World.drewN_drewN _ _ _⟩ | exact ⟨rfl, _, Eq.trans (World.drewN_drewN _ _ _) (congrArg (World.drewN _) (Nat.add_assoc _ _ _))⟩))))
       go_meet
       case rel => exact ⟨_, (!t378), z1, H', ⟨by have := HJ2.out; first | omega | exact Nat.le_refl _⟩, ⟨y7⟩, ⟨y13⟩⟩
      ·replace c15 := Bool.eq_false_iff.mpr c15
       subst c15
       rw [if_neg (show ¬ (false = true) by decide)] at H
       have H' := aM H
       clear H
       go_wp2_with (first | (go_at_call 18; (with_reducible refine (impl_GoodDoc.calls kj2 a1 true _ A11.out).mono ?_); rintro e w19 ⟨rfl, hb⟩; have n0_ := aM (blk_below (g := gb375) (o := .cells #[.int .i64 a0_0, .int .i64 a0_1, .int .i64 a0_2, .string a0_3] 29 (0, 0)) z9 hb); have n1_ := aM (below_step z16 hb); clear BK375; clear HB; have BK375 := n0_; have HB := n1_; clear n0_ n1_; (try clear hb); (try clear hb2); (try clear hk); (try clear hi); have hcz20_0 : w19.cell? ⟨gb375, 0, none⟩ = some (.int .i64 a0_0) := (bC BK375.out 0).trans rfl; have hcz20_1 : w19.cell? ⟨gb375, 1, none⟩ = some (.int .i64 a0_1) := (bC BK375.out 1).trans rfl; have hcz20_2 : w19.cell? ⟨gb375, 2, none⟩ = some (.int .i64 a0_2) := (bC BK375.out 2).trans rfl; have hcz20_3 : w19.cell? ⟨gb375, 3, none⟩ = some (.string a0_3) := (bC BK375.out 3).trans rfl; have hfz20_0 := bF BK375.out 0; have hfz20_1 := bF BK375.out 1; have hfz20_2 := bF BK375.out 2; have hfz20_3 := bF BK375.out 3) | (go_at_call 55; (with_reducible refine (impl_hasPlace.calls a1 a0_1 true _ A13.out).mono ?_); rintro e w' ⟨rfl, ⟨nd, rfl⟩⟩; (try first | exact ⟨rfl, _, World.drewN_drewN _ _ _⟩ | exact ⟨rfl, _, Eq.trans (World.drewN_drewN _ _ _) (congrArg (World.drewN _) (Nat.add_assoc _ _ _))⟩)))
       repeat (go_quiet (first | (go_at_call 18; (with_reducible refine (impl_GoodDoc.calls kj2 a1 true _ A11.out).mono ?_); rintro e w19 ⟨rfl, hb⟩; have n0_ := aM (blk_below (g := gb375) (o := .cells #[.int .i64 a0_0, .int .i64 a0_1, .int .i64 a0_2, .string a0_3] 29 (0, 0)) z9 hb); have n1_ := aM (below_step z16 hb); clear BK375; clear HB; have BK375 := n0_; have HB := n1_; clear n0_ n1_; (try clear hb); (try clear hb2); (try clear hk); (try clear hi); have hcz20_0 : w19.cell? ⟨gb375, 0, none⟩ = some (.int .i64 a0_0) := (bC BK375.out 0).trans rfl; have hcz20_1 : w19.cell? ⟨gb375, 1, none⟩ = some (.int .i64 a0_1) := (bC BK375.out 1).trans rfl; have hcz20_2 : w19.cell? ⟨gb375, 2, none⟩ = some (.int .i64 a0_2) := (bC BK375.out 2).trans rfl; have hcz20_3 : w19.cell? ⟨gb375, 3, none⟩ = some (.string a0_3) := (bC BK375.out 3).trans rfl; have hfz20_0 := bF BK375.out 0; have hfz20_1 := bF BK375.out 1; have hfz20_2 := bF BK375.out 2; have hfz20_3 := bF BK375.out 3) | (go_at_call 55; (with_reducible refine (impl_hasPlace.calls a1 a0_1 true _ A13.out).mono ?_); rintro e w' ⟨rfl, ⟨nd, rfl⟩⟩; (try first | exact ⟨rfl, _, World.drewN_drewN _ _ _⟩ | exact ⟨rfl, _, Eq.trans (World.drewN_drewN _ _ _) (congrArg (World.drewN _) (Nat.add_assoc _ _ _))⟩))); try go_wp2_with (first | (go_at_call 18; (with_reducible refine (impl_GoodDoc.calls kj2 a1 true _ A11.out).mono ?_); rintro e w19 ⟨rfl, hb⟩; have n0_ := aM (blk_below (g := gb375) (o := .cells #[.int .i64 a0_0, .int .i64 a0_1, .int .i64 a0_2, .string a0_3] 29 (0, 0)) z9 hb); have n1_ := aM (below_step z16 hb); clear BK375; clear HB; have BK375 := n0_; have HB := n1_; clear n0_ n1_; (try clear hb); (try clear hb2); (try clear hk); (try clear hi); have hcz20_0 : w19.cell? ⟨gb375, 0, none⟩ = some (.int .i64 a0_0) := (bC BK375.out 0).trans rfl; have hcz20_1 : w19.cell? ⟨gb375, 1, none⟩ = some (.int .i64 a0_1) := (bC BK375.out 1).trans rfl; have hcz20_2 : w19.cell? ⟨gb375, 2, none⟩ = some (.int .i64 a0_2) := (bC BK375.out 2).trans rfl; have hcz20_3 : w19.cell? ⟨gb375, 3, none⟩ = some (.string a0_3) := (bC BK375.out 3).trans rfl; have hfz20_0 := bF BK375.out 0; have hfz20_1 := bF BK375.out 1; have hfz20_2 := bF BK375.out 2; have hfz20_3 := bF BK375.out 3) | (go_at_call 55; (with_reducible refine (impl_hasPlace.calls a1 a0_1 true _ A13.out).mono ?_); rintro e w' ⟨rfl, ⟨nd, rfl⟩⟩; (try first | exact ⟨rfl, _, World.drewN_drewN _ _ _⟩ | exact ⟨rfl, _, Eq.trans (World.drewN_drewN _ _ _) (congrArg (World.drewN _) (Nat.add_assoc _ _ _))⟩))))
       go_meet
       case rel => exact ⟨_, (false), z1, H', ⟨by have := HJ2.out; first | omega | exact Nat.le_refl _⟩, ⟨y7⟩, ⟨y13⟩⟩
     ·replace c14 := Bool.eq_false_iff.mpr c14
      subst c14
      rw [if_neg (show ¬ (false = true) by decide)] at H
      have H' := aM H
      clear H
      go_wp2_with (first | (go_at_call 18; (with_reducible refine (impl_GoodDoc.calls kj2 a1 true _ A11.out).mono ?_); rintro e w21 ⟨rfl, hb⟩; have n0_ := aM (blk_below (g := gb375) (o := .cells #[.int .i64 a0_0, .int .i64 a0_1, .int .i64 a0_2, .string a0_3] 29 (0, 0)) z9 hb); have n1_ := aM (below_step z16 hb); clear BK375; clear HB; have BK375 := n0_; have HB := n1_; clear n0_ n1_; (try clear hb); (try clear hb2); (try clear hk); (try clear hi); have hcz22_0 : w21.cell? ⟨gb375, 0, none⟩ = some (.int .i64 a0_0) := (bC BK375.out 0).trans rfl; have hcz22_1 : w21.cell? ⟨gb375, 1, none⟩ = some (.int .i64 a0_1) := (bC BK375.out 1).trans rfl; have hcz22_2 : w21.cell? ⟨gb375, 2, none⟩ = some (.int .i64 a0_2) := (bC BK375.out 2).trans rfl; have hcz22_3 : w21.cell? ⟨gb375, 3, none⟩ = some (.string a0_3) := (bC BK375.out 3).trans rfl; have hfz22_0 := bF BK375.out 0; have hfz22_1 := bF BK375.out 1; have hfz22_2 := bF BK375.out 2; have hfz22_3 := bF BK375.out 3) | (go_at_call 55; (with_reducible refine (impl_hasPlace.calls a1 a0_1 false _ A13.out).mono ?_); rintro e w' ⟨rfl, ⟨nd, rfl⟩⟩; (try first | exact ⟨rfl, _, World.drewN_drewN _ _ _⟩ | exact ⟨rfl, _, Eq.trans (World.drewN_drewN _ _ _) (congrArg (World.drewN _) (Nat.add_assoc _ _ _))⟩)))
      repeat (go_quiet (first | (go_at_call 18; (with_reducible refine (impl_GoodDoc.calls kj2 a1 true _ A11.out).mono ?_); rintro e w21 ⟨rfl, hb⟩; have n0_ := aM (blk_below (g := gb375) (o := .cells #[.int .i64 a0_0, .int .i64 a0_1, .int .i64 a0_2, .string a0_3] 29 (0, 0)) z9 hb); have n1_ := aM (below_step z16 hb); clear BK375; clear HB; have BK375 := n0_; have HB := n1_; clear n0_ n1_; (try clear hb); (try clear hb2); (try clear hk); (try clear hi); have hcz22_0 : w21.cell? ⟨gb375, 0, none⟩ = some (.int .i64 a0_0) := (bC BK375.out 0).trans rfl; have hcz22_1 : w21.cell? ⟨gb375, 1, none⟩ = some (.int .i64 a0_1) := (bC BK375.out 1).trans rfl; have hcz22_2 : w21.cell? ⟨gb375, 2, none⟩ = some (.int .i64 a0_2) := (bC BK375.out 2).trans rfl; have hcz22_3 : w21.cell? ⟨gb375, 3, none⟩ = some (.string a0_3) := (bC BK375.out 3).trans rfl; have hfz22_0 := bF BK375.out 0; have hfz22_1 := bF BK375.out 1; have hfz22_2 := bF BK375.out 2; have hfz22_3 := bF BK375.out 3) | (go_at_call 55; (with_reducible refine (impl_hasPlace.calls a1 a0_1 false _ A13.out).mono ?_); rintro e w' ⟨rfl, ⟨nd, rfl⟩⟩; (try first | exact ⟨rfl, _, World.drewN_drewN _ _ _⟩ | exact ⟨rfl, _, Eq.trans (World.drewN_drewN _ _ _) (congrArg (World.drewN _) (Nat.add_assoc _ _ _))⟩))); try go_wp2_with (first | (go_at_call 18; (with_reducible refine (impl_GoodDoc.calls kj2 a1 true _ A11.out).mono ?_); rintro e w21 ⟨rfl, hb⟩; have n0_ := aM (blk_below (g := gb375) (o := .cells #[.int .i64 a0_0, .int .i64 a0_1, .int .i64 a0_2, .string a0_3] 29 (0, 0)) z9 hb); have n1_ := aM (below_step z16 hb); clear BK375; clear HB; have BK375 := n0_; have HB := n1_; clear n0_ n1_; (try clear hb); (try clear hb2); (try clear hk); (try clear hi); have hcz22_0 : w21.cell? ⟨gb375, 0, none⟩ = some (.int .i64 a0_0) := (bC BK375.out 0).trans rfl; have hcz22_1 : w21.cell? ⟨gb375, 1, none⟩ = some (.int .i64 a0_1) := (bC BK375.out 1).trans rfl; have hcz22_2 : w21.cell? ⟨gb375, 2, none⟩ = some (.int .i64 a0_2) := (bC BK375.out 2).trans rfl; have hcz22_3 : w21.cell? ⟨gb375, 3, none⟩ = some (.string a0_3) := (bC BK375.out 3).trans rfl; have hfz22_0 := bF BK375.out 0; have hfz22_1 := bF BK375.out 1; have hfz22_2 := bF BK375.out 2; have hfz22_3 := bF BK375.out 3) | (go_at_call 55; (with_reducible refine (impl_hasPlace.calls a1 a0_1 false _ A13.out).mono ?_); rintro e w' ⟨rfl, ⟨nd, rfl⟩⟩; (try first | exact ⟨rfl, _, World.drewN_drewN _ _ _⟩ | exact ⟨rfl, _, Eq.trans (World.drewN_drewN _ _ _) (congrArg (World.drewN _) (Nat.add_assoc _ _ _))⟩))))
      go_meet
      case rel => exact ⟨_, (true), z1, H', ⟨by have := HJ2.out; first | omega | exact Nat.le_refl _⟩, ⟨y7⟩, ⟨y13⟩⟩
    ·replace c12 := Bool.eq_false_iff.mpr c12
     subst c12
     rw [if_neg (show ¬ (false = true) by decide)] at H
     have H' := aM H
     clear H
     go_wp2_with (first | (go_at_call 18; (with_reducible refine (impl_GoodDoc.calls kj2 a1 false _ A11.out).mono ?_); rintro e w23 ⟨rfl, hb⟩; have n0_ := aM (blk_below (g := gb375) (o := .cells #[.int .i64 a0_0, .int .i64 a0_1, .int .i64 a0_2, .string a0_3] 29 (0, 0)) z9 hb); have n1_ := aM (below_step z16 hb); clear BK375; clear HB; have BK375 := n0_; have HB := n1_; clear n0_ n1_; (try clear hb); (try clear hb2); (try clear hk); (try clear hi)))
     repeat (go_quiet (first | (go_at_call 18; (with_reducible refine (impl_GoodDoc.calls kj2 a1 false _ A11.out).mono ?_); rintro e w23 ⟨rfl, hb⟩; have n0_ := aM (blk_below (g := gb375) (o := .cells #[.int .i64 a0_0, .int .i64 a0_1, .int .i64 a0_2, .string a0_3] 29 (0, 0)) z9 hb); have n1_ := aM (below_step z16 hb); clear BK375; clear HB; have BK375 := n0_; have HB := n1_; clear n0_ n1_; (try clear hb); (try clear hb2); (try clear hk); (try clear hi))); try go_wp2_with (first | (go_at_call 18; (with_reducible refine (impl_GoodDoc.calls kj2 a1 false _ A11.out).mono ?_); rintro e w23 ⟨rfl, hb⟩; have n0_ := aM (blk_below (g := gb375) (o := .cells #[.int .i64 a0_0, .int .i64 a0_1, .int .i64 a0_2, .string a0_3] 29 (0, 0)) z9 hb); have n1_ := aM (below_step z16 hb); clear BK375; clear HB; have BK375 := n0_; have HB := n1_; clear n0_ n1_; (try clear hb); (try clear hb2); (try clear hk); (try clear hi))))
     go_meet
     case rel => exact ⟨_, (true), z1, H', ⟨by have := HJ2.out; first | omega | exact Nat.le_refl _⟩, ⟨y7⟩, ⟨y13⟩⟩
   case rest =>
    clear HC10
    try clear c1
    try clear p2
    try clear c3
    try clear c5
    try clear c5b0
    try clear c5b1
    try clear c7
    try clear c7b0
    try clear c7b1
    try clear c12
    try clear c14
    try clear c15
    try clear hcz18_0
    try clear hcz18_1
    try clear hcz18_2
    try clear hcz18_3
    try clear hcz20_0
    try clear hcz20_1
    try clear hcz20_2
    try clear hcz20_3
    try clear hcz22_0
    try clear hcz22_1
    try clear hcz22_2
    try clear hcz22_3
    try clear hcz6_0
    try clear hcz6_1
    try clear hcz6_2
    try clear hcz6_3
    try clear hcz8_0
    try clear hcz8_1
    try clear hcz8_2
    try clear hcz8_3
    try clear hcz9_0
    try clear hcz9_1
    try clear hcz9_2
    try clear hcz9_3
    try clear hfz18_0
    try clear hfz18_1
    try clear hfz18_2
    try clear hfz18_3
    try clear hfz20_0
    try clear hfz20_1
    try clear hfz20_2
    try clear hfz20_3
    try clear hfz22_0
    try clear hfz22_1
    try clear hfz22_2
    try clear hfz22_3
    try clear hfz6_0
    try clear hfz6_1
    try clear hfz6_2
    try clear hfz6_3
    try clear hfz8_0
    try clear hfz8_1
    try clear hfz8_2
    try clear hfz8_3
    try clear hfz9_0
    try clear hfz9_1
    try clear hfz9_2
    try clear hfz9_3
    try clear p2
    obtain ⟨kq, x46_9, rfl, HA, HJ9, BK375, HB⟩ := hcut
    cases kq with
    | zero => exact absurd HA.out (by simp [impl_Command_do.j1])
    | succ kj9 =>
     have H := HA.out
     clear HA
     simp only [impl_Command_do.j1] at H
     by_cases c24 : x46_9 = true
     ·subst c24
      rw [if_pos rfl] at H
      simp only [Option.some.injEq, Prod.mk.injEq] at H
      obtain ⟨rfl, rfl, rfl⟩ := H
      go_wp2
      repeat (go_quiet (fail); try go_wp2)
      go_ret3
      exact ⟨_, y3, y21, y13⟩
     ·replace c24 := Bool.eq_false_iff.mpr c24
      subst c24
      rw [if_neg (show ¬ (false = true) by decide)] at H
      replace H := oB H
      obtain ⟨⟨t379, t382⟩, A250, H⟩ := H
      try dsimp only at H
      have A25 := aM A250
      clear A250
      by_cases c26 : t382 = true
      ·subst c26
       rw [if_pos rfl] at H
       have H' := aM H
       clear H
       have hcz27_0 : wc.cell? ⟨gb375, 0, none⟩ = some (.int .i64 a0_0) := (bC BK375.out 0).trans rfl
       have hcz27_1 : wc.cell? ⟨gb375, 1, none⟩ = some (.int .i64 a0_1) := (bC BK375.out 1).trans rfl
       have hcz27_2 : wc.cell? ⟨gb375, 2, none⟩ = some (.int .i64 a0_2) := (bC BK375.out 2).trans rfl
       have hcz27_3 : wc.cell? ⟨gb375, 3, none⟩ = some (.string a0_3) := (bC BK375.out 3).trans rfl
       have hfz27_0 := bF BK375.out 0
       have hfz27_1 := bF BK375.out 1
       have hfz27_2 := bF BK375.out 2
       have hfz27_3 := bF BK375.out 3
       go_wp2_with (first | (go_at_call 56; (with_reducible refine (impl_Command_parts.calls kj9 a0_0 a0_1 a0_2 a0_3 a1 t379 true _ A25.out).mono ?_); rintro e w28 ⟨v380, rfl, ho0, hb⟩; have n0_ := aM (Kd.R_lower ho0 (below_size z16)); have n1_ := aM (blk_below (g := gb375) (o := .cells #[.int .i64 a0_0, .int .i64 a0_1, .int .i64 a0_2, .string a0_3] 29 (0, 0)) z9 hb); have n2_ := aM (below_step z16 hb); clear BK375; clear HB; have HO381 := n0_; have BK375 := n1_; have HB := n2_; clear n0_ n1_ n2_; (try clear hb); (try clear hb2); (try clear hk); (try clear hi); (try clear ho0); obtain ⟨Ao29, co29, eo29⟩ := Kd.R_slice HO381.out; subst eo29))
       repeat (go_quiet (first | (go_at_call 56; (with_reducible refine (impl_Command_parts.calls kj9 a0_0 a0_1 a0_2 a0_3 a1 t379 true _ A25.out).mono ?_); rintro e w28 ⟨v380, rfl, ho0, hb⟩; have n0_ := aM (Kd.R_lower ho0 (below_size z16)); have n1_ := aM (blk_below (g := gb375) (o := .cells #[.int .i64 a0_0, .int .i64 a0_1, .int .i64 a0_2, .string a0_3] 29 (0, 0)) z9 hb); have n2_ := aM (below_step z16 hb); clear BK375; clear HB; have HO381 := n0_; have BK375 := n1_; have HB := n2_; clear n0_ n1_ n2_; (try clear hb); (try clear hb2); (try clear hk); (try clear hi); (try clear ho0); obtain ⟨Ao29, co29, eo29⟩ := Kd.R_slice HO381.out; subst eo29)); try go_wp2_with (first | (go_at_call 56; (with_reducible refine (impl_Command_parts.calls kj9 a0_0 a0_1 a0_2 a0_3 a1 t379 true _ A25.out).mono ?_); rintro e w28 ⟨v380, rfl, ho0, hb⟩; have n0_ := aM (Kd.R_lower ho0 (below_size z16)); have n1_ := aM (blk_below (g := gb375) (o := .cells #[.int .i64 a0_0, .int .i64 a0_1, .int .i64 a0_2, .string a0_3] 29 (0, 0)) z9 hb); have n2_ := aM (below_step z16 hb); clear BK375; clear HB; have HO381 := n0_; have BK375 := n1_; have HB := n2_; clear n0_ n1_ n2_; (try clear hb); (try clear hb2); (try clear hk); (try clear hi); (try clear ho0); obtain ⟨Ao29, co29, eo29⟩ := Kd.R_slice HO381.out; subst eo29)))
       go_loopg [10, 11, 58] kj9 (fun kq v10 v11 v58 w' => ∃ (x10_3 : ByteArray) (x11_3 : ByteArray) (x58_3 : Int), v10 = .string x10_3 ∧ v11 = .string x11_3 ∧ v58 = .int .i64 x58_3 ∧ Aside0 (impl_Command_do.l0 kq t379 x10_3 x11_3 t379 (t379.length : Int) x58_3 = some (r1, r2, r3)) ∧ Aside0 (kq ≤ kj9) ∧ Aside0 (Kd.R k61 61 w' w.heap.size (fun _ => True) (.slice Ao29 t379.length co29) t379) ∧ Aside0 (Kd.R k61 61 w' w.heap.size (fun _ => True) (.slice Ao29 t379.length co29) t379) ∧ Aside0 (w'.heap[gb375]? = some (.cells #[.int .i64 a0_0, .int .i64 a0_1, .int .i64 a0_2, .string a0_3] 29 (0, 0))) ∧ Aside0 (Below w.heap.size w w'))
       case atStart => exact ⟨((⟨#[]⟩ : ByteArray)), (a1), (0), z1, z1, z1, H', ⟨Nat.le_refl _⟩, ⟨by (with_reducible repeat (first | apply Kd.R_alloc | apply Kd.R_drewN | apply Kd.R_drew)); exact HO381.out⟩, ⟨by (with_reducible repeat (first | apply Kd.R_alloc | apply Kd.R_drewN | apply Kd.R_drew)); exact HO381.out⟩, ⟨y7⟩, ⟨y13⟩⟩
       case round =>
        clear H'
        try clear c1
        try clear c2
        try clear p2
        try clear c3
        try clear c5
        try clear c5b0
        try clear c5b1
        try clear c7
        try clear c7b0
        try clear c7b1
        try clear c12
        try clear c14
        try clear c15
        try clear c24
        try clear c26
        try clear hcz18_0
        try clear hcz18_1
        try clear hcz18_2
        try clear hcz18_3
        try clear hcz20_0
        try clear hcz20_1
        try clear hcz20_2
        try clear hcz20_3
        try clear hcz22_0
        try clear hcz22_1
        try clear hcz22_2
        try clear hcz22_3
        try clear hcz27_0
        try clear hcz27_1
        try clear hcz27_2
        try clear hcz27_3
        try clear hcz6_0
        try clear hcz6_1
        try clear hcz6_2
        try clear hcz6_3
        try clear hcz8_0
        try clear hcz8_1
        try clear hcz8_2
        try clear hcz8_3
        try clear hcz9_0
        try clear hcz9_1
        try clear hcz9_2
        try clear hcz9_3
        try clear hfz18_0
        try clear hfz18_1
        try clear hfz18_2
        try clear hfz18_3
        try clear hfz20_0
        try clear hfz20_1
        try clear hfz20_2
        try clear hfz20_3
        try clear hfz22_0
        try clear hfz22_1
        try clear hfz22_2
        try clear hfz22_3
        try clear hfz27_0
        try clear hfz27_1
        try clear hfz27_2
        try clear hfz27_3
        try clear hfz6_0
        try clear hfz6_1
        try clear hfz6_2
        try clear hfz6_3
        try clear hfz8_0
        try clear hfz8_1
        try clear hfz8_2
        try clear hfz8_3
        try clear hfz9_0
        try clear hfz9_1
        try clear hfz9_2
        try clear hfz9_3
        try clear p2
        obtain ⟨x10_3, x11_3, x58_3, rfl, rfl, rfl, HA, HK3, HO_8, HO_56, BK375, HB⟩ := hrel
        cases gk with
        | zero => exact absurd HA.out (by simp [impl_Command_do.l0])
        | succ k3 =>
         have H := HA.out
         clear HA
         simp only [impl_Command_do.l0] at H
         by_cases c30 : x58_3 < (t379.length : Int)
         ·rw [if_pos c30] at H
          have c30b0 : decide (x58_3 < (t379.length : Int)) = true := dT c30
          clear c30
          by_cases c31 : 0 ≤ x58_3
          ·rw [if_pos c31] at H
           have c31b0 : decide (0 ≤ x58_3) = true := dT c31
           clear c31
           by_cases c32 : x58_3 < (t379.length : Int)
           ·rw [if_pos c32] at H
            have c32b0 : decide (x58_3 < (t379.length : Int)) = true := dT c32
            clear c32
            by_cases c33 : 0 ≤ ((rd_T61 t379 x58_3).f0)
            ·rw [if_pos c33] at H
             have c33b0 := eq_true c33
             have c33b1 : decide (0 ≤ ((rd_T61 t379 x58_3).f0)) = true := dT c33
             clear c33
             by_cases c34 : ((rd_T61 t379 x58_3).f0) ≤ (x11_3.size : Int)
             ·rw [if_pos c34] at H
              have c34b0 := eq_true c34
              have c34b1 : decide (((rd_T61 t379 x58_3).f0) ≤ (x11_3.size : Int)) = true := dT c34
              clear c34
              by_cases c35 : (x11_3.extract 0 (((rd_T61 t379 x58_3).f0) : Int).toNat).size + ((rd_T61 t379 x58_3).f1).size ≤ 9223372036854775807
              ·rw [if_pos c35] at H
               have c35b0 := eq_true c35
               have c35b1 : decide ((x11_3.extract 0 (((rd_T61 t379 x58_3).f0) : Int).toNat).size + ((rd_T61 t379 x58_3).f1).size ≤ 9223372036854775807) = true := dT c35
               try have c35b2 : (9223372036854775807 < (x11_3.extract 0 (((rd_T61 t379 x58_3).f0) : Int).toNat).size + ((rd_T61 t379 x58_3).f1).size) = False := eq_false (Nat.not_lt.2 c35)
               (try (have c35x : (9223372036854775807 < ((rd_T61 t379 x58_3).f0).toNat + ((rd_T61 t379 x58_3).f1).size) = False := eq_false (fun h_ => by have e_ := of_eq_true c35b0; simp only [ByteArray.size_extract, ByteArray.size_append] at e_; have f0_ : ((rd_T61 t379 x58_3).f0) ≤ (x11_3.size : Int) := (by first | assumption | exact of_eq_true (by assumption) | exact oD (by assumption)); omega)))
               by_cases c36 : x10_3.size + ((x11_3.extract 0 (((rd_T61 t379 x58_3).f0) : Int).toNat) ++ ((rd_T61 t379 x58_3).f1)).size ≤ 9223372036854775807
               ·rw [if_pos c36] at H
                have c36b0 := eq_true c36
                have c36b1 : decide (x10_3.size + ((x11_3.extract 0 (((rd_T61 t379 x58_3).f0) : Int).toNat) ++ ((rd_T61 t379 x58_3).f1)).size ≤ 9223372036854775807) = true := dT c36
                try have c36b2 : (9223372036854775807 < x10_3.size + ((x11_3.extract 0 (((rd_T61 t379 x58_3).f0) : Int).toNat) ++ ((rd_T61 t379 x58_3).f1)).size) = False := eq_false (Nat.not_lt.2 c36)
                (try (have c36x : (9223372036854775807 < x10_3.size + (((rd_T61 t379 x58_3).f0).toNat + ((rd_T61 t379 x58_3).f1).size)) = False := eq_false (fun h_ => by have e_ := of_eq_true c36b0; simp only [ByteArray.size_extract, ByteArray.size_append] at e_; have f0_ : ((rd_T61 t379 x58_3).f0) ≤ (x11_3.size : Int) := (by first | assumption | exact of_eq_true (by assumption) | exact oD (by assumption)); omega)))
                (try (have c36b2s := c36b2; simp only [ByteArray.size_append] at c36b2s))
                obtain ⟨ji37, hji37⟩ : ∃ j_ : Int, (wrap64 (((rd_T61 t379 x58_3).f0) + (((rd_T61 t379 x58_3).f2).size : Int))) = j_ := ⟨_, rfl⟩
                replace H : (if 0 ≤ (ji37) then (if (ji37) ≤ (x11_3.size : Int) then (impl_Command_do.l0 k3 t379 (x10_3 ++ ((x11_3.extract 0 (((rd_T61 t379 x58_3).f0) : Int).toNat) ++ ((rd_T61 t379 x58_3).f1))) (x11_3.extract ((ji37) : Int).toNat x11_3.size) t379 (t379.length : Int) (wrap64 (x58_3 + 1))) else (none)) else (none)) = some (r1, r2, r3) := by first | (rw [hji37] at H; exact H) | (simp only [hji37] at H ⊢; exact H)
                have hji37w : (IntKind.i64.wrap (((rd_T61 t379 x58_3).f0) + (((rd_T61 t379 x58_3).f2).size : Int))) = ji37 := (i64_w _).trans hji37
                by_cases c38 : 0 ≤ (ji37)
                ·rw [if_pos c38] at H
                 have c38b0 := eq_true c38
                 have c38b1 : decide (0 ≤ (ji37)) = true := dT c38
                 clear c38
                 by_cases c39 : (ji37) ≤ (x11_3.size : Int)
                 ·rw [if_pos c39] at H
                  have c39b0 := eq_true c39
                  have c39b1 : decide ((ji37) ≤ (x11_3.size : Int)) = true := dT c39
                  clear c39
                  have H' := aM H
                  clear H
                  have p383 : 0 ≤ (x58_3 : Int) := oD z2
                  have q383 : x58_3 < (t379.length : Int) := oD z2
                  obtain ⟨ad383, e383, hx383_0, hx383_1, hx383_2⟩ := at_T61 (Kd.R_reads' HO_56.out).2.2 x58_3 p383 q383
                  cases e383
                  replace p383 := eq_true p383
                  replace q383 := eq_true q383
                  go_wp2_with (first | ((with_reducible refine gate_dst (N := 13) rfl ?_); refine box_event ?hg (N := 13) ?hd (cs := #[.int .i64 0, .string (⟨#[]⟩ : ByteArray), .string (⟨#[]⟩ : ByteArray)]) (t := 61) ?hr ?_; (case hd => rfl); (case hg => rfl); (case hr => first | (go_simp; done) | (go_simp; rfl)); intro gb384 hg w40 hbox hb; have n0_ := aM (Kd.R_below (Kd.R_elderB z3 gb384 (Nat.le_of_eq hg.symm)) hb); have n1_ := aM (Kd.R_below (Kd.R_elderB z4 gb384 (Nat.le_of_eq hg.symm)) hb); have n2_ := aM (blk_below (g := gb375) (o := .cells #[.int .i64 a0_0, .int .i64 a0_1, .int .i64 a0_2, .string a0_3] 29 (0, 0)) z9 hb); have n3_ := aM (below_step z16 hb); have n4_ := aM (hbox); have n5_ := aM ((by rw [hg]; exact (below_size z16) : w.heap.size ≤ gb384)); have n6_ := aM ((by rw [hg]; exact (below_size z16) : w.heap.size ≤ gb384)); have n7_ := aM ((by rw [hg]; exact Nat.ne_of_lt (blk_lt (g := gb375) (o := .cells #[.int .i64 a0_0, .int .i64 a0_1, .int .i64 a0_2, .string a0_3] 29 (0, 0)) z9) : gb375 ≠ gb384)); have n8_ := aM ((by rw [hg]; exact Nat.ne_of_gt (blk_lt (g := gb375) (o := .cells #[.int .i64 a0_0, .int .i64 a0_1, .int .i64 a0_2, .string a0_3] 29 (0, 0)) z9) : gb384 ≠ gb375)); clear HO_8; clear HO_56; clear BK375; clear HB; have HO_8 := n0_; have HO_56 := n1_; have BK375 := n2_; have HB := n3_; have BK384 := n4_; have GW384 := n5_; have GE384 := n6_; have NB375_384 := n7_; have NB384_375 := n8_; clear n0_ n1_ n2_ n3_ n4_ n5_ n6_ n7_ n8_; clear hb hbox hg; have hnb41 := NB384_375.out; have hnc41 := NB375_384.out; have hcz42_0 : w40.cell? ⟨gb384, 0, none⟩ = some (.int .i64 0) := (bC BK384.out 0).trans rfl; have hcz42_1 : w40.cell? ⟨gb384, 1, none⟩ = some (.string (⟨#[]⟩ : ByteArray)) := (bC BK384.out 1).trans rfl; have hcz42_2 : w40.cell? ⟨gb384, 2, none⟩ = some (.string (⟨#[]⟩ : ByteArray)) := (bC BK384.out 2).trans rfl; have hfz42_0 := bF BK384.out 0; have hfz42_1 := bF BK384.out 1; have hfz42_2 := bF BK384.out 2))
                  repeat (go_quiet (first | ((with_reducible refine gate_dst (N := 13) rfl ?_); refine box_event ?hg (N := 13) ?hd (cs := #[.int .i64 0, .string (⟨#[]⟩ : ByteArray), .string (⟨#[]⟩ : ByteArray)]) (t := 61) ?hr ?_; (case hd => rfl); (case hg => rfl); (case hr => first | (go_simp; done) | (go_simp; rfl)); intro gb384 hg w40 hbox hb; have n0_ := aM (Kd.R_below (Kd.R_elderB z3 gb384 (Nat.le_of_eq hg.symm)) hb); have n1_ := aM (Kd.R_below (Kd.R_elderB z4 gb384 (Nat.le_of_eq hg.symm)) hb); have n2_ := aM (blk_below (g := gb375) (o := .cells #[.int .i64 a0_0, .int .i64 a0_1, .int .i64 a0_2, .string a0_3] 29 (0, 0)) z9 hb); have n3_ := aM (below_step z16 hb); have n4_ := aM (hbox); have n5_ := aM ((by rw [hg]; exact (below_size z16) : w.heap.size ≤ gb384)); have n6_ := aM ((by rw [hg]; exact (below_size z16) : w.heap.size ≤ gb384)); have n7_ := aM ((by rw [hg]; exact Nat.ne_of_lt (blk_lt (g := gb375) (o := .cells #[.int .i64 a0_0, .int .i64 a0_1, .int .i64 a0_2, .string a0_3] 29 (0, 0)) z9) : gb375 ≠ gb384)); have n8_ := aM ((by rw [hg]; exact Nat.ne_of_gt (blk_lt (g := gb375) (o := .cells #[.int .i64 a0_0, .int .i64 a0_1, .int .i64 a0_2, .string a0_3] 29 (0, 0)) z9) : gb384 ≠ gb375)); clear HO_8; clear HO_56; clear BK375; clear HB; have HO_8 := n0_; have HO_56 := n1_; have BK375 := n2_; have HB := n3_; have BK384 := n4_; have GW384 := n5_; have GE384 := n6_; have NB375_384 := n7_; have NB384_375 := n8_; clear n0_ n1_ n2_ n3_ n4_ n5_ n6_ n7_ n8_; clear hb hbox hg; have hnb41 := NB384_375.out; have hnc41 := NB375_384.out; have hcz42_0 : w40.cell? ⟨gb384, 0, none⟩ = some (.int .i64 0) := (bC BK384.out 0).trans rfl; have hcz42_1 : w40.cell? ⟨gb384, 1, none⟩ = some (.string (⟨#[]⟩ : ByteArray)) := (bC BK384.out 1).trans rfl; have hcz42_2 : w40.cell? ⟨gb384, 2, none⟩ = some (.string (⟨#[]⟩ : ByteArray)) := (bC BK384.out 2).trans rfl; have hfz42_0 := bF BK384.out 0; have hfz42_1 := bF BK384.out 1; have hfz42_2 := bF BK384.out 2)); try go_wp2_with (first | ((with_reducible refine gate_dst (N := 13) rfl ?_); refine box_event ?hg (N := 13) ?hd (cs := #[.int .i64 0, .string (⟨#[]⟩ : ByteArray), .string (⟨#[]⟩ : ByteArray)]) (t := 61) ?hr ?_; (case hd => rfl); (case hg => rfl); (case hr => first | (go_simp; done) | (go_simp; rfl)); intro gb384 hg w40 hbox hb; have n0_ := aM (Kd.R_below (Kd.R_elderB z3 gb384 (Nat.le_of_eq hg.symm)) hb); have n1_ := aM (Kd.R_below (Kd.R_elderB z4 gb384 (Nat.le_of_eq hg.symm)) hb); have n2_ := aM (blk_below (g := gb375) (o := .cells #[.int .i64 a0_0, .int .i64 a0_1, .int .i64 a0_2, .string a0_3] 29 (0, 0)) z9 hb); have n3_ := aM (below_step z16 hb); have n4_ := aM (hbox); have n5_ := aM ((by rw [hg]; exact (below_size z16) : w.heap.size ≤ gb384)); have n6_ := aM ((by rw [hg]; exact (below_size z16) : w.heap.size ≤ gb384)); have n7_ := aM ((by rw [hg]; exact Nat.ne_of_lt (blk_lt (g := gb375) (o := .cells #[.int .i64 a0_0, .int .i64 a0_1, .int .i64 a0_2, .string a0_3] 29 (0, 0)) z9) : gb375 ≠ gb384)); have n8_ := aM ((by rw [hg]; exact Nat.ne_of_gt (blk_lt (g := gb375) (o := .cells #[.int .i64 a0_0, .int .i64 a0_1, .int .i64 a0_2, .string a0_3] 29 (0, 0)) z9) : gb384 ≠ gb375)); clear HO_8; clear HO_56; clear BK375; clear HB; have HO_8 := n0_; have HO_56 := n1_; have BK375 := n2_; have HB := n3_; have BK384 := n4_; have GW384 := n5_; have GE384 := n6_; have NB375_384 := n7_; have NB384_375 := n8_; clear n0_ n1_ n2_ n3_ n4_ n5_ n6_ n7_ n8_; clear hb hbox hg; have hnb41 := NB384_375.out; have hnc41 := NB375_384.out; have hcz42_0 : w40.cell? ⟨gb384, 0, none⟩ = some (.int .i64 0) := (bC BK384.out 0).trans rfl; have hcz42_1 : w40.cell? ⟨gb384, 1, none⟩ = some (.string (⟨#[]⟩ : ByteArray)) := (bC BK384.out 1).trans rfl; have hcz42_2 : w40.cell? ⟨gb384, 2, none⟩ = some (.string (⟨#[]⟩ : ByteArray)) := (bC BK384.out 2).trans rfl; have hfz42_0 := bF BK384.out 0; have hfz42_1 := bF BK384.out 1; have hfz42_2 := bF BK384.out 2)))
                  go_roundg k3
                  case measure => have := HJ2.out; have := HJ9.out; have := HK3.out; omega
                  case rel => exact ⟨(x10_3 ++ ((x11_3.extract 0 (((rd_T61 t379 x58_3).f0) : Int).toNat) ++ ((rd_T61 t379 x58_3).f1))), (x11_3.extract ((ji37) : Int).toNat x11_3.size), (wrap64 (x58_3 + 1)), z1, (by first | rfl | (simp; done) | (simp only [← hji37] <;> (first | rfl | (simp; done) | (simp; generalize ByteArray.toList _ = u_; cases u_ <;> (first | rfl | (simp; done))))) | (simp [*]; done)), z1, (by first | exact H' | (simp only [hji37]; exact H') | (simp only [← hji37]; exact H')), ⟨by have := HJ2.out; have := HJ9.out; have := HK3.out; omega⟩, ⟨by (with_reducible repeat (first | apply Kd.R_alloc | apply Kd.R_drewN | apply Kd.R_drew)); exact Kd.R_mono (Kd.R_far (p := ⟨gb384, 2, none⟩) (Kd.R_far (p := ⟨gb384, 1, none⟩) (Kd.R_far (p := ⟨gb384, 0, none⟩) (Kd.R_mono HO_8.out (fun k_ hk => (⟨hk, hk.2⟩ : _ ∧ k_ ≠ gb384))) (fun _ hk => hk.2) (.int .i64 ((rd_T61 t379 x58_3).f0))) (fun _ hk => hk.2) (.string ((rd_T61 t379 x58_3).f1))) (fun _ hk => hk.2) (.string ((rd_T61 t379 x58_3).f2))) (fun _ hk => trivial)⟩, ⟨by (with_reducible repeat (first | apply Kd.R_alloc | apply Kd.R_drewN | apply Kd.R_drew)); exact Kd.R_mono (Kd.R_far (p := ⟨gb384, 2, none⟩) (Kd.R_far (p := ⟨gb384, 1, none⟩) (Kd.R_far (p := ⟨gb384, 0, none⟩) (Kd.R_mono HO_56.out (fun k_ hk => (⟨hk, hk.2⟩ : _ ∧ k_ ≠ gb384))) (fun _ hk => hk.2) (.int .i64 ((rd_T61 t379 x58_3).f0))) (fun _ hk => hk.2) (.string ((rd_T61 t379 x58_3).f1))) (fun _ hk => hk.2) (.string ((rd_T61 t379 x58_3).f2))) (fun _ hk => trivial)⟩, ⟨by (with_reducible repeat (first | refine blk_drewN ?_ _ | refine blk_drew ?_ | refine blk_alloc ?_ _)); refine blk_far ?_ NB375_384.out _; (with_reducible repeat (first | refine blk_drewN ?_ _ | refine blk_drew ?_ | refine blk_alloc ?_ _)); refine blk_far ?_ NB375_384.out _; (with_reducible repeat (first | refine blk_drewN ?_ _ | refine blk_drew ?_ | refine blk_alloc ?_ _)); refine blk_far ?_ NB375_384.out _; (with_reducible repeat (first | refine blk_drewN ?_ _ | refine blk_drew ?_ | refine blk_alloc ?_ _)); exact BK375.out⟩, ⟨by repeat (first | (with_reducible first | exact HB.out | apply bA | apply pD | apply bD | refine below_set ?_ GE375.out | refine below_set ?_ GE384.out) | exact HB.out)⟩⟩
                 ·rw [if_neg c39] at H
                  exact absurd H (by simp)
                ·rw [if_neg c38] at H
                 exact absurd H (by simp)
               ·rw [if_neg c36] at H
                exact absurd H (by simp)
              ·rw [if_neg c35] at H
               exact absurd H (by simp)
             ·rw [if_neg c34] at H
              exact absurd H (by simp)
            ·rw [if_neg c33] at H
             exact absurd H (by simp)
           ·rw [if_neg c32] at H
            exact absurd H (by simp)
          ·rw [if_neg c31] at H
           exact absurd H (by simp)
         ·rw [if_neg c30] at H
          have c30b0 : decide (x58_3 < (t379.length : Int)) = false := dF c30
          clear c30
          replace H := oB H
          obtain ⟨t385, A430, H⟩ := H
          try dsimp only at H
          have A43 := aM A430
          clear A430
          by_cases c44 : t385 = true
          ·subst c44
           rw [if_pos rfl] at H
           replace H := oB H
           obtain ⟨t386, A450, H⟩ := H
           try dsimp only at H
           have A45 := aM A450
           clear A450
           simp only [Option.some.injEq, Prod.mk.injEq] at H
           obtain ⟨rfl, rfl, rfl⟩ := H
           go_wp2_with (first | (go_at_call 18; (with_reducible refine (impl_GoodDoc.calls k3 x10_3 true _ A43.out).mono ?_); rintro e w46 ⟨rfl, hb⟩; have n0_ := aM (Kd.R_below z3 hb); have n1_ := aM (Kd.R_below z4 hb); have n2_ := aM (blk_below (g := gb375) (o := .cells #[.int .i64 a0_0, .int .i64 a0_1, .int .i64 a0_2, .string a0_3] 29 (0, 0)) z9 hb); have n3_ := aM (below_step z16 hb); clear HO_8; clear HO_56; clear BK375; clear HB; have HO_8 := n0_; have HO_56 := n1_; have BK375 := n2_; have HB := n3_; clear n0_ n1_ n2_ n3_; (try clear hb); (try clear hb2); (try clear hk); (try clear hi)) | (go_at_call 47; (with_reducible refine (impl_normal.calls _ _ t379 t386 _ ?side1 ?side2 A45.out).mono ?_); (case side1 => repeat (first | exact (Kd.R_reads' HO_8.out).2.2 | (with_reducible refine Kd.C_alloc ?_ _) | (with_reducible refine Kd.C_drewN ?_ _) | (with_reducible refine Kd.C_drew ?_))); (case side2 => exact (Kd.R_reads' HO_8.out).2.1); rintro e w47 ⟨v387, rfl, ho0, hb⟩; have n0_ := aM (Kd.R_elder' z3 (Kd.R_base ho0) hb); have n1_ := aM (Kd.R_elder' z4 (Kd.R_base ho0) hb); have n2_ := aM (Kd.R_lower (Kd.R_new' (Kd.R_new' ho0 (Kd.R_lt z3)) (Kd.R_lt z4)) (below_size z16)); have n3_ := aM (blk_below (g := gb375) (o := .cells #[.int .i64 a0_0, .int .i64 a0_1, .int .i64 a0_2, .string a0_3] 29 (0, 0)) z9 hb); have n4_ := aM (below_step z16 hb); clear HO_8; clear HO_56; clear BK375; clear HB; have HO_8 := n0_; have HO_56 := n1_; have HO388 := n2_; have BK375 := n3_; have HB := n4_; clear n0_ n1_ n2_ n3_ n4_; (try clear hb); (try clear hb2); (try clear hk); (try clear hi); (try clear ho0)))
           repeat (go_quiet (first | (go_at_call 18; (with_reducible refine (impl_GoodDoc.calls k3 x10_3 true _ A43.out).mono ?_); rintro e w46 ⟨rfl, hb⟩; have n0_ := aM (Kd.R_below z3 hb); have n1_ := aM (Kd.R_below z4 hb); have n2_ := aM (blk_below (g := gb375) (o := .cells #[.int .i64 a0_0, .int .i64 a0_1, .int .i64 a0_2, .string a0_3] 29 (0, 0)) z9 hb); have n3_ := aM (below_step z16 hb); clear HO_8; clear HO_56; clear BK375; clear HB; have HO_8 := n0_; have HO_56 := n1_; have BK375 := n2_; have HB := n3_; clear n0_ n1_ n2_ n3_; (try clear hb); (try clear hb2); (try clear hk); (try clear hi)) | (go_at_call 47; (with_reducible refine (impl_normal.calls _ _ t379 t386 _ ?side1 ?side2 A45.out).mono ?_); (case side1 => repeat (first | exact (Kd.R_reads' HO_8.out).2.2 | (with_reducible refine Kd.C_alloc ?_ _) | (with_reducible refine Kd.C_drewN ?_ _) | (with_reducible refine Kd.C_drew ?_))); (case side2 => exact (Kd.R_reads' HO_8.out).2.1); rintro e w47 ⟨v387, rfl, ho0, hb⟩; have n0_ := aM (Kd.R_elder' z3 (Kd.R_base ho0) hb); have n1_ := aM (Kd.R_elder' z4 (Kd.R_base ho0) hb); have n2_ := aM (Kd.R_lower (Kd.R_new' (Kd.R_new' ho0 (Kd.R_lt z3)) (Kd.R_lt z4)) (below_size z16)); have n3_ := aM (blk_below (g := gb375) (o := .cells #[.int .i64 a0_0, .int .i64 a0_1, .int .i64 a0_2, .string a0_3] 29 (0, 0)) z9 hb); have n4_ := aM (below_step z16 hb); clear HO_8; clear HO_56; clear BK375; clear HB; have HO_8 := n0_; have HO_56 := n1_; have HO388 := n2_; have BK375 := n3_; have HB := n4_; clear n0_ n1_ n2_ n3_ n4_; (try clear hb); (try clear hb2); (try clear hk); (try clear hi); (try clear ho0))); try go_wp2_with (first | (go_at_call 18; (with_reducible refine (impl_GoodDoc.calls k3 x10_3 true _ A43.out).mono ?_); rintro e w46 ⟨rfl, hb⟩; have n0_ := aM (Kd.R_below z3 hb); have n1_ := aM (Kd.R_below z4 hb); have n2_ := aM (blk_below (g := gb375) (o := .cells #[.int .i64 a0_0, .int .i64 a0_1, .int .i64 a0_2, .string a0_3] 29 (0, 0)) z9 hb); have n3_ := aM (below_step z16 hb); clear HO_8; clear HO_56; clear BK375; clear HB; have HO_8 := n0_; have HO_56 := n1_; have BK375 := n2_; have HB := n3_; clear n0_ n1_ n2_ n3_; (try clear hb); (try clear hb2); (try clear hk); (try clear hi)) | (go_at_call 47; (with_reducible refine (impl_normal.calls _ _ t379 t386 _ ?side1 ?side2 A45.out).mono ?_); (case side1 => repeat (first | exact (Kd.R_reads' HO_8.out).2.2 | (with_reducible refine Kd.C_alloc ?_ _) | (with_reducible refine Kd.C_drewN ?_ _) | (with_reducible refine Kd.C_drew ?_))); (case side2 => exact (Kd.R_reads' HO_8.out).2.1); rintro e w47 ⟨v387, rfl, ho0, hb⟩; have n0_ := aM (Kd.R_elder' z3 (Kd.R_base ho0) hb); have n1_ := aM (Kd.R_elder' z4 (Kd.R_base ho0) hb); have n2_ := aM (Kd.R_lower (Kd.R_new' (Kd.R_new' ho0 (Kd.R_lt z3)) (Kd.R_lt z4)) (below_size z16)); have n3_ := aM (blk_below (g := gb375) (o := .cells #[.int .i64 a0_0, .int .i64 a0_1, .int .i64 a0_2, .string a0_3] 29 (0, 0)) z9 hb); have n4_ := aM (below_step z16 hb); clear HO_8; clear HO_56; clear BK375; clear HB; have HO_8 := n0_; have HO_56 := n1_; have HO388 := n2_; have BK375 := n3_; have HB := n4_; clear n0_ n1_ n2_ n3_ n4_; (try clear hb); (try clear hb2); (try clear hk); (try clear hi); (try clear ho0))))
           go_ret3
           exact ⟨_, y3, by (with_reducible repeat (first | apply Kd.R_alloc | apply Kd.R_drewN | apply Kd.R_drew)); exact Kd.R_mono HO388.out (fun _ hk => trivial), y13⟩
          ·replace c44 := Bool.eq_false_iff.mpr c44
           subst c44
           rw [if_neg (show ¬ (false = true) by decide)] at H
           simp only [Option.some.injEq, Prod.mk.injEq] at H
           obtain ⟨rfl, rfl, rfl⟩ := H
           go_wp2_with (first | (go_at_call 18; (with_reducible refine (impl_GoodDoc.calls k3 x10_3 false _ A43.out).mono ?_); rintro e w48 ⟨rfl, hb⟩; have n0_ := aM (Kd.R_below z3 hb); have n1_ := aM (Kd.R_below z4 hb); have n2_ := aM (blk_below (g := gb375) (o := .cells #[.int .i64 a0_0, .int .i64 a0_1, .int .i64 a0_2, .string a0_3] 29 (0, 0)) z9 hb); have n3_ := aM (below_step z16 hb); clear HO_8; clear HO_56; clear BK375; clear HB; have HO_8 := n0_; have HO_56 := n1_; have BK375 := n2_; have HB := n3_; clear n0_ n1_ n2_ n3_; (try clear hb); (try clear hb2); (try clear hk); (try clear hi)))
           repeat (go_quiet (first | (go_at_call 18; (with_reducible refine (impl_GoodDoc.calls k3 x10_3 false _ A43.out).mono ?_); rintro e w48 ⟨rfl, hb⟩; have n0_ := aM (Kd.R_below z3 hb); have n1_ := aM (Kd.R_below z4 hb); have n2_ := aM (blk_below (g := gb375) (o := .cells #[.int .i64 a0_0, .int .i64 a0_1, .int .i64 a0_2, .string a0_3] 29 (0, 0)) z9 hb); have n3_ := aM (below_step z16 hb); clear HO_8; clear HO_56; clear BK375; clear HB; have HO_8 := n0_; have HO_56 := n1_; have BK375 := n2_; have HB := n3_; clear n0_ n1_ n2_ n3_; (try clear hb); (try clear hb2); (try clear hk); (try clear hi))); try go_wp2_with (first | (go_at_call 18; (with_reducible refine (impl_GoodDoc.calls k3 x10_3 false _ A43.out).mono ?_); rintro e w48 ⟨rfl, hb⟩; have n0_ := aM (Kd.R_below z3 hb); have n1_ := aM (Kd.R_below z4 hb); have n2_ := aM (blk_below (g := gb375) (o := .cells #[.int .i64 a0_0, .int .i64 a0_1, .int .i64 a0_2, .string a0_3] 29 (0, 0)) z9 hb); have n3_ := aM (below_step z16 hb); clear HO_8; clear HO_56; clear BK375; clear HB; have HO_8 := n0_; have HO_56 := n1_; have BK375 := n2_; have HB := n3_; clear n0_ n1_ n2_ n3_; (try clear hb); (try clear hb2); (try clear hk); (try clear hi))))
           go_ret3
           exact ⟨_, y3, y21, y13⟩
      ·replace c26 := Bool.eq_false_iff.mpr c26
       subst c26
       rw [if_neg (show ¬ (false = true) by decide)] at H
       simp only [Option.some.injEq, Prod.mk.injEq] at H
       obtain ⟨rfl, rfl, rfl⟩ := H
       have hcz49_0 : wc.cell? ⟨gb375, 0, none⟩ = some (.int .i64 a0_0) := (bC BK375.out 0).trans rfl
       have hcz49_1 : wc.cell? ⟨gb375, 1, none⟩ = some (.int .i64 a0_1) := (bC BK375.out 1).trans rfl
       have hcz49_2 : wc.cell? ⟨gb375, 2, none⟩ = some (.int .i64 a0_2) := (bC BK375.out 2).trans rfl
       have hcz49_3 : wc.cell? ⟨gb375, 3, none⟩ = some (.string a0_3) := (bC BK375.out 3).trans rfl
       have hfz49_0 := bF BK375.out 0
       have hfz49_1 := bF BK375.out 1
       have hfz49_2 := bF BK375.out 2
       have hfz49_3 := bF BK375.out 3
       go_wp2_with (first | (go_at_call 56; (with_reducible refine (impl_Command_parts.calls kj9 a0_0 a0_1 a0_2 a0_3 a1 t379 false _ A25.out).mono ?_); rintro e w50 ⟨v380, rfl, ho0, hb⟩; have n0_ := aM (Kd.R_lower ho0 (below_size z16)); have n1_ := aM (blk_below (g := gb375) (o := .cells #[.int .i64 a0_0, .int .i64 a0_1, .int .i64 a0_2, .string a0_3] 29 (0, 0)) z9 hb); have n2_ := aM (below_step z16 hb); clear BK375; clear HB; have HO381 := n0_; have BK375 := n1_; have HB := n2_; clear n0_ n1_ n2_; (try clear hb); (try clear hb2); (try clear hk); (try clear hi); (try clear ho0)))
       repeat (go_quiet (first | (go_at_call 56; (with_reducible refine (impl_Command_parts.calls kj9 a0_0 a0_1 a0_2 a0_3 a1 t379 false _ A25.out).mono ?_); rintro e w50 ⟨v380, rfl, ho0, hb⟩; have n0_ := aM (Kd.R_lower ho0 (below_size z16)); have n1_ := aM (blk_below (g := gb375) (o := .cells #[.int .i64 a0_0, .int .i64 a0_1, .int .i64 a0_2, .string a0_3] 29 (0, 0)) z9 hb); have n2_ := aM (below_step z16 hb); clear BK375; clear HB; have HO381 := n0_; have BK375 := n1_; have HB := n2_; clear n0_ n1_ n2_; (try clear hb); (try clear hb2); (try clear hk); (try clear hi); (try clear ho0))); try go_wp2_with (first | (go_at_call 56; (with_reducible refine (impl_Command_parts.calls kj9 a0_0 a0_1 a0_2 a0_3 a1 t379 false _ A25.out).mono ?_); rintro e w50 ⟨v380, rfl, ho0, hb⟩; have n0_ := aM (Kd.R_lower ho0 (below_size z16)); have n1_ := aM (blk_below (g := gb375) (o := .cells #[.int .i64 a0_0, .int .i64 a0_1, .int .i64 a0_2, .string a0_3] 29 (0, 0)) z9 hb); have n2_ := aM (below_step z16 hb); clear BK375; clear HB; have HO381 := n0_; have BK375 := n1_; have HB := n2_; clear n0_ n1_ n2_; (try clear hb); (try clear hb2); (try clear hk); (try clear hi); (try clear ho0))))
       go_ret3
       exact ⟨_, y3, y21, y13⟩

/-! ### impl_sizes: function 46 -/
def impl_sizes.l0 : Nat → Int → Int → List (S61) → Int → Int → Option (Int × Int)
 | 0, _, _, _, _, _ => none
 | k + 1, x4, x5, x8, x9, x10 => if x10 < x9 then (if 0 ≤ x10 then (if x10 < (x8.length : Int) then (impl_sizes.l0 k (wrap64 (x4 + (wrap64 (((rd_T61 x8 x10).f0) + (((rd_T61 x8 x10).f2).size : Int))))) (wrap64 (x5 + (wrap64 (((rd_T61 x8 x10).f0) + (((rd_T61 x8 x10).f1).size : Int))))) x8 x9 (wrap64 (x10 + 1))) else (none)) else (none)) else (some (x4, x5))
def impl_sizes.f (k : Nat) (l0 : List (S61)) : Option (Int × Int) := impl_sizes.l0 k 0 0 l0 (l0.length : Int) 0
theorem impl_sizes.mono_l : ∀ k, (∀ y0 y1 y2 y3 y4, LeO (impl_sizes.l0 k y0 y1 y2 y3 y4) (impl_sizes.l0 (k + 1) y0 y1 y2 y3 y4))
 | 0 => fun _ _ _ _ _ r h => by simp [impl_sizes.l0] at h
 | k + 1 => by
  have ih0 := impl_sizes.mono_l k
  ·intro y0 y1 y2 y3 y4
   unfold impl_sizes.l0
   repeat' first
   | (with_reducible exact ih0 _ _ _ _ _)
   | (with_reducible exact LeO.refl _)
   | (with_reducible exact LeO.none _)
   | (with_reducible refine LeO.ite ?_ ?_)
   | (with_reducible refine LeO.bind ?_ (fun _ => ?_))
   | exact ih0 _ _ _ _ _
   | exact LeO.none _
   | refine LeO.ite ?_ ?_
   | refine LeO.bind ?_ (fun _ => ?_)
theorem impl_sizes.mono : ∀ a0 k, LeO (impl_sizes.f k a0) (impl_sizes.f (k + 1) a0) := by
 intro a0 k
 have ih0 := impl_sizes.mono_l k
 unfold impl_sizes.f
 repeat' first
   | (with_reducible exact ih0 _ _ _ _ _)
   | (with_reducible exact LeO.refl _)
   | (with_reducible exact LeO.none _)
   | (with_reducible refine LeO.ite ?_ ?_)
   | (with_reducible refine LeO.bind ?_ (fun _ => ?_))
   | exact ih0 _ _ _ _ _
   | exact LeO.none _
   | refine LeO.ite ?_ ?_
   | refine LeO.bind ?_ (fun _ => ?_)
set_option maxHeartbeats 8000000 in
set_option maxRecDepth 100000 in
theorem impl_sizes.calls (k : Nat) (A0 : Option Addr) (c0 : Nat) (l0 : List (S61)) (r1 : Int) (r2 : Int) (w : World) (hr0 : Kd.C k61 w A0 l0.length l0) (hc0 : l0.length ≤ c0) (h : impl_sizes.f k l0 = some (r1, r2)) :
  Calls Try.prog 46 #[.slice A0 l0.length c0] w fun e w' => e = .returned (.tuple #[.int .i64 r1, .int .i64 r2]) ∧ Below w.heap.size w w' := by
 have hu61 := Try.underlying61
 have HR0 := aM hr0
 have HC0 := aM hc0
 clear hr0 hc0
 have HB := aM (Below.refl w.heap.size w)
 have H : (impl_sizes.l0 k 0 0 l0 (l0.length : Int) 0) = some (r1, r2) := h
 clear h
 have H' := aM H
 clear H
 go_enter Try.func46, Try.ntmps46
 go_wp2
 go_loopg [4, 5, 10] k (fun kq v4 v5 v10 w' => ∃ (x4_1 : Int) (x5_1 : Int) (x10_1 : Int), v4 = .int .i64 x4_1 ∧ v5 = .int .i64 x5_1 ∧ v10 = .int .i64 x10_1 ∧ Aside0 (impl_sizes.l0 kq x4_1 x5_1 l0 (l0.length : Int) x10_1 = some (r1, r2)) ∧ Aside0 (kq ≤ k) ∧ Aside0 (Below w.heap.size w w'))
 case atStart => exact ⟨(0), (0), (0), z1, z1, z1, H', ⟨Nat.le_refl _⟩, ⟨y4⟩⟩
 case round =>
  clear H'
  obtain ⟨x4_1, x5_1, x10_1, rfl, rfl, rfl, HA, HK1, HB⟩ := hrel
  cases gk with
  | zero => exact absurd HA.out (by simp [impl_sizes.l0])
  | succ k1 =>
   have H := HA.out
   clear HA
   simp only [impl_sizes.l0] at H
   by_cases c2 : x10_1 < (l0.length : Int)
   ·rw [if_pos c2] at H
    have c2b0 : decide (x10_1 < (l0.length : Int)) = true := dT c2
    clear c2
    by_cases c3 : 0 ≤ x10_1
    ·rw [if_pos c3] at H
     have c3b0 : decide (0 ≤ x10_1) = true := dT c3
     clear c3
     by_cases c4 : x10_1 < (l0.length : Int)
     ·rw [if_pos c4] at H
      have c4b0 : decide (x10_1 < (l0.length : Int)) = true := dT c4
      clear c4
      have H' := aM H
      clear H
      have p389 : 0 ≤ (x10_1 : Int) := oD z2
      have q389 : x10_1 < (l0.length : Int) := oD z2
      obtain ⟨ad389, e389, hx389_0, hx389_1, hx389_2⟩ := at_T61 HR0.out x10_1 p389 q389
      cases e389
      replace hx389_0 := (HB.out.cell (World.block_lt_of_cell? w _ hx389_0)).trans hx389_0
      replace hx389_1 := (HB.out.cell (World.block_lt_of_cell? w _ hx389_1)).trans hx389_1
      replace hx389_2 := (HB.out.cell (World.block_lt_of_cell? w _ hx389_2)).trans hx389_2
      replace p389 := eq_true p389
      replace q389 := eq_true q389
      go_wp2_with (first | ((with_reducible refine gate_dst (N := 7) rfl ?_); refine box_event ?hg (N := 7) ?hd (cs := #[.int .i64 0, .string (⟨#[]⟩ : ByteArray), .string (⟨#[]⟩ : ByteArray)]) (t := 61) ?hr ?_; (case hd => rfl); (case hg => rfl); (case hr => first | (go_simp; done) | (go_simp; rfl)); intro gb390 hg w5 hbox hb; have n0_ := aM (below_step z11 hb); have n1_ := aM (hbox); have n2_ := aM ((by rw [hg]; exact (below_size z11) : w.heap.size ≤ gb390)); have n3_ := aM ((by rw [hg]; exact (below_size z11) : w.heap.size ≤ gb390)); clear HB; have HB := n0_; have BK390 := n1_; have GW390 := n2_; have GE390 := n3_; clear n0_ n1_ n2_ n3_; clear hb hbox hg; have hcz6_0 : w5.cell? ⟨gb390, 0, none⟩ = some (.int .i64 0) := (bC BK390.out 0).trans rfl; have hcz6_1 : w5.cell? ⟨gb390, 1, none⟩ = some (.string (⟨#[]⟩ : ByteArray)) := (bC BK390.out 1).trans rfl; have hcz6_2 : w5.cell? ⟨gb390, 2, none⟩ = some (.string (⟨#[]⟩ : ByteArray)) := (bC BK390.out 2).trans rfl; have hfz6_0 := bF BK390.out 0; have hfz6_1 := bF BK390.out 1; have hfz6_2 := bF BK390.out 2))
      go_roundg k1
      case measure => have := HK1.out; omega
      case rel => exact ⟨(wrap64 (x4_1 + (wrap64 (((rd_T61 l0 x10_1).f0) + (((rd_T61 l0 x10_1).f2).size : Int))))), (wrap64 (x5_1 + (wrap64 (((rd_T61 l0 x10_1).f0) + (((rd_T61 l0 x10_1).f1).size : Int))))), (wrap64 (x10_1 + 1)), z1, z1, z1, H', ⟨by have := HK1.out; omega⟩, ⟨by repeat (first | (with_reducible first | exact HB.out | apply bA | apply pD | apply bD | refine below_set ?_ GE390.out) | exact HB.out)⟩⟩
     ·rw [if_neg c4] at H
      exact absurd H (by simp)
    ·rw [if_neg c3] at H
     exact absurd H (by simp)
   ·rw [if_neg c2] at H
    have c2b0 : decide (x10_1 < (l0.length : Int)) = false := dF c2
    clear c2
    simp only [Option.some.injEq, Prod.mk.injEq] at H
    obtain ⟨rfl, rfl⟩ := H
    go_wp2
    go_ret2
    exact ⟨y3, y4⟩

/-! ### impl_Part_isPart: function 66 -/
def impl_Part_isPart.f (k : Nat) (a0_0 : Int) (a0_1 : ByteArray) (a0_2 : ByteArray) : Option (Bool) := if a0_0 = 0 then (if a0_1.toList = ([] : List UInt8) then (if a0_2.toList = ([] : List UInt8) then (some false) else ((impl_GoodText.f k a0_2).bind fun t392 => (some t392))) else (if a0_2.toList = ([] : List UInt8) then ((impl_GoodText.f k a0_1).bind fun t393 => (some t393)) else (some false))) else (if a0_0 ≥ 1 then (if a0_0 ≤ 300 then (if a0_1.toList = ([] : List UInt8) then (some (a0_2.toList == ([] : List UInt8))) else (some false)) else (some false)) else (some false))
theorem impl_Part_isPart.mono : ∀ a0 a1 a2 k, LeO (impl_Part_isPart.f k a0 a1 a2) (impl_Part_isPart.f (k + 1) a0 a1 a2) := by
 intro a0 a1 a2 k
 unfold impl_Part_isPart.f
 repeat' first
   | (with_reducible exact impl_GoodText.mono _ _)
   | (with_reducible exact LeO.refl _)
   | (with_reducible exact LeO.none _)
   | (with_reducible refine LeO.ite ?_ ?_)
   | (with_reducible refine LeO.bind ?_ (fun _ => ?_))
   | exact impl_GoodText.mono _ _
   | exact LeO.none _
   | refine LeO.ite ?_ ?_
   | refine LeO.bind ?_ (fun _ => ?_)
set_option maxHeartbeats 8000000 in
set_option maxRecDepth 100000 in
theorem impl_Part_isPart.calls (k : Nat) (a0_0 : Int) (a0_1 : ByteArray) (a0_2 : ByteArray) (r : Bool) (w : World) (h : impl_Part_isPart.f k a0_0 a0_1 a0_2 = some r) :
  Calls Try.prog 66 #[.agg #[.int .i64 a0_0, .string a0_1, .string a0_2]] w fun e w' => e = .returned (.bool r) ∧ Below w.heap.size w w' := by
 have hu61 := Try.underlying61
 have HB := aM (Below.refl w.heap.size w)
 have H : (if a0_0 = 0 then (if a0_1.toList = ([] : List UInt8) then (if a0_2.toList = ([] : List UInt8) then (some false) else ((impl_GoodText.f k a0_2).bind fun t392 => (some t392))) else (if a0_2.toList = ([] : List UInt8) then ((impl_GoodText.f k a0_1).bind fun t393 => (some t393)) else (some false))) else (if a0_0 ≥ 1 then (if a0_0 ≤ 300 then (if a0_1.toList = ([] : List UInt8) then (some (a0_2.toList == ([] : List UInt8))) else (some false)) else (some false)) else (some false))) = some r := h
 clear h
 by_cases c2 : a0_0 = 0
 ·rw [if_pos c2] at H
  have c2b0 : (a0_0 == 0) = true := qT c2
  have c2b1 : (a0_0 != 0) = false := nF c2
  clear c2
  by_cases c3 : a0_1.toList = ([] : List UInt8)
  ·rw [if_pos c3] at H
   have c3b0 : (a0_1.toList == ([] : List UInt8)) = true := qT c3
   have c3b1 : (a0_1.toList != ([] : List UInt8)) = false := nF c3
   clear c3
   by_cases c4 : a0_2.toList = ([] : List UInt8)
   ·rw [if_pos c4] at H
    have c4b0 : (a0_2.toList == ([] : List UInt8)) = true := qT c4
    have c4b1 : (a0_2.toList != ([] : List UInt8)) = false := nF c4
    clear c4
    obtain rfl := sI H
    go_enter Try.func66, Try.ntmps66
    go_wp2_with (first | ((with_reducible refine gate_dst (N := 1) rfl ?_); refine box_event ?hg (N := 1) ?hd (cs := #[.int .i64 a0_0, .string a0_1, .string a0_2]) (t := 61) ?hr ?_; (case hd => rfl); (case hg => rfl); (case hr => first | (go_simp; done) | (go_simp; rfl)); intro gb391 hg w5 hbox hb; have n0_ := aM (below_step z11 hb); have n1_ := aM (hbox); have n2_ := aM ((by rw [hg]; exact (below_size z11) : w.heap.size ≤ gb391)); have n3_ := aM ((by rw [hg]; exact (below_size z11) : w.heap.size ≤ gb391)); clear HB; have HB := n0_; have BK391 := n1_; have GW391 := n2_; have GE391 := n3_; clear n0_ n1_ n2_ n3_; clear hb hbox hg; have hcz6_0 : w5.cell? ⟨gb391, 0, none⟩ = some (.int .i64 a0_0) := (bC BK391.out 0).trans rfl; have hcz6_1 : w5.cell? ⟨gb391, 1, none⟩ = some (.string a0_1) := (bC BK391.out 1).trans rfl; have hcz6_2 : w5.cell? ⟨gb391, 2, none⟩ = some (.string a0_2) := (bC BK391.out 2).trans rfl; have hfz6_0 := bF BK391.out 0; have hfz6_1 := bF BK391.out 1; have hfz6_2 := bF BK391.out 2))
    all_goals (try (exfalso; rename_i h_; rw [c3b0] at h_; cases h_; done))
    all_goals (try (exfalso; rename_i h_; rw [c4b0] at h_; cases h_; done))
    go_ret
    exact ⟨y3, y14⟩
   ·rw [if_neg c4] at H
    have c4b0 : (a0_2.toList == ([] : List UInt8)) = false := qF c4
    have c4b1 : (a0_2.toList != ([] : List UInt8)) = true := nT c4
    replace H := oB H
    obtain ⟨t392, A70, H⟩ := H
    try dsimp only at H
    have A7 := aM A70
    clear A70
    obtain rfl := sI H
    go_enter Try.func66, Try.ntmps66
    go_wp2_with (first | ((with_reducible refine gate_dst (N := 1) rfl ?_); refine box_event ?hg (N := 1) ?hd (cs := #[.int .i64 a0_0, .string a0_1, .string a0_2]) (t := 61) ?hr ?_; (case hd => rfl); (case hg => rfl); (case hr => first | (go_simp; done) | (go_simp; rfl)); intro gb391 hg w8 hbox hb; have n0_ := aM (below_step z11 hb); have n1_ := aM (hbox); have n2_ := aM ((by rw [hg]; exact (below_size z11) : w.heap.size ≤ gb391)); have n3_ := aM ((by rw [hg]; exact (below_size z11) : w.heap.size ≤ gb391)); clear HB; have HB := n0_; have BK391 := n1_; have GW391 := n2_; have GE391 := n3_; clear n0_ n1_ n2_ n3_; clear hb hbox hg; have hcz9_0 : w8.cell? ⟨gb391, 0, none⟩ = some (.int .i64 a0_0) := (bC BK391.out 0).trans rfl; have hcz9_1 : w8.cell? ⟨gb391, 1, none⟩ = some (.string a0_1) := (bC BK391.out 1).trans rfl; have hcz9_2 : w8.cell? ⟨gb391, 2, none⟩ = some (.string a0_2) := (bC BK391.out 2).trans rfl; have hfz9_0 := bF BK391.out 0; have hfz9_1 := bF BK391.out 1; have hfz9_2 := bF BK391.out 2) | (go_at_call 45; (with_reducible refine (impl_GoodText.calls k a0_2 t392 _ A7.out).mono ?_); rintro e w' ⟨rfl, ⟨nd, rfl⟩⟩))
    all_goals (try (exfalso; rename_i h_; rw [c3b0] at h_; cases h_; done))
    all_goals (try (exfalso; rename_i h_; rw [c4b0] at h_; cases h_; done))
    go_ret
    exact ⟨y3, y14⟩
  ·rw [if_neg c3] at H
   have c3b0 : (a0_1.toList == ([] : List UInt8)) = false := qF c3
   have c3b1 : (a0_1.toList != ([] : List UInt8)) = true := nT c3
   by_cases c10 : a0_2.toList = ([] : List UInt8)
   ·rw [if_pos c10] at H
    have c10b0 : (a0_2.toList == ([] : List UInt8)) = true := qT c10
    have c10b1 : (a0_2.toList != ([] : List UInt8)) = false := nF c10
    clear c10
    replace H := oB H
    obtain ⟨t393, A110, H⟩ := H
    try dsimp only at H
    have A11 := aM A110
    clear A110
    obtain rfl := sI H
    go_enter Try.func66, Try.ntmps66
    go_wp2_with (first | ((with_reducible refine gate_dst (N := 1) rfl ?_); refine box_event ?hg (N := 1) ?hd (cs := #[.int .i64 a0_0, .string a0_1, .string a0_2]) (t := 61) ?hr ?_; (case hd => rfl); (case hg => rfl); (case hr => first | (go_simp; done) | (go_simp; rfl)); intro gb391 hg w12 hbox hb; have n0_ := aM (below_step z11 hb); have n1_ := aM (hbox); have n2_ := aM ((by rw [hg]; exact (below_size z11) : w.heap.size ≤ gb391)); have n3_ := aM ((by rw [hg]; exact (below_size z11) : w.heap.size ≤ gb391)); clear HB; have HB := n0_; have BK391 := n1_; have GW391 := n2_; have GE391 := n3_; clear n0_ n1_ n2_ n3_; clear hb hbox hg; have hcz13_0 : w12.cell? ⟨gb391, 0, none⟩ = some (.int .i64 a0_0) := (bC BK391.out 0).trans rfl; have hcz13_1 : w12.cell? ⟨gb391, 1, none⟩ = some (.string a0_1) := (bC BK391.out 1).trans rfl; have hcz13_2 : w12.cell? ⟨gb391, 2, none⟩ = some (.string a0_2) := (bC BK391.out 2).trans rfl; have hfz13_0 := bF BK391.out 0; have hfz13_1 := bF BK391.out 1; have hfz13_2 := bF BK391.out 2) | (go_at_call 45; (with_reducible refine (impl_GoodText.calls k a0_1 t393 _ A11.out).mono ?_); rintro e w' ⟨rfl, ⟨nd, rfl⟩⟩))
    all_goals (try (exfalso; rename_i h_; rw [c3b0] at h_; cases h_; done))
    all_goals (try (exfalso; rename_i h_; rw [c10b0] at h_; cases h_; done))
    go_ret
    exact ⟨y3, y14⟩
   ·rw [if_neg c10] at H
    have c10b0 : (a0_2.toList == ([] : List UInt8)) = false := qF c10
    have c10b1 : (a0_2.toList != ([] : List UInt8)) = true := nT c10
    obtain rfl := sI H
    go_enter Try.func66, Try.ntmps66
    go_wp2_with (first | ((with_reducible refine gate_dst (N := 1) rfl ?_); refine box_event ?hg (N := 1) ?hd (cs := #[.int .i64 a0_0, .string a0_1, .string a0_2]) (t := 61) ?hr ?_; (case hd => rfl); (case hg => rfl); (case hr => first | (go_simp; done) | (go_simp; rfl)); intro gb391 hg w14 hbox hb; have n0_ := aM (below_step z11 hb); have n1_ := aM (hbox); have n2_ := aM ((by rw [hg]; exact (below_size z11) : w.heap.size ≤ gb391)); have n3_ := aM ((by rw [hg]; exact (below_size z11) : w.heap.size ≤ gb391)); clear HB; have HB := n0_; have BK391 := n1_; have GW391 := n2_; have GE391 := n3_; clear n0_ n1_ n2_ n3_; clear hb hbox hg; have hcz15_0 : w14.cell? ⟨gb391, 0, none⟩ = some (.int .i64 a0_0) := (bC BK391.out 0).trans rfl; have hcz15_1 : w14.cell? ⟨gb391, 1, none⟩ = some (.string a0_1) := (bC BK391.out 1).trans rfl; have hcz15_2 : w14.cell? ⟨gb391, 2, none⟩ = some (.string a0_2) := (bC BK391.out 2).trans rfl; have hfz15_0 := bF BK391.out 0; have hfz15_1 := bF BK391.out 1; have hfz15_2 := bF BK391.out 2))
    all_goals (try (exfalso; rename_i h_; rw [c3b0] at h_; cases h_; done))
    all_goals (try (exfalso; rename_i h_; rw [c10b0] at h_; cases h_; done))
    go_ret
    exact ⟨y3, y14⟩
 ·rw [if_neg c2] at H
  have c2b0 : (a0_0 == 0) = false := qF c2
  have c2b1 : (a0_0 != 0) = true := nT c2
  by_cases c16 : a0_0 ≥ 1
  ·rw [if_pos c16] at H
   have c16b0 : decide (1 ≤ a0_0) = true := dT c16
   clear c16
   by_cases c17 : a0_0 ≤ 300
   ·rw [if_pos c17] at H
    have c17b0 : decide (a0_0 ≤ 300) = true := dT c17
    clear c17
    by_cases c18 : a0_1.toList = ([] : List UInt8)
    ·rw [if_pos c18] at H
     have c18b0 : (a0_1.toList == ([] : List UInt8)) = true := qT c18
     have c18b1 : (a0_1.toList != ([] : List UInt8)) = false := nF c18
     clear c18
     obtain rfl := sI H
     go_enter Try.func66, Try.ntmps66
     go_wp2_with (first | ((with_reducible refine gate_dst (N := 1) rfl ?_); refine box_event ?hg (N := 1) ?hd (cs := #[.int .i64 a0_0, .string a0_1, .string a0_2]) (t := 61) ?hr ?_; (case hd => rfl); (case hg => rfl); (case hr => first | (go_simp; done) | (go_simp; rfl)); intro gb391 hg w19 hbox hb; have n0_ := aM (below_step z11 hb); have n1_ := aM (hbox); have n2_ := aM ((by rw [hg]; exact (below_size z11) : w.heap.size ≤ gb391)); have n3_ := aM ((by rw [hg]; exact (below_size z11) : w.heap.size ≤ gb391)); clear HB; have HB := n0_; have BK391 := n1_; have GW391 := n2_; have GE391 := n3_; clear n0_ n1_ n2_ n3_; clear hb hbox hg; have hcz20_0 : w19.cell? ⟨gb391, 0, none⟩ = some (.int .i64 a0_0) := (bC BK391.out 0).trans rfl; have hcz20_1 : w19.cell? ⟨gb391, 1, none⟩ = some (.string a0_1) := (bC BK391.out 1).trans rfl; have hcz20_2 : w19.cell? ⟨gb391, 2, none⟩ = some (.string a0_2) := (bC BK391.out 2).trans rfl; have hfz20_0 := bF BK391.out 0; have hfz20_1 := bF BK391.out 1; have hfz20_2 := bF BK391.out 2))
     all_goals (try (exfalso; rename_i h_; rw [c18b0] at h_; cases h_; done))
     go_ret
     exact ⟨y3, y14⟩
    ·rw [if_neg c18] at H
     have c18b0 : (a0_1.toList == ([] : List UInt8)) = false := qF c18
     have c18b1 : (a0_1.toList != ([] : List UInt8)) = true := nT c18
     obtain rfl := sI H
     go_enter Try.func66, Try.ntmps66
     go_wp2_with (first | ((with_reducible refine gate_dst (N := 1) rfl ?_); refine box_event ?hg (N := 1) ?hd (cs := #[.int .i64 a0_0, .string a0_1, .string a0_2]) (t := 61) ?hr ?_; (case hd => rfl); (case hg => rfl); (case hr => first | (go_simp; done) | (go_simp; rfl)); intro gb391 hg w21 hbox hb; have n0_ := aM (below_step z11 hb); have n1_ := aM (hbox); have n2_ := aM ((by rw [hg]; exact (below_size z11) : w.heap.size ≤ gb391)); have n3_ := aM ((by rw [hg]; exact (below_size z11) : w.heap.size ≤ gb391)); clear HB; have HB := n0_; have BK391 := n1_; have GW391 := n2_; have GE391 := n3_; clear n0_ n1_ n2_ n3_; clear hb hbox hg; have hcz22_0 : w21.cell? ⟨gb391, 0, none⟩ = some (.int .i64 a0_0) := (bC BK391.out 0).trans rfl; have hcz22_1 : w21.cell? ⟨gb391, 1, none⟩ = some (.string a0_1) := (bC BK391.out 1).trans rfl; have hcz22_2 : w21.cell? ⟨gb391, 2, none⟩ = some (.string a0_2) := (bC BK391.out 2).trans rfl; have hfz22_0 := bF BK391.out 0; have hfz22_1 := bF BK391.out 1; have hfz22_2 := bF BK391.out 2))
     all_goals (try (exfalso; rename_i h_; rw [c18b0] at h_; cases h_; done))
     go_ret
     exact ⟨y3, y14⟩
   ·rw [if_neg c17] at H
    have c17b0 : decide (a0_0 ≤ 300) = false := dF c17
    clear c17
    obtain rfl := sI H
    go_enter Try.func66, Try.ntmps66
    go_wp2_with (first | ((with_reducible refine gate_dst (N := 1) rfl ?_); refine box_event ?hg (N := 1) ?hd (cs := #[.int .i64 a0_0, .string a0_1, .string a0_2]) (t := 61) ?hr ?_; (case hd => rfl); (case hg => rfl); (case hr => first | (go_simp; done) | (go_simp; rfl)); intro gb391 hg w23 hbox hb; have n0_ := aM (below_step z11 hb); have n1_ := aM (hbox); have n2_ := aM ((by rw [hg]; exact (below_size z11) : w.heap.size ≤ gb391)); have n3_ := aM ((by rw [hg]; exact (below_size z11) : w.heap.size ≤ gb391)); clear HB; have HB := n0_; have BK391 := n1_; have GW391 := n2_; have GE391 := n3_; clear n0_ n1_ n2_ n3_; clear hb hbox hg; have hcz24_0 : w23.cell? ⟨gb391, 0, none⟩ = some (.int .i64 a0_0) := (bC BK391.out 0).trans rfl; have hcz24_1 : w23.cell? ⟨gb391, 1, none⟩ = some (.string a0_1) := (bC BK391.out 1).trans rfl; have hcz24_2 : w23.cell? ⟨gb391, 2, none⟩ = some (.string a0_2) := (bC BK391.out 2).trans rfl; have hfz24_0 := bF BK391.out 0; have hfz24_1 := bF BK391.out 1; have hfz24_2 := bF BK391.out 2))
    go_ret
    exact ⟨y3, y14⟩
  ·rw [if_neg c16] at H
   have c16b0 : decide (1 ≤ a0_0) = false := dF c16
   clear c16
   obtain rfl := sI H
   go_enter Try.func66, Try.ntmps66
   go_wp2_with (first | ((with_reducible refine gate_dst (N := 1) rfl ?_); refine box_event ?hg (N := 1) ?hd (cs := #[.int .i64 a0_0, .string a0_1, .string a0_2]) (t := 61) ?hr ?_; (case hd => rfl); (case hg => rfl); (case hr => first | (go_simp; done) | (go_simp; rfl)); intro gb391 hg w25 hbox hb; have n0_ := aM (below_step z11 hb); have n1_ := aM (hbox); have n2_ := aM ((by rw [hg]; exact (below_size z11) : w.heap.size ≤ gb391)); have n3_ := aM ((by rw [hg]; exact (below_size z11) : w.heap.size ≤ gb391)); clear HB; have HB := n0_; have BK391 := n1_; have GW391 := n2_; have GE391 := n3_; clear n0_ n1_ n2_ n3_; clear hb hbox hg; have hcz26_0 : w25.cell? ⟨gb391, 0, none⟩ = some (.int .i64 a0_0) := (bC BK391.out 0).trans rfl; have hcz26_1 : w25.cell? ⟨gb391, 1, none⟩ = some (.string a0_1) := (bC BK391.out 1).trans rfl; have hcz26_2 : w25.cell? ⟨gb391, 2, none⟩ = some (.string a0_2) := (bC BK391.out 2).trans rfl; have hfz26_0 := bF BK391.out 0; have hfz26_1 := bF BK391.out 1; have hfz26_2 := bF BK391.out 2))
   go_ret
   exact ⟨y3, y14⟩

/-! ### impl_GoodOp_1: function 65 -/
def impl_GoodOp_1.f (k : Nat) (a0_0 : Int) (a0_1 : ByteArray) (a0_2 : ByteArray) : Option (Bool) := (impl_Part_isPart.f k a0_0 a0_1 a0_2).bind fun t395 => (some (!t395))
theorem impl_GoodOp_1.mono : ∀ a0 a1 a2 k, LeO (impl_GoodOp_1.f k a0 a1 a2) (impl_GoodOp_1.f (k + 1) a0 a1 a2) := by
 intro a0 a1 a2 k
 unfold impl_GoodOp_1.f
 repeat' first
   | (with_reducible exact impl_Part_isPart.mono _ _ _ _)
   | (with_reducible exact LeO.refl _)
   | (with_reducible exact LeO.none _)
   | (with_reducible refine LeO.ite ?_ ?_)
   | (with_reducible refine LeO.bind ?_ (fun _ => ?_))
   | exact impl_Part_isPart.mono _ _ _ _
   | exact LeO.none _
   | refine LeO.ite ?_ ?_
   | refine LeO.bind ?_ (fun _ => ?_)
set_option maxHeartbeats 8000000 in
set_option maxRecDepth 100000 in
theorem impl_GoodOp_1.calls (k : Nat) (a0_0 : Int) (a0_1 : ByteArray) (a0_2 : ByteArray) (r : Bool) (w : World) (h : impl_GoodOp_1.f k a0_0 a0_1 a0_2 = some r) :
  Calls Try.prog 65 #[.agg #[.int .i64 a0_0, .string a0_1, .string a0_2]] w fun e w' => e = .returned (.bool r) ∧ Below w.heap.size w w' := by
 have hu61 := Try.underlying61
 have HB := aM (Below.refl w.heap.size w)
 have H : ((impl_Part_isPart.f k a0_0 a0_1 a0_2).bind fun t395 => (some (!t395))) = some r := h
 clear h
 replace H := oB H
 obtain ⟨t395, A20, H⟩ := H
 try dsimp only at H
 have A2 := aM A20
 clear A20
 obtain rfl := sI H
 go_enter Try.func65, Try.ntmps65
 go_wp2_with (first | ((with_reducible refine gate_dst (N := 1) rfl ?_); refine box_event ?hg (N := 1) ?hd (cs := #[.int .i64 a0_0, .string a0_1, .string a0_2]) (t := 61) ?hr ?_; (case hd => rfl); (case hg => rfl); (case hr => first | (go_simp; done) | (go_simp; rfl)); intro gb394 hg w3 hbox hb; have n0_ := aM (below_step z11 hb); have n1_ := aM (hbox); have n2_ := aM ((by rw [hg]; exact (below_size z11) : w.heap.size ≤ gb394)); have n3_ := aM ((by rw [hg]; exact (below_size z11) : w.heap.size ≤ gb394)); clear HB; have HB := n0_; have BK394 := n1_; have GW394 := n2_; have GE394 := n3_; clear n0_ n1_ n2_ n3_; clear hb hbox hg; have hcz4_0 : w3.cell? ⟨gb394, 0, none⟩ = some (.int .i64 a0_0) := (bC BK394.out 0).trans rfl; have hcz4_1 : w3.cell? ⟨gb394, 1, none⟩ = some (.string a0_1) := (bC BK394.out 1).trans rfl; have hcz4_2 : w3.cell? ⟨gb394, 2, none⟩ = some (.string a0_2) := (bC BK394.out 2).trans rfl; have hfz4_0 := bF BK394.out 0; have hfz4_1 := bF BK394.out 1; have hfz4_2 := bF BK394.out 2) | ((with_reducible refine gate_callee (f := 66) rfl ?_); refine goesL_ (some 4) rfl rfl Try.func66 z0 rfl #[.agg #[.int .i64 a0_0, .string a0_1, .string a0_2]] rfl z12 ?_; (with_reducible refine (impl_Part_isPart.calls k a0_0 a0_1 a0_2 t395 _ A2.out).mono ?_); rintro e w5 ⟨rfl, hb⟩; refine ⟨_, rfl, ?_⟩; have n0_ := aM (blk_below (g := gb394) (o := .cells #[.int .i64 a0_0, .string a0_1, .string a0_2] 61 (0, 0)) (by (with_reducible repeat (first | refine blk_drewN ?_ _ | refine blk_drew ?_ | refine blk_alloc ?_ _)); exact BK394.out) hb); have n1_ := aM (below_step (by repeat (first | (with_reducible first | exact HB.out | apply bA | apply pD | apply bD | refine below_set ?_ GE394.out) | exact HB.out)) hb); clear BK394; clear HB; have BK394 := n0_; have HB := n1_; clear n0_ n1_; (try clear hb); (try clear hb2); (try clear hk); (try clear hi)))
 go_ret
 exact ⟨y3, by repeat (first | (with_reducible first | exact HB.out | apply bA | apply pD | apply bD | refine below_set ?_ GE394.out) | exact HB.out)⟩

end Go.Proofs.Ytmigfgcpdelnfaa.AFnExactCompileCommand
