-- this session's own text: written by wip/tools/ownprint.py over the kit's print
import Derived.Test.YtmigfgcpdelnfaaAFnExactCompileCommandx0
import Derived.Test.YtmigfgcpdelnfaaAFnExactCompileCommandx13
namespace Go.Proofs.Ytmigfgcpdelnfaa.AFnExactCompileCommand
open Go.RowKit Go.Proofs.YtmigfgcpdelnfaaW.PrintWords Go.Proofs.YtmigfgcpdelnfaaW.PrintLast Go.Proofs.YtmigfgcpdelnfaaW.PrintMore
attribute [local go_sem] max2_int min2_int max_two min_two max_three min_three max_four min_four   -- for this text's walks alone
set_option linter.unusedVariables false
set_option linter.unusedSimpArgs false

/-! ### laws_heldPartS: function 23 -/
def laws_heldPartS.l0 : Nat → List (S61) → Int → Int → Option (Int)
 | 0, _, _, _ => none
 | k + 1, x0, x1, x5 => if x5 < (x0.length : Int) then (if 0 ≤ x5 then (if ((rd_T61 x0 x5).f0) = x1 then ((laws_markText.f k (wrap64 (x1 + 1))).bind fun t428 => (if ((rd_T61 x0 x5).f1).toList = t428.toList then ((laws_markText.f k (wrap64 ((wrap64 (x1 + 1)) + 1))).bind fun t430 => (if ((rd_T61 x0 x5).f2).toList = t430.toList then (laws_heldPartS.l0 k x0 (wrap64 ((wrap64 ((wrap64 (x1 + 1)) + 1)) + 1)) (wrap64 (x5 + 1))) else (some (-1)))) else (some (-1)))) else (some (-1))) else (none)) else (some x1)
def laws_heldPartS.f (k : Nat) (l0 : List (S61)) (a1 : Int) : Option (Int) := laws_heldPartS.l0 k l0 a1 0
theorem laws_heldPartS.mono_l : ∀ k, (∀ y0 y1 y2, LeO (laws_heldPartS.l0 k y0 y1 y2) (laws_heldPartS.l0 (k + 1) y0 y1 y2))
 | 0 => fun _ _ _ r h => by simp [laws_heldPartS.l0] at h
 | k + 1 => by
  have ih0 := laws_heldPartS.mono_l k
  ·intro y0 y1 y2
   unfold laws_heldPartS.l0
   repeat' first
   | (with_reducible exact ih0 _ _ _)
   | (with_reducible exact laws_markText.mono _ _)
   | (with_reducible exact LeO.refl _)
   | (with_reducible exact LeO.none _)
   | (with_reducible refine LeO.ite ?_ ?_)
   | (with_reducible refine LeO.bind ?_ (fun _ => ?_))
   | exact ih0 _ _ _
   | exact laws_markText.mono _ _
   | exact LeO.none _
   | refine LeO.ite ?_ ?_
   | refine LeO.bind ?_ (fun _ => ?_)
theorem laws_heldPartS.mono : ∀ a0 a1 k, LeO (laws_heldPartS.f k a0 a1) (laws_heldPartS.f (k + 1) a0 a1) := by
 intro a0 a1 k
 have ih0 := laws_heldPartS.mono_l k
 unfold laws_heldPartS.f
 repeat' first
   | (with_reducible exact ih0 _ _ _)
   | (with_reducible exact laws_markText.mono _ _)
   | (with_reducible exact LeO.refl _)
   | (with_reducible exact LeO.none _)
   | (with_reducible refine LeO.ite ?_ ?_)
   | (with_reducible refine LeO.bind ?_ (fun _ => ?_))
   | exact ih0 _ _ _
   | exact laws_markText.mono _ _
   | exact LeO.none _
   | refine LeO.ite ?_ ?_
   | refine LeO.bind ?_ (fun _ => ?_)
def laws_heldPartS.T7 : Bool × List (List Nat × List Nat) := (true, [([], []), ([], []), ([0, 1], [0, 1]), ([2], [2]), ([3], [3]), ([], []), ([5], [5]), ([4, 6], [4, 6])])
def laws_heldPartS.B7 : List Nat := [0, 0, 3, 7, 15, 0, 32, 127]
theorem laws_heldPartS.tab7 : rtab .any (opsOf Try.f23 7) = laws_heldPartS.T7 := by kernel_rfl
theorem laws_heldPartS.bits7 : waitsOk laws_heldPartS.T7.2 laws_heldPartS.B7 = true := by kernel_rfl
def laws_heldPartS.T10 : Bool × List (List Nat × List Nat) := (true, [([], []), ([], []), ([0, 1], [0, 1]), ([2], [2]), ([3], [3]), ([], []), ([5], [5]), ([4, 6], [4, 6])])
def laws_heldPartS.B10 : List Nat := [0, 0, 3, 7, 15, 0, 32, 127]
theorem laws_heldPartS.tab10 : rtab .any (opsOf Try.f23 10) = laws_heldPartS.T10 := by kernel_rfl
theorem laws_heldPartS.bits10 : waitsOk laws_heldPartS.T10.2 laws_heldPartS.B10 = true := by kernel_rfl
set_option maxHeartbeats 8000000 in
set_option maxRecDepth 100000 in
theorem laws_heldPartS.calls (k : Nat) (A0 : Option Addr) (c0 : Nat) (l0 : List (S61)) (a1 : Int) (r : Int) (w : World) (hr0 : Kd.C k61 w A0 l0.length l0) (hc0 : l0.length ≤ c0) (h : laws_heldPartS.f k l0 a1 = some r) :
  Calls Try.prog 23 #[.slice A0 l0.length c0, .int .i64 a1] w fun e w' => e = .returned (.int .i64 r) ∧ Below w.heap.size w w' := by
 have HR0 := aM hr0
 have HC0 := aM hc0
 clear hr0 hc0
 have HB := aM (Below.refl w.heap.size w)
 have H : (laws_heldPartS.l0 k l0 a1 0) = some r := h
 clear h
 have H' := aM H
 clear H
 go_enter Try.func23, Try.ntmps23
 go_wp2
 go_loopg [1, 5] k (fun kq v1 v5 w' => ∃ (x1_1 : Int) (x5_1 : Int), v1 = .int .i64 x1_1 ∧ v5 = .int .i64 x5_1 ∧ Aside0 (laws_heldPartS.l0 kq l0 x1_1 x5_1 = some r) ∧ Aside0 (kq ≤ k) ∧ Aside0 (Below w.heap.size w w'))
 case atStart => exact ⟨(a1), (0), z1, z1, H', ⟨Nat.le_refl _⟩, ⟨y4⟩⟩
 case round =>
  clear H'
  try clear c2
  try clear p2
  obtain ⟨x1_1, x5_1, rfl, rfl, HA, HK1, HB⟩ := hrel
  cases gk with
  | zero => exact absurd HA.out (by simp [laws_heldPartS.l0])
  | succ k1 =>
   have H := HA.out
   clear HA
   simp only [laws_heldPartS.l0] at H
   by_cases c3 : x5_1 < (l0.length : Int)
   ·rw [if_pos c3] at H
    have c3b0 : decide (x5_1 < (l0.length : Int)) = true := dT c3
    clear c3
    by_cases c4 : 0 ≤ x5_1
    ·rw [if_pos c4] at H
     have c4b0 : decide (0 ≤ x5_1) = true := dT c4
     clear c4
     by_cases c5 : ((rd_T61 l0 x5_1).f0) = x1_1
     ·rw [if_pos c5] at H
      have c5b0 : (((rd_T61 l0 x5_1).f0) == x1_1) = true := qT c5
      have c5b1 : (((rd_T61 l0 x5_1).f0) != x1_1) = false := nF c5
      clear c5
      replace H := oB H
      obtain ⟨t428, A60, H⟩ := H
      try dsimp only at H
      have A6 := aM A60
      clear A60
      by_cases c7 : ((rd_T61 l0 x5_1).f1).toList = t428.toList
      ·rw [if_pos c7] at H
       have c7b0 : (((rd_T61 l0 x5_1).f1).toList == t428.toList) = true := qT c7
       have c7b1 : (((rd_T61 l0 x5_1).f1).toList != t428.toList) = false := nF c7
       clear c7
       replace H := oB H
       obtain ⟨t430, A80, H⟩ := H
       try dsimp only at H
       have A8 := aM A80
       clear A80
       by_cases c9 : ((rd_T61 l0 x5_1).f2).toList = t430.toList
       ·rw [if_pos c9] at H
        have c9b0 : (((rd_T61 l0 x5_1).f2).toList == t430.toList) = true := qT c9
        have c9b1 : (((rd_T61 l0 x5_1).f2).toList != t430.toList) = false := nF c9
        clear c9
        have H' := aM H
        clear H
        have p426 : 0 ≤ (x5_1 : Int) := oD z2
        have q426 : x5_1 < (l0.length : Int) := oD z2
        obtain ⟨ad426, e426, hx426_0, hx426_1, hx426_2⟩ := at_T61 HR0.out x5_1 p426 q426
        cases e426
        replace hx426_0 := (HB.out.cell (World.block_lt_of_cell? w _ hx426_0)).trans hx426_0
        replace hx426_1 := (HB.out.cell (World.block_lt_of_cell? w _ hx426_1)).trans hx426_1
        replace hx426_2 := (HB.out.cell (World.block_lt_of_cell? w _ hx426_2)).trans hx426_2
        replace p426 := eq_true p426
        replace q426 := eq_true q426
        try go_wp2
        have n0_ := aM (bD HB.out)
        clear HB
        have HB := n0_
        clear n0_
        have p427 : 0 ≤ (x5_1 : Int) := oD z2
        have q427 : x5_1 < (l0.length : Int) := oD z2
        obtain ⟨ad427, e427, hx427_0, hx427_1, hx427_2⟩ := at_T61 HR0.out x5_1 p427 q427
        have hw427_2 := hx427_2
        have hw427_1 := hx427_1
        have hw427_0 := hx427_0
        obtain rfl : ad426 = ad427 := (by injection e427)
        replace hx427_0 := (HB.out.cell (World.block_lt_of_cell? w _ hx427_0)).trans hx427_0
        replace hx427_1 := (HB.out.cell (World.block_lt_of_cell? w _ hx427_1)).trans hx427_1
        replace hx427_2 := (HB.out.cell (World.block_lt_of_cell? w _ hx427_2)).trans hx427_2
        replace p427 := eq_true p427
        replace q427 := eq_true q427
        refine start_ (n := 8) (S := fun w' => w'.cell? (ad426.add ((x5_1).toNat * 3)) = some (.int .i64 ((rd_T61 l0 x5_1).f0)) ∧ w'.cell? ⟨(ad426.add ((x5_1).toNat * 3)).block, (ad426.add ((x5_1).toNat * 3)).off + 1, none⟩ = some (.string ((rd_T61 l0 x5_1).f1)) ∧ w'.cell? ⟨(ad426.add ((x5_1).toNat * 3)).block, (ad426.add ((x5_1).toNat * 3)).off + 2, none⟩ = some (.string ((rd_T61 l0 x5_1).f2))) (ds := []) #[false, false, false, false, false, false, false, false] z0 rfl rfl ⟨((HB.out.cell (World.block_lt_of_cell? w _ hw427_0)).trans hw427_0), ((HB.out.cell (World.block_lt_of_cell? w _ hw427_1)).trans hw427_1), ((HB.out.cell (World.block_lt_of_cell? w _ hw427_2)).trans hw427_2)⟩ (fun hHeld => ?_); refine with_tabW laws_heldPartS.tab7 laws_heldPartS.bits7 (fun HT_ HW_ => ?_)
        generalize wr.drew = w10 at HB hx427_0 hx427_1 hx427_2 hHeld ⊢
        refine pA 0 21 ?_
        refine pA 1 22 ?_
        refine pA 2 23 ?_
        refine pA 3 24 ?_
        refine pA 5 26 ?_
        refine tA 4 25 ?_ (hy := by rintro w' ⟨s0, s1, s2⟩; go_simp; with_reducible rfl)
        refine one_ (i := 6) (N := some 27) #[true, true, true, true, true, true, true, false] rfl rfl (one_of HT_.out z0) (by decide) (fun K hK => ?_)
        refine goes_ Try.func41 z0 rfl #[.int .i64 (wrap64 (x1_1 + 1))] (by rfl) rfl rfl z12 ?_
        with_reducible refine (laws_markText.calls k1 (wrap64 (x1_1 + 1)) t428 _ A6.out).mono ?_
        rintro e w11 ⟨rfl, hb⟩
        refine ⟨_, rfl, ?_⟩
        have n0_ := aM (below_step z11 hb)
        clear HB
        have HB := n0_
        clear n0_
        (try clear hb)
        (try clear hb2)
        (try clear hk)
        (try clear hi)
        refine hK.out _ _ ⟨((HB.out.cell (World.block_lt_of_cell? w _ hw427_0)).trans hw427_0), ((HB.out.cell (World.block_lt_of_cell? w _ hw427_1)).trans hw427_1), ((HB.out.cell (World.block_lt_of_cell? w _ hw427_2)).trans hw427_2)⟩ (fun hHeld => ?_)
        clear hK K
        refine norm_ (a' := ?_) ?_ ?_
        rotate_left
        ·show Act.put _ (some 27) _ = _
         simp only [Act.put, sA, sB, sC, i64_w, i32_w]
         rfl
        refine pA 7 28 ?_
        refine done_ (done_of HT_.out z0) ?_
        try go_wp2
        have n0_ := aM (bD HB.out)
        clear HB
        have HB := n0_
        clear n0_
        have p429 : 0 ≤ (x5_1 : Int) := oD z2
        have q429 : x5_1 < (l0.length : Int) := oD z2
        obtain ⟨ad429, e429, hx429_0, hx429_1, hx429_2⟩ := at_T61 HR0.out x5_1 p429 q429
        have hw429_2 := hx429_2
        have hw429_1 := hx429_1
        have hw429_0 := hx429_0
        obtain rfl : ad426 = ad429 := (by injection e429)
        replace hx429_0 := (HB.out.cell (World.block_lt_of_cell? w _ hx429_0)).trans hx429_0
        replace hx429_1 := (HB.out.cell (World.block_lt_of_cell? w _ hx429_1)).trans hx429_1
        replace hx429_2 := (HB.out.cell (World.block_lt_of_cell? w _ hx429_2)).trans hx429_2
        replace p429 := eq_true p429
        replace q429 := eq_true q429
        refine start_ (n := 8) (S := fun w' => w'.cell? (ad426.add ((x5_1).toNat * 3)) = some (.int .i64 ((rd_T61 l0 x5_1).f0)) ∧ w'.cell? ⟨(ad426.add ((x5_1).toNat * 3)).block, (ad426.add ((x5_1).toNat * 3)).off + 1, none⟩ = some (.string ((rd_T61 l0 x5_1).f1)) ∧ w'.cell? ⟨(ad426.add ((x5_1).toNat * 3)).block, (ad426.add ((x5_1).toNat * 3)).off + 2, none⟩ = some (.string ((rd_T61 l0 x5_1).f2))) (ds := []) #[false, false, false, false, false, false, false, false] z0 rfl rfl ⟨((HB.out.cell (World.block_lt_of_cell? w _ hw429_0)).trans hw429_0), ((HB.out.cell (World.block_lt_of_cell? w _ hw429_1)).trans hw429_1), ((HB.out.cell (World.block_lt_of_cell? w _ hw429_2)).trans hw429_2)⟩ (fun hHeld => ?_); refine with_tabW laws_heldPartS.tab10 laws_heldPartS.bits10 (fun HT_ HW_ => ?_)
        generalize w11.drew = w12 at HB hx429_0 hx429_1 hx429_2 hHeld ⊢
        refine pA 0 31 ?_
        refine pA 1 32 ?_
        refine pA 2 33 ?_
        refine pA 3 34 ?_
        refine pA 5 36 ?_
        refine tA 4 35 ?_ (hy := by rintro w' ⟨s0, s1, s2⟩; go_simp; with_reducible rfl)
        refine one_ (i := 6) (N := some 37) #[true, true, true, true, true, true, true, false] rfl rfl (one_of HT_.out z0) (by decide) (fun K hK => ?_)
        refine goes_ Try.func41 z0 rfl #[.int .i64 (wrap64 ((wrap64 (x1_1 + 1)) + 1))] (by rfl) rfl rfl z12 ?_
        with_reducible refine (laws_markText.calls k1 (wrap64 ((wrap64 (x1_1 + 1)) + 1)) t430 _ A8.out).mono ?_
        rintro e w13 ⟨rfl, hb⟩
        refine ⟨_, rfl, ?_⟩
        have n0_ := aM (below_step z11 hb)
        clear HB
        have HB := n0_
        clear n0_
        (try clear hb)
        (try clear hb2)
        (try clear hk)
        (try clear hi)
        refine hK.out _ _ ⟨((HB.out.cell (World.block_lt_of_cell? w _ hw429_0)).trans hw429_0), ((HB.out.cell (World.block_lt_of_cell? w _ hw429_1)).trans hw429_1), ((HB.out.cell (World.block_lt_of_cell? w _ hw429_2)).trans hw429_2)⟩ (fun hHeld => ?_)
        clear hK K
        refine norm_ (a' := ?_) ?_ ?_
        rotate_left
        ·show Act.put _ (some 37) _ = _
         simp only [Act.put, sA, sB, sC, i64_w, i32_w]
         rfl
        refine pA 7 38 ?_
        refine done_ (done_of HT_.out z0) ?_
        try go_wp2
        go_roundg k1
        case measure => have := HK1.out; omega
        case rel => exact ⟨(wrap64 ((wrap64 ((wrap64 (x1_1 + 1)) + 1)) + 1)), (wrap64 (x5_1 + 1)), z1, z1, H', ⟨by have := HK1.out; omega⟩, ⟨y4⟩⟩
       ·rw [if_neg c9] at H
        have c9b0 : (((rd_T61 l0 x5_1).f2).toList == t430.toList) = false := qF c9
        have c9b1 : (((rd_T61 l0 x5_1).f2).toList != t430.toList) = true := nT c9
        obtain rfl := sI H
        have p426 : 0 ≤ (x5_1 : Int) := oD z2
        have q426 : x5_1 < (l0.length : Int) := oD z2
        obtain ⟨ad426, e426, hx426_0, hx426_1, hx426_2⟩ := at_T61 HR0.out x5_1 p426 q426
        cases e426
        replace hx426_0 := (HB.out.cell (World.block_lt_of_cell? w _ hx426_0)).trans hx426_0
        replace hx426_1 := (HB.out.cell (World.block_lt_of_cell? w _ hx426_1)).trans hx426_1
        replace hx426_2 := (HB.out.cell (World.block_lt_of_cell? w _ hx426_2)).trans hx426_2
        replace p426 := eq_true p426
        replace q426 := eq_true q426
        try go_wp2
        have n0_ := aM (bD HB.out)
        clear HB
        have HB := n0_
        clear n0_
        have p427 : 0 ≤ (x5_1 : Int) := oD z2
        have q427 : x5_1 < (l0.length : Int) := oD z2
        obtain ⟨ad427, e427, hx427_0, hx427_1, hx427_2⟩ := at_T61 HR0.out x5_1 p427 q427
        have hw427_2 := hx427_2
        have hw427_1 := hx427_1
        have hw427_0 := hx427_0
        obtain rfl : ad426 = ad427 := (by injection e427)
        replace hx427_0 := (HB.out.cell (World.block_lt_of_cell? w _ hx427_0)).trans hx427_0
        replace hx427_1 := (HB.out.cell (World.block_lt_of_cell? w _ hx427_1)).trans hx427_1
        replace hx427_2 := (HB.out.cell (World.block_lt_of_cell? w _ hx427_2)).trans hx427_2
        replace p427 := eq_true p427
        replace q427 := eq_true q427
        refine start_ (n := 8) (S := fun w' => w'.cell? (ad426.add ((x5_1).toNat * 3)) = some (.int .i64 ((rd_T61 l0 x5_1).f0)) ∧ w'.cell? ⟨(ad426.add ((x5_1).toNat * 3)).block, (ad426.add ((x5_1).toNat * 3)).off + 1, none⟩ = some (.string ((rd_T61 l0 x5_1).f1)) ∧ w'.cell? ⟨(ad426.add ((x5_1).toNat * 3)).block, (ad426.add ((x5_1).toNat * 3)).off + 2, none⟩ = some (.string ((rd_T61 l0 x5_1).f2))) (ds := []) #[false, false, false, false, false, false, false, false] z0 rfl rfl ⟨((HB.out.cell (World.block_lt_of_cell? w _ hw427_0)).trans hw427_0), ((HB.out.cell (World.block_lt_of_cell? w _ hw427_1)).trans hw427_1), ((HB.out.cell (World.block_lt_of_cell? w _ hw427_2)).trans hw427_2)⟩ (fun hHeld => ?_); refine with_tabW laws_heldPartS.tab7 laws_heldPartS.bits7 (fun HT_ HW_ => ?_)
        generalize wr.drew = w14 at HB hx427_0 hx427_1 hx427_2 hHeld ⊢
        refine pA 0 21 ?_
        refine pA 1 22 ?_
        refine pA 2 23 ?_
        refine pA 3 24 ?_
        refine pA 5 26 ?_
        refine tA 4 25 ?_ (hy := by rintro w' ⟨s0, s1, s2⟩; go_simp; with_reducible rfl)
        refine one_ (i := 6) (N := some 27) #[true, true, true, true, true, true, true, false] rfl rfl (one_of HT_.out z0) (by decide) (fun K hK => ?_)
        refine goes_ Try.func41 z0 rfl #[.int .i64 (wrap64 (x1_1 + 1))] (by rfl) rfl rfl z12 ?_
        with_reducible refine (laws_markText.calls k1 (wrap64 (x1_1 + 1)) t428 _ A6.out).mono ?_
        rintro e w15 ⟨rfl, hb⟩
        refine ⟨_, rfl, ?_⟩
        have n0_ := aM (below_step z11 hb)
        clear HB
        have HB := n0_
        clear n0_
        (try clear hb)
        (try clear hb2)
        (try clear hk)
        (try clear hi)
        refine hK.out _ _ ⟨((HB.out.cell (World.block_lt_of_cell? w _ hw427_0)).trans hw427_0), ((HB.out.cell (World.block_lt_of_cell? w _ hw427_1)).trans hw427_1), ((HB.out.cell (World.block_lt_of_cell? w _ hw427_2)).trans hw427_2)⟩ (fun hHeld => ?_)
        clear hK K
        refine norm_ (a' := ?_) ?_ ?_
        rotate_left
        ·show Act.put _ (some 27) _ = _
         simp only [Act.put, sA, sB, sC, i64_w, i32_w]
         rfl
        refine pA 7 28 ?_
        refine done_ (done_of HT_.out z0) ?_
        try go_wp2
        have n0_ := aM (bD HB.out)
        clear HB
        have HB := n0_
        clear n0_
        have p429 : 0 ≤ (x5_1 : Int) := oD z2
        have q429 : x5_1 < (l0.length : Int) := oD z2
        obtain ⟨ad429, e429, hx429_0, hx429_1, hx429_2⟩ := at_T61 HR0.out x5_1 p429 q429
        have hw429_2 := hx429_2
        have hw429_1 := hx429_1
        have hw429_0 := hx429_0
        obtain rfl : ad426 = ad429 := (by injection e429)
        replace hx429_0 := (HB.out.cell (World.block_lt_of_cell? w _ hx429_0)).trans hx429_0
        replace hx429_1 := (HB.out.cell (World.block_lt_of_cell? w _ hx429_1)).trans hx429_1
        replace hx429_2 := (HB.out.cell (World.block_lt_of_cell? w _ hx429_2)).trans hx429_2
        replace p429 := eq_true p429
        replace q429 := eq_true q429
        refine start_ (n := 8) (S := fun w' => w'.cell? (ad426.add ((x5_1).toNat * 3)) = some (.int .i64 ((rd_T61 l0 x5_1).f0)) ∧ w'.cell? ⟨(ad426.add ((x5_1).toNat * 3)).block, (ad426.add ((x5_1).toNat * 3)).off + 1, none⟩ = some (.string ((rd_T61 l0 x5_1).f1)) ∧ w'.cell? ⟨(ad426.add ((x5_1).toNat * 3)).block, (ad426.add ((x5_1).toNat * 3)).off + 2, none⟩ = some (.string ((rd_T61 l0 x5_1).f2))) (ds := []) #[false, false, false, false, false, false, false, false] z0 rfl rfl ⟨((HB.out.cell (World.block_lt_of_cell? w _ hw429_0)).trans hw429_0), ((HB.out.cell (World.block_lt_of_cell? w _ hw429_1)).trans hw429_1), ((HB.out.cell (World.block_lt_of_cell? w _ hw429_2)).trans hw429_2)⟩ (fun hHeld => ?_); refine with_tabW laws_heldPartS.tab10 laws_heldPartS.bits10 (fun HT_ HW_ => ?_)
        generalize w15.drew = w16 at HB hx429_0 hx429_1 hx429_2 hHeld ⊢
        refine pA 0 31 ?_
        refine pA 1 32 ?_
        refine pA 2 33 ?_
        refine pA 3 34 ?_
        refine pA 5 36 ?_
        refine tA 4 35 ?_ (hy := by rintro w' ⟨s0, s1, s2⟩; go_simp; with_reducible rfl)
        refine one_ (i := 6) (N := some 37) #[true, true, true, true, true, true, true, false] rfl rfl (one_of HT_.out z0) (by decide) (fun K hK => ?_)
        refine goes_ Try.func41 z0 rfl #[.int .i64 (wrap64 ((wrap64 (x1_1 + 1)) + 1))] (by rfl) rfl rfl z12 ?_
        with_reducible refine (laws_markText.calls k1 (wrap64 ((wrap64 (x1_1 + 1)) + 1)) t430 _ A8.out).mono ?_
        rintro e w17 ⟨rfl, hb⟩
        refine ⟨_, rfl, ?_⟩
        have n0_ := aM (below_step z11 hb)
        clear HB
        have HB := n0_
        clear n0_
        (try clear hb)
        (try clear hb2)
        (try clear hk)
        (try clear hi)
        refine hK.out _ _ ⟨((HB.out.cell (World.block_lt_of_cell? w _ hw429_0)).trans hw429_0), ((HB.out.cell (World.block_lt_of_cell? w _ hw429_1)).trans hw429_1), ((HB.out.cell (World.block_lt_of_cell? w _ hw429_2)).trans hw429_2)⟩ (fun hHeld => ?_)
        clear hK K
        refine norm_ (a' := ?_) ?_ ?_
        rotate_left
        ·show Act.put _ (some 37) _ = _
         simp only [Act.put, sA, sB, sC, i64_w, i32_w]
         rfl
        refine pA 7 38 ?_
        refine done_ (done_of HT_.out z0) ?_
        try go_wp2
        go_ret
        exact ⟨y3, y4⟩
      ·rw [if_neg c7] at H
       have c7b0 : (((rd_T61 l0 x5_1).f1).toList == t428.toList) = false := qF c7
       have c7b1 : (((rd_T61 l0 x5_1).f1).toList != t428.toList) = true := nT c7
       obtain rfl := sI H
       have p426 : 0 ≤ (x5_1 : Int) := oD z2
       have q426 : x5_1 < (l0.length : Int) := oD z2
       obtain ⟨ad426, e426, hx426_0, hx426_1, hx426_2⟩ := at_T61 HR0.out x5_1 p426 q426
       cases e426
       replace hx426_0 := (HB.out.cell (World.block_lt_of_cell? w _ hx426_0)).trans hx426_0
       replace hx426_1 := (HB.out.cell (World.block_lt_of_cell? w _ hx426_1)).trans hx426_1
       replace hx426_2 := (HB.out.cell (World.block_lt_of_cell? w _ hx426_2)).trans hx426_2
       replace p426 := eq_true p426
       replace q426 := eq_true q426
       try go_wp2
       have n0_ := aM (bD HB.out)
       clear HB
       have HB := n0_
       clear n0_
       have p427 : 0 ≤ (x5_1 : Int) := oD z2
       have q427 : x5_1 < (l0.length : Int) := oD z2
       obtain ⟨ad427, e427, hx427_0, hx427_1, hx427_2⟩ := at_T61 HR0.out x5_1 p427 q427
       have hw427_2 := hx427_2
       have hw427_1 := hx427_1
       have hw427_0 := hx427_0
       obtain rfl : ad426 = ad427 := (by injection e427)
       replace hx427_0 := (HB.out.cell (World.block_lt_of_cell? w _ hx427_0)).trans hx427_0
       replace hx427_1 := (HB.out.cell (World.block_lt_of_cell? w _ hx427_1)).trans hx427_1
       replace hx427_2 := (HB.out.cell (World.block_lt_of_cell? w _ hx427_2)).trans hx427_2
       replace p427 := eq_true p427
       replace q427 := eq_true q427
       refine start_ (n := 8) (S := fun w' => w'.cell? (ad426.add ((x5_1).toNat * 3)) = some (.int .i64 ((rd_T61 l0 x5_1).f0)) ∧ w'.cell? ⟨(ad426.add ((x5_1).toNat * 3)).block, (ad426.add ((x5_1).toNat * 3)).off + 1, none⟩ = some (.string ((rd_T61 l0 x5_1).f1)) ∧ w'.cell? ⟨(ad426.add ((x5_1).toNat * 3)).block, (ad426.add ((x5_1).toNat * 3)).off + 2, none⟩ = some (.string ((rd_T61 l0 x5_1).f2))) (ds := []) #[false, false, false, false, false, false, false, false] z0 rfl rfl ⟨((HB.out.cell (World.block_lt_of_cell? w _ hw427_0)).trans hw427_0), ((HB.out.cell (World.block_lt_of_cell? w _ hw427_1)).trans hw427_1), ((HB.out.cell (World.block_lt_of_cell? w _ hw427_2)).trans hw427_2)⟩ (fun hHeld => ?_); refine with_tabW laws_heldPartS.tab7 laws_heldPartS.bits7 (fun HT_ HW_ => ?_)
       generalize wr.drew = w18 at HB hx427_0 hx427_1 hx427_2 hHeld ⊢
       refine pA 0 21 ?_
       refine pA 1 22 ?_
       refine pA 2 23 ?_
       refine pA 3 24 ?_
       refine pA 5 26 ?_
       refine tA 4 25 ?_ (hy := by rintro w' ⟨s0, s1, s2⟩; go_simp; with_reducible rfl)
       refine one_ (i := 6) (N := some 27) #[true, true, true, true, true, true, true, false] rfl rfl (one_of HT_.out z0) (by decide) (fun K hK => ?_)
       refine goes_ Try.func41 z0 rfl #[.int .i64 (wrap64 (x1_1 + 1))] (by rfl) rfl rfl z12 ?_
       with_reducible refine (laws_markText.calls k1 (wrap64 (x1_1 + 1)) t428 _ A6.out).mono ?_
       rintro e w19 ⟨rfl, hb⟩
       refine ⟨_, rfl, ?_⟩
       have n0_ := aM (below_step z11 hb)
       clear HB
       have HB := n0_
       clear n0_
       (try clear hb)
       (try clear hb2)
       (try clear hk)
       (try clear hi)
       refine hK.out _ _ ⟨((HB.out.cell (World.block_lt_of_cell? w _ hw427_0)).trans hw427_0), ((HB.out.cell (World.block_lt_of_cell? w _ hw427_1)).trans hw427_1), ((HB.out.cell (World.block_lt_of_cell? w _ hw427_2)).trans hw427_2)⟩ (fun hHeld => ?_)
       clear hK K
       refine norm_ (a' := ?_) ?_ ?_
       rotate_left
       ·show Act.put _ (some 27) _ = _
        simp only [Act.put, sA, sB, sC, i64_w, i32_w]
        rfl
       refine pA 7 28 ?_
       refine done_ (done_of HT_.out z0) ?_
       try go_wp2
       go_ret
       exact ⟨y3, y4⟩
     ·rw [if_neg c5] at H
      have c5b0 : (((rd_T61 l0 x5_1).f0) == x1_1) = false := qF c5
      have c5b1 : (((rd_T61 l0 x5_1).f0) != x1_1) = true := nT c5
      obtain rfl := sI H
      have p426 : 0 ≤ (x5_1 : Int) := oD z2
      have q426 : x5_1 < (l0.length : Int) := oD z2
      obtain ⟨ad426, e426, hx426_0, hx426_1, hx426_2⟩ := at_T61 HR0.out x5_1 p426 q426
      cases e426
      replace hx426_0 := (HB.out.cell (World.block_lt_of_cell? w _ hx426_0)).trans hx426_0
      replace hx426_1 := (HB.out.cell (World.block_lt_of_cell? w _ hx426_1)).trans hx426_1
      replace hx426_2 := (HB.out.cell (World.block_lt_of_cell? w _ hx426_2)).trans hx426_2
      replace p426 := eq_true p426
      replace q426 := eq_true q426
      go_wp2
      go_ret
      exact ⟨y3, y4⟩
    ·rw [if_neg c4] at H
     exact absurd H (by simp)
   ·rw [if_neg c3] at H
    have c3b0 : decide (x5_1 < (l0.length : Int)) = false := dF c3
    clear c3
    obtain rfl := sI H
    go_wp2
    go_ret
    exact ⟨y3, y4⟩

end Go.Proofs.Ytmigfgcpdelnfaa.AFnExactCompileCommand
