-- this session's own text: written by wip/tools/ownprint.py over the kit's print
import Derived.Test.YtblnnbaeiggmoaaAFnExactEditRopex0
import Derived.Test.YtblnnbaeiggmoaaAFnExactEditRopex12
namespace Go.Proofs.Ytblnnbaeiggmoaa.AFnExactEditRope
open Go.RowKit Go.Proofs.YtblnnbaeiggmoaaW.PrintWords Go.Proofs.YtblnnbaeiggmoaaW.PrintLast Go.Proofs.YtblnnbaeiggmoaaW.PrintMore
attribute [local go_sem] max2_int min2_int max_two min_two max_three min_three max_four min_four   -- for this text's walks alone
set_option linter.unusedVariables false
set_option linter.unusedSimpArgs false

/-! ### laws_heldBoughS: function 47 -/
def laws_heldBoughS.l0 : Nat → List (S101) → Int → Int → Option (Int)
 | 0, _, _, _ => none
 | k + 1, x0, x1, x5 => if x5 < (x0.length : Int) then (if 0 ≤ x5 then (if ((rd_T101 x0 x5).f0) = x1 then (if ((rd_T101 x0 x5).f1) = (wrap64 (x1 + 1)) then ((laws_markText.f k (wrap64 ((wrap64 (x1 + 1)) + 1))).bind fun gu => (if ((rd_T101 x0 x5).f2).toList = gu.toList then (if ((rd_T101 x0 x5).f3) = (wrap64 ((wrap64 ((wrap64 (x1 + 1)) + 1)) + 1)) then (if ((rd_T101 x0 x5).f4) = (wrap64 ((wrap64 ((wrap64 ((wrap64 (x1 + 1)) + 1)) + 1)) + 1)) then (laws_heldBoughS.l0 k x0 (wrap64 ((wrap64 ((wrap64 ((wrap64 ((wrap64 (x1 + 1)) + 1)) + 1)) + 1)) + 1)) (wrap64 (x5 + 1))) else (some (-1))) else (some (-1))) else (some (-1)))) else (some (-1))) else (some (-1))) else (none)) else (some x1)
def laws_heldBoughS.f (k : Nat) (l0 : List (S101)) (a1 : Int) : Option (Int) := laws_heldBoughS.l0 k l0 a1 0
theorem laws_heldBoughS.mono_l : ∀ k, (∀ y0 y1 y2, LeO (laws_heldBoughS.l0 k y0 y1 y2) (laws_heldBoughS.l0 (k + 1) y0 y1 y2))
 | 0 => fun _ _ _ r h => by simp [laws_heldBoughS.l0] at h
 | k + 1 => by
  have ih0 := laws_heldBoughS.mono_l k
  ·intro y0 y1 y2
   unfold laws_heldBoughS.l0
   repeat' first
   | (with_reducible exact ih0 _ _ _)
   | (with_reducible exact laws_markText.mono _ _)
   | (with_reducible exact LeO.refl _)
   | (with_reducible exact LeO.none _)
   | (with_reducible refine LeO.ite ?_ ?_)
   | (with_reducible refine LeO.bind ?_ (fun _ => ?_))
   | exact ih0 _ _ _
   | exact laws_markText.mono _ _
   | exact LeO.none _
   | refine LeO.ite ?_ ?_
   | refine LeO.bind ?_ (fun _ => ?_)
theorem laws_heldBoughS.mono : ∀ a0 a1 k, LeO (laws_heldBoughS.f k a0 a1) (laws_heldBoughS.f (k + 1) a0 a1) := by
 intro a0 a1 k
 have ih0 := laws_heldBoughS.mono_l k
 unfold laws_heldBoughS.f
 repeat' first
   | (with_reducible exact ih0 _ _ _)
   | (with_reducible exact laws_markText.mono _ _)
   | (with_reducible exact LeO.refl _)
   | (with_reducible exact LeO.none _)
   | (with_reducible refine LeO.ite ?_ ?_)
   | (with_reducible refine LeO.bind ?_ (fun _ => ?_))
   | exact ih0 _ _ _
   | exact laws_markText.mono _ _
   | exact LeO.none _
   | refine LeO.ite ?_ ?_
   | refine LeO.bind ?_ (fun _ => ?_)
def laws_heldBoughS.T10 : Bool × List (List Nat × List Nat) := (true, [([], []), ([], []), ([0, 1], [0, 1]), ([2], [2]), ([3], [3]), ([], []), ([5], [5]), ([4, 6], [4, 6])])
def laws_heldBoughS.B10 : List Nat := [0, 0, 3, 7, 15, 0, 32, 127]
theorem laws_heldBoughS.tab10 : rtab .any (opsOf Try.f47 10) = laws_heldBoughS.T10 := by kernel_rfl
theorem laws_heldBoughS.bits10 : waitsOk laws_heldBoughS.T10.2 laws_heldBoughS.B10 = true := by kernel_rfl
set_option maxHeartbeats 8000000 in
set_option maxRecDepth 100000 in
theorem laws_heldBoughS.calls (k : Nat) (A0 : Option Addr) (c0 : Nat) (l0 : List (S101)) (a1 : Int) (r : Int) (w : World) (hr0 : Kd.C k101 w A0 l0.length l0) (hc0 : l0.length ≤ c0) (h : laws_heldBoughS.f k l0 a1 = some r) :
  Calls Try.prog 47 #[.slice A0 l0.length c0, .int .i64 a1] w fun e w' => e = .returned (.int .i64 r) ∧ Below w.heap.size w w' := by
 have bY := aM hr0
 have cQ := aM hc0
 clear hr0 hc0
 have HB := aM (Below.refl w.heap.size w)
 have H : (laws_heldBoughS.l0 k l0 a1 0) = some r := h
 clear h
 have H' := aM H
 clear H
 go_enter Try.func47, Try.ntmps47
 go_wp2
 go_loopg [1, 5] k (fun kq v1 v5 w' => ∃ (x1_1 : Int) (x5_1 : Int), v1 = .int .i64 x1_1 ∧ v5 = .int .i64 x5_1 ∧ Aside0 (laws_heldBoughS.l0 kq l0 x1_1 x5_1 = some r) ∧ Aside0 (kq ≤ k) ∧ Aside0 (Below w.heap.size w w'))
 case atStart => exact ⟨(a1), (0), z1, z1, H', ⟨Nat.le_refl _⟩, ⟨y4⟩⟩
 case round =>
  clear H'
  try clear p2
  obtain ⟨x1_1, x5_1, rfl, rfl, HA, HK1, HB⟩ := hrel
  cases gk with
  | zero => exact absurd HA.out (by simp [laws_heldBoughS.l0])
  | succ k1 =>
   have H := HA.out
   clear HA
   simp only [laws_heldBoughS.l0] at H
   by_cases c3 : x5_1 < (l0.length : Int)
   ·rw [if_pos c3] at H
    have c3b0 : decide (x5_1 < (l0.length : Int)) = true := dT c3
    clear c3
    by_cases c4 : 0 ≤ x5_1
    ·rw [if_pos c4] at H
     have c4b0 : decide (0 ≤ x5_1) = true := dT c4
     clear c4
     by_cases c5 : ((rd_T101 l0 x5_1).f0) = x1_1
     ·rw [if_pos c5] at H
      have c5b0 : (((rd_T101 l0 x5_1).f0) == x1_1) = true := qT c5
      have c5b1 : (((rd_T101 l0 x5_1).f0) != x1_1) = false := nF c5
      clear c5
      by_cases c6 : ((rd_T101 l0 x5_1).f1) = (wrap64 (x1_1 + 1))
      ·rw [if_pos c6] at H
       have c6b0 : (((rd_T101 l0 x5_1).f1) == (wrap64 (x1_1 + 1))) = true := qT c6
       have c6b1 : (((rd_T101 l0 x5_1).f1) != (wrap64 (x1_1 + 1))) = false := nF c6
       clear c6
       replace H := oB H
       obtain ⟨gu, jI, H⟩ := H
       try dsimp only at H
       have A7 := aM jI
       clear jI
       by_cases c8 : ((rd_T101 l0 x5_1).f2).toList = gu.toList
       ·rw [if_pos c8] at H
        have c8b0 : (((rd_T101 l0 x5_1).f2).toList == gu.toList) = true := qT c8
        have c8b1 : (((rd_T101 l0 x5_1).f2).toList != gu.toList) = false := nF c8
        clear c8
        by_cases c9 : ((rd_T101 l0 x5_1).f3) = (wrap64 ((wrap64 ((wrap64 (x1_1 + 1)) + 1)) + 1))
        ·rw [if_pos c9] at H
         have c9b0 : (((rd_T101 l0 x5_1).f3) == (wrap64 ((wrap64 ((wrap64 (x1_1 + 1)) + 1)) + 1))) = true := qT c9
         have c9b1 : (((rd_T101 l0 x5_1).f3) != (wrap64 ((wrap64 ((wrap64 (x1_1 + 1)) + 1)) + 1))) = false := nF c9
         clear c9
         by_cases cL : ((rd_T101 l0 x5_1).f4) = (wrap64 ((wrap64 ((wrap64 ((wrap64 (x1_1 + 1)) + 1)) + 1)) + 1))
         ·rw [if_pos cL] at H
          have c10b0 : (((rd_T101 l0 x5_1).f4) == (wrap64 ((wrap64 ((wrap64 ((wrap64 (x1_1 + 1)) + 1)) + 1)) + 1))) = true := qT cL
          have c10b1 : (((rd_T101 l0 x5_1).f4) != (wrap64 ((wrap64 ((wrap64 ((wrap64 (x1_1 + 1)) + 1)) + 1)) + 1))) = false := nF cL
          clear cL
          have H' := aM H
          clear H
          have p261 : 0 ≤ (x5_1 : Int) := oD z2
          have q261 : x5_1 < (l0.length : Int) := oD z2
          obtain ⟨ad261, e261, hx261_0, hx261_1, hx261_2, hx261_3, hx261_4⟩ := at_T101 bY.out x5_1 p261 q261
          cases e261
          replace hx261_0 := (HB.out.cell (World.block_lt_of_cell? w _ hx261_0)).trans hx261_0
          replace hx261_1 := (HB.out.cell (World.block_lt_of_cell? w _ hx261_1)).trans hx261_1
          replace hx261_2 := (HB.out.cell (World.block_lt_of_cell? w _ hx261_2)).trans hx261_2
          replace hx261_3 := (HB.out.cell (World.block_lt_of_cell? w _ hx261_3)).trans hx261_3
          replace hx261_4 := (HB.out.cell (World.block_lt_of_cell? w _ hx261_4)).trans hx261_4
          replace p261 := eq_true p261
          replace q261 := eq_true q261
          have p262 : 0 ≤ (x5_1 : Int) := oD z2
          have q262 : x5_1 < (l0.length : Int) := oD z2
          obtain ⟨ad262, e262, hx262_0, hx262_1, hx262_2, hx262_3, hx262_4⟩ := at_T101 bY.out x5_1 p262 q262
          obtain rfl : ad261 = ad262 := (by injection e262)
          replace hx262_0 := (HB.out.cell (World.block_lt_of_cell? w _ hx262_0)).trans hx262_0
          replace hx262_1 := (HB.out.cell (World.block_lt_of_cell? w _ hx262_1)).trans hx262_1
          replace hx262_2 := (HB.out.cell (World.block_lt_of_cell? w _ hx262_2)).trans hx262_2
          replace hx262_3 := (HB.out.cell (World.block_lt_of_cell? w _ hx262_3)).trans hx262_3
          replace hx262_4 := (HB.out.cell (World.block_lt_of_cell? w _ hx262_4)).trans hx262_4
          replace p262 := eq_true p262
          replace q262 := eq_true q262
          try go_wp2
          have a6 := aM (bD HB.out)
          clear HB
          have HB := a6
          clear a6
          have p263 : 0 ≤ (x5_1 : Int) := oD z2
          have q263 : x5_1 < (l0.length : Int) := oD z2
          obtain ⟨ad263, e263, hx263_0, hx263_1, hx263_2, hx263_3, hx263_4⟩ := at_T101 bY.out x5_1 p263 q263
          have hw263_4 := hx263_4
          have hw263_3 := hx263_3
          have hw263_2 := hx263_2
          have hw263_1 := hx263_1
          have hw263_0 := hx263_0
          obtain rfl : ad261 = ad263 := (by injection e263)
          replace hx263_0 := (HB.out.cell (World.block_lt_of_cell? w _ hx263_0)).trans hx263_0
          replace hx263_1 := (HB.out.cell (World.block_lt_of_cell? w _ hx263_1)).trans hx263_1
          replace hx263_2 := (HB.out.cell (World.block_lt_of_cell? w _ hx263_2)).trans hx263_2
          replace hx263_3 := (HB.out.cell (World.block_lt_of_cell? w _ hx263_3)).trans hx263_3
          replace hx263_4 := (HB.out.cell (World.block_lt_of_cell? w _ hx263_4)).trans hx263_4
          replace p263 := eq_true p263
          replace q263 := eq_true q263
          refine start_ (n := 8) (S := fun w' => w'.cell? (ad261.add ((x5_1).toNat * 5)) = some (.int .i64 ((rd_T101 l0 x5_1).f0)) ∧ w'.cell? ⟨(ad261.add ((x5_1).toNat * 5)).block, (ad261.add ((x5_1).toNat * 5)).off + 1, none⟩ = some (.int .i64 ((rd_T101 l0 x5_1).f1)) ∧ w'.cell? ⟨(ad261.add ((x5_1).toNat * 5)).block, (ad261.add ((x5_1).toNat * 5)).off + 2, none⟩ = some (.string ((rd_T101 l0 x5_1).f2)) ∧ w'.cell? ⟨(ad261.add ((x5_1).toNat * 5)).block, (ad261.add ((x5_1).toNat * 5)).off + 3, none⟩ = some (.int .i64 ((rd_T101 l0 x5_1).f3)) ∧ w'.cell? ⟨(ad261.add ((x5_1).toNat * 5)).block, (ad261.add ((x5_1).toNat * 5)).off + 4, none⟩ = some (.int .i64 ((rd_T101 l0 x5_1).f4))) (ds := []) #[false, false, false, false, false, false, false, false] z0 rfl rfl ⟨((HB.out.cell (World.block_lt_of_cell? w _ hw263_0)).trans hw263_0), ((HB.out.cell (World.block_lt_of_cell? w _ hw263_1)).trans hw263_1), ((HB.out.cell (World.block_lt_of_cell? w _ hw263_2)).trans hw263_2), ((HB.out.cell (World.block_lt_of_cell? w _ hw263_3)).trans hw263_3), ((HB.out.cell (World.block_lt_of_cell? w _ hw263_4)).trans hw263_4)⟩ (fun hHeld => ?_); refine with_tabW laws_heldBoughS.tab10 laws_heldBoughS.bits10 (fun HT_ HW_ => ?_)
          generalize wr.drew = w11 at HB hx263_0 hx263_1 hx263_2 hx263_3 hx263_4 hHeld ⊢
          refine pA 0 30 ?_
          refine pA 1 31 ?_
          refine pA 2 32 ?_
          refine pA 3 33 ?_
          refine pA 5 35 ?_
          refine tA 4 34 ?_ (hy := by rintro w' ⟨s0, s1, s2, s3, s4⟩; go_simp; with_reducible rfl)
          refine one_ (i := 6) (N := some 36) #[true, true, true, true, true, true, true, false] rfl rfl (one_of HT_.out z0) (by decide) (fun K hK => ?_)
          refine goes_ Try.func46 z0 rfl #[.int .i64 (wrap64 ((wrap64 (x1_1 + 1)) + 1))] (by rfl) rfl rfl z12 ?_
          with_reducible refine (laws_markText.calls k1 (wrap64 ((wrap64 (x1_1 + 1)) + 1)) gu _ A7.out).mono ?_
          rintro e w12 ⟨rfl, hb⟩
          refine ⟨_, rfl, ?_⟩
          have a6 := aM (ay z11 hb)
          clear HB
          have HB := a6
          clear a6
          (try clear hb)
          (try clear hb2)
          (try clear hk)
          (try clear hi)
          refine hK.out _ _ ⟨((HB.out.cell (World.block_lt_of_cell? w _ hw263_0)).trans hw263_0), ((HB.out.cell (World.block_lt_of_cell? w _ hw263_1)).trans hw263_1), ((HB.out.cell (World.block_lt_of_cell? w _ hw263_2)).trans hw263_2), ((HB.out.cell (World.block_lt_of_cell? w _ hw263_3)).trans hw263_3), ((HB.out.cell (World.block_lt_of_cell? w _ hw263_4)).trans hw263_4)⟩ (fun hHeld => ?_)
          clear hK K
          refine norm_ (a' := ?_) ?_ ?_
          rotate_left
          ·show Act.put _ (some 36) _ = _
           simp only [Act.put, sA, sB, sC, i64_w, i32_w]
           rfl
          refine pA 7 37 ?_
          refine done_ (done_of HT_.out z0) ?_
          have p265 : 0 ≤ (x5_1 : Int) := oD z2
          have q265 : x5_1 < (l0.length : Int) := oD z2
          obtain ⟨ad265, e265, hx265_0, hx265_1, hx265_2, hx265_3, hx265_4⟩ := at_T101 bY.out x5_1 p265 q265
          obtain rfl : ad261 = ad265 := (by injection e265)
          replace hx265_0 := (HB.out.cell (World.block_lt_of_cell? w _ hx265_0)).trans hx265_0
          replace hx265_1 := (HB.out.cell (World.block_lt_of_cell? w _ hx265_1)).trans hx265_1
          replace hx265_2 := (HB.out.cell (World.block_lt_of_cell? w _ hx265_2)).trans hx265_2
          replace hx265_3 := (HB.out.cell (World.block_lt_of_cell? w _ hx265_3)).trans hx265_3
          replace hx265_4 := (HB.out.cell (World.block_lt_of_cell? w _ hx265_4)).trans hx265_4
          replace p265 := eq_true p265
          replace q265 := eq_true q265
          have p266 : 0 ≤ (x5_1 : Int) := oD z2
          have q266 : x5_1 < (l0.length : Int) := oD z2
          obtain ⟨ad266, e266, hx266_0, hx266_1, hx266_2, hx266_3, hx266_4⟩ := at_T101 bY.out x5_1 p266 q266
          obtain rfl : ad261 = ad266 := (by injection e266)
          replace hx266_0 := (HB.out.cell (World.block_lt_of_cell? w _ hx266_0)).trans hx266_0
          replace hx266_1 := (HB.out.cell (World.block_lt_of_cell? w _ hx266_1)).trans hx266_1
          replace hx266_2 := (HB.out.cell (World.block_lt_of_cell? w _ hx266_2)).trans hx266_2
          replace hx266_3 := (HB.out.cell (World.block_lt_of_cell? w _ hx266_3)).trans hx266_3
          replace hx266_4 := (HB.out.cell (World.block_lt_of_cell? w _ hx266_4)).trans hx266_4
          replace p266 := eq_true p266
          replace q266 := eq_true q266
          try go_wp2
          go_roundg k1
          case measure => have := HK1.out; omega
          case rel => exact ⟨(wrap64 ((wrap64 ((wrap64 ((wrap64 ((wrap64 (x1_1 + 1)) + 1)) + 1)) + 1)) + 1)), (wrap64 (x5_1 + 1)), z1, z1, H', ⟨y0⟩, ⟨y4⟩⟩
         ·rw [if_neg cL] at H
          have c10b0 : (((rd_T101 l0 x5_1).f4) == (wrap64 ((wrap64 ((wrap64 ((wrap64 (x1_1 + 1)) + 1)) + 1)) + 1))) = false := qF cL
          have c10b1 : (((rd_T101 l0 x5_1).f4) != (wrap64 ((wrap64 ((wrap64 ((wrap64 (x1_1 + 1)) + 1)) + 1)) + 1))) = true := nT cL
          obtain rfl := sI H
          have p261 : 0 ≤ (x5_1 : Int) := oD z2
          have q261 : x5_1 < (l0.length : Int) := oD z2
          obtain ⟨ad261, e261, hx261_0, hx261_1, hx261_2, hx261_3, hx261_4⟩ := at_T101 bY.out x5_1 p261 q261
          cases e261
          replace hx261_0 := (HB.out.cell (World.block_lt_of_cell? w _ hx261_0)).trans hx261_0
          replace hx261_1 := (HB.out.cell (World.block_lt_of_cell? w _ hx261_1)).trans hx261_1
          replace hx261_2 := (HB.out.cell (World.block_lt_of_cell? w _ hx261_2)).trans hx261_2
          replace hx261_3 := (HB.out.cell (World.block_lt_of_cell? w _ hx261_3)).trans hx261_3
          replace hx261_4 := (HB.out.cell (World.block_lt_of_cell? w _ hx261_4)).trans hx261_4
          replace p261 := eq_true p261
          replace q261 := eq_true q261
          have p262 : 0 ≤ (x5_1 : Int) := oD z2
          have q262 : x5_1 < (l0.length : Int) := oD z2
          obtain ⟨ad262, e262, hx262_0, hx262_1, hx262_2, hx262_3, hx262_4⟩ := at_T101 bY.out x5_1 p262 q262
          obtain rfl : ad261 = ad262 := (by injection e262)
          replace hx262_0 := (HB.out.cell (World.block_lt_of_cell? w _ hx262_0)).trans hx262_0
          replace hx262_1 := (HB.out.cell (World.block_lt_of_cell? w _ hx262_1)).trans hx262_1
          replace hx262_2 := (HB.out.cell (World.block_lt_of_cell? w _ hx262_2)).trans hx262_2
          replace hx262_3 := (HB.out.cell (World.block_lt_of_cell? w _ hx262_3)).trans hx262_3
          replace hx262_4 := (HB.out.cell (World.block_lt_of_cell? w _ hx262_4)).trans hx262_4
          replace p262 := eq_true p262
          replace q262 := eq_true q262
          try go_wp2
          have a6 := aM (bD HB.out)
          clear HB
          have HB := a6
          clear a6
          have p263 : 0 ≤ (x5_1 : Int) := oD z2
          have q263 : x5_1 < (l0.length : Int) := oD z2
          obtain ⟨ad263, e263, hx263_0, hx263_1, hx263_2, hx263_3, hx263_4⟩ := at_T101 bY.out x5_1 p263 q263
          have hw263_4 := hx263_4
          have hw263_3 := hx263_3
          have hw263_2 := hx263_2
          have hw263_1 := hx263_1
          have hw263_0 := hx263_0
          obtain rfl : ad261 = ad263 := (by injection e263)
          replace hx263_0 := (HB.out.cell (World.block_lt_of_cell? w _ hx263_0)).trans hx263_0
          replace hx263_1 := (HB.out.cell (World.block_lt_of_cell? w _ hx263_1)).trans hx263_1
          replace hx263_2 := (HB.out.cell (World.block_lt_of_cell? w _ hx263_2)).trans hx263_2
          replace hx263_3 := (HB.out.cell (World.block_lt_of_cell? w _ hx263_3)).trans hx263_3
          replace hx263_4 := (HB.out.cell (World.block_lt_of_cell? w _ hx263_4)).trans hx263_4
          replace p263 := eq_true p263
          replace q263 := eq_true q263
          refine start_ (n := 8) (S := fun w' => w'.cell? (ad261.add ((x5_1).toNat * 5)) = some (.int .i64 ((rd_T101 l0 x5_1).f0)) ∧ w'.cell? ⟨(ad261.add ((x5_1).toNat * 5)).block, (ad261.add ((x5_1).toNat * 5)).off + 1, none⟩ = some (.int .i64 ((rd_T101 l0 x5_1).f1)) ∧ w'.cell? ⟨(ad261.add ((x5_1).toNat * 5)).block, (ad261.add ((x5_1).toNat * 5)).off + 2, none⟩ = some (.string ((rd_T101 l0 x5_1).f2)) ∧ w'.cell? ⟨(ad261.add ((x5_1).toNat * 5)).block, (ad261.add ((x5_1).toNat * 5)).off + 3, none⟩ = some (.int .i64 ((rd_T101 l0 x5_1).f3)) ∧ w'.cell? ⟨(ad261.add ((x5_1).toNat * 5)).block, (ad261.add ((x5_1).toNat * 5)).off + 4, none⟩ = some (.int .i64 ((rd_T101 l0 x5_1).f4))) (ds := []) #[false, false, false, false, false, false, false, false] z0 rfl rfl ⟨((HB.out.cell (World.block_lt_of_cell? w _ hw263_0)).trans hw263_0), ((HB.out.cell (World.block_lt_of_cell? w _ hw263_1)).trans hw263_1), ((HB.out.cell (World.block_lt_of_cell? w _ hw263_2)).trans hw263_2), ((HB.out.cell (World.block_lt_of_cell? w _ hw263_3)).trans hw263_3), ((HB.out.cell (World.block_lt_of_cell? w _ hw263_4)).trans hw263_4)⟩ (fun hHeld => ?_); refine with_tabW laws_heldBoughS.tab10 laws_heldBoughS.bits10 (fun HT_ HW_ => ?_)
          generalize wr.drew = w13 at HB hx263_0 hx263_1 hx263_2 hx263_3 hx263_4 hHeld ⊢
          refine pA 0 30 ?_
          refine pA 1 31 ?_
          refine pA 2 32 ?_
          refine pA 3 33 ?_
          refine pA 5 35 ?_
          refine tA 4 34 ?_ (hy := by rintro w' ⟨s0, s1, s2, s3, s4⟩; go_simp; with_reducible rfl)
          refine one_ (i := 6) (N := some 36) #[true, true, true, true, true, true, true, false] rfl rfl (one_of HT_.out z0) (by decide) (fun K hK => ?_)
          refine goes_ Try.func46 z0 rfl #[.int .i64 (wrap64 ((wrap64 (x1_1 + 1)) + 1))] (by rfl) rfl rfl z12 ?_
          with_reducible refine (laws_markText.calls k1 (wrap64 ((wrap64 (x1_1 + 1)) + 1)) gu _ A7.out).mono ?_
          rintro e w14 ⟨rfl, hb⟩
          refine ⟨_, rfl, ?_⟩
          have a6 := aM (ay z11 hb)
          clear HB
          have HB := a6
          clear a6
          (try clear hb)
          (try clear hb2)
          (try clear hk)
          (try clear hi)
          refine hK.out _ _ ⟨((HB.out.cell (World.block_lt_of_cell? w _ hw263_0)).trans hw263_0), ((HB.out.cell (World.block_lt_of_cell? w _ hw263_1)).trans hw263_1), ((HB.out.cell (World.block_lt_of_cell? w _ hw263_2)).trans hw263_2), ((HB.out.cell (World.block_lt_of_cell? w _ hw263_3)).trans hw263_3), ((HB.out.cell (World.block_lt_of_cell? w _ hw263_4)).trans hw263_4)⟩ (fun hHeld => ?_)
          clear hK K
          refine norm_ (a' := ?_) ?_ ?_
          rotate_left
          ·show Act.put _ (some 36) _ = _
           simp only [Act.put, sA, sB, sC, i64_w, i32_w]
           rfl
          refine pA 7 37 ?_
          refine done_ (done_of HT_.out z0) ?_
          have p265 : 0 ≤ (x5_1 : Int) := oD z2
          have q265 : x5_1 < (l0.length : Int) := oD z2
          obtain ⟨ad265, e265, hx265_0, hx265_1, hx265_2, hx265_3, hx265_4⟩ := at_T101 bY.out x5_1 p265 q265
          obtain rfl : ad261 = ad265 := (by injection e265)
          replace hx265_0 := (HB.out.cell (World.block_lt_of_cell? w _ hx265_0)).trans hx265_0
          replace hx265_1 := (HB.out.cell (World.block_lt_of_cell? w _ hx265_1)).trans hx265_1
          replace hx265_2 := (HB.out.cell (World.block_lt_of_cell? w _ hx265_2)).trans hx265_2
          replace hx265_3 := (HB.out.cell (World.block_lt_of_cell? w _ hx265_3)).trans hx265_3
          replace hx265_4 := (HB.out.cell (World.block_lt_of_cell? w _ hx265_4)).trans hx265_4
          replace p265 := eq_true p265
          replace q265 := eq_true q265
          have p266 : 0 ≤ (x5_1 : Int) := oD z2
          have q266 : x5_1 < (l0.length : Int) := oD z2
          obtain ⟨ad266, e266, hx266_0, hx266_1, hx266_2, hx266_3, hx266_4⟩ := at_T101 bY.out x5_1 p266 q266
          obtain rfl : ad261 = ad266 := (by injection e266)
          replace hx266_0 := (HB.out.cell (World.block_lt_of_cell? w _ hx266_0)).trans hx266_0
          replace hx266_1 := (HB.out.cell (World.block_lt_of_cell? w _ hx266_1)).trans hx266_1
          replace hx266_2 := (HB.out.cell (World.block_lt_of_cell? w _ hx266_2)).trans hx266_2
          replace hx266_3 := (HB.out.cell (World.block_lt_of_cell? w _ hx266_3)).trans hx266_3
          replace hx266_4 := (HB.out.cell (World.block_lt_of_cell? w _ hx266_4)).trans hx266_4
          replace p266 := eq_true p266
          replace q266 := eq_true q266
          try go_wp2
          go_ret
          exact ⟨y3, y4⟩
        ·rw [if_neg c9] at H
         have c9b0 : (((rd_T101 l0 x5_1).f3) == (wrap64 ((wrap64 ((wrap64 (x1_1 + 1)) + 1)) + 1))) = false := qF c9
         have c9b1 : (((rd_T101 l0 x5_1).f3) != (wrap64 ((wrap64 ((wrap64 (x1_1 + 1)) + 1)) + 1))) = true := nT c9
         obtain rfl := sI H
         have p261 : 0 ≤ (x5_1 : Int) := oD z2
         have q261 : x5_1 < (l0.length : Int) := oD z2
         obtain ⟨ad261, e261, hx261_0, hx261_1, hx261_2, hx261_3, hx261_4⟩ := at_T101 bY.out x5_1 p261 q261
         cases e261
         replace hx261_0 := (HB.out.cell (World.block_lt_of_cell? w _ hx261_0)).trans hx261_0
         replace hx261_1 := (HB.out.cell (World.block_lt_of_cell? w _ hx261_1)).trans hx261_1
         replace hx261_2 := (HB.out.cell (World.block_lt_of_cell? w _ hx261_2)).trans hx261_2
         replace hx261_3 := (HB.out.cell (World.block_lt_of_cell? w _ hx261_3)).trans hx261_3
         replace hx261_4 := (HB.out.cell (World.block_lt_of_cell? w _ hx261_4)).trans hx261_4
         replace p261 := eq_true p261
         replace q261 := eq_true q261
         have p262 : 0 ≤ (x5_1 : Int) := oD z2
         have q262 : x5_1 < (l0.length : Int) := oD z2
         obtain ⟨ad262, e262, hx262_0, hx262_1, hx262_2, hx262_3, hx262_4⟩ := at_T101 bY.out x5_1 p262 q262
         obtain rfl : ad261 = ad262 := (by injection e262)
         replace hx262_0 := (HB.out.cell (World.block_lt_of_cell? w _ hx262_0)).trans hx262_0
         replace hx262_1 := (HB.out.cell (World.block_lt_of_cell? w _ hx262_1)).trans hx262_1
         replace hx262_2 := (HB.out.cell (World.block_lt_of_cell? w _ hx262_2)).trans hx262_2
         replace hx262_3 := (HB.out.cell (World.block_lt_of_cell? w _ hx262_3)).trans hx262_3
         replace hx262_4 := (HB.out.cell (World.block_lt_of_cell? w _ hx262_4)).trans hx262_4
         replace p262 := eq_true p262
         replace q262 := eq_true q262
         try go_wp2
         have a6 := aM (bD HB.out)
         clear HB
         have HB := a6
         clear a6
         have p263 : 0 ≤ (x5_1 : Int) := oD z2
         have q263 : x5_1 < (l0.length : Int) := oD z2
         obtain ⟨ad263, e263, hx263_0, hx263_1, hx263_2, hx263_3, hx263_4⟩ := at_T101 bY.out x5_1 p263 q263
         have hw263_4 := hx263_4
         have hw263_3 := hx263_3
         have hw263_2 := hx263_2
         have hw263_1 := hx263_1
         have hw263_0 := hx263_0
         obtain rfl : ad261 = ad263 := (by injection e263)
         replace hx263_0 := (HB.out.cell (World.block_lt_of_cell? w _ hx263_0)).trans hx263_0
         replace hx263_1 := (HB.out.cell (World.block_lt_of_cell? w _ hx263_1)).trans hx263_1
         replace hx263_2 := (HB.out.cell (World.block_lt_of_cell? w _ hx263_2)).trans hx263_2
         replace hx263_3 := (HB.out.cell (World.block_lt_of_cell? w _ hx263_3)).trans hx263_3
         replace hx263_4 := (HB.out.cell (World.block_lt_of_cell? w _ hx263_4)).trans hx263_4
         replace p263 := eq_true p263
         replace q263 := eq_true q263
         refine start_ (n := 8) (S := fun w' => w'.cell? (ad261.add ((x5_1).toNat * 5)) = some (.int .i64 ((rd_T101 l0 x5_1).f0)) ∧ w'.cell? ⟨(ad261.add ((x5_1).toNat * 5)).block, (ad261.add ((x5_1).toNat * 5)).off + 1, none⟩ = some (.int .i64 ((rd_T101 l0 x5_1).f1)) ∧ w'.cell? ⟨(ad261.add ((x5_1).toNat * 5)).block, (ad261.add ((x5_1).toNat * 5)).off + 2, none⟩ = some (.string ((rd_T101 l0 x5_1).f2)) ∧ w'.cell? ⟨(ad261.add ((x5_1).toNat * 5)).block, (ad261.add ((x5_1).toNat * 5)).off + 3, none⟩ = some (.int .i64 ((rd_T101 l0 x5_1).f3)) ∧ w'.cell? ⟨(ad261.add ((x5_1).toNat * 5)).block, (ad261.add ((x5_1).toNat * 5)).off + 4, none⟩ = some (.int .i64 ((rd_T101 l0 x5_1).f4))) (ds := []) #[false, false, false, false, false, false, false, false] z0 rfl rfl ⟨((HB.out.cell (World.block_lt_of_cell? w _ hw263_0)).trans hw263_0), ((HB.out.cell (World.block_lt_of_cell? w _ hw263_1)).trans hw263_1), ((HB.out.cell (World.block_lt_of_cell? w _ hw263_2)).trans hw263_2), ((HB.out.cell (World.block_lt_of_cell? w _ hw263_3)).trans hw263_3), ((HB.out.cell (World.block_lt_of_cell? w _ hw263_4)).trans hw263_4)⟩ (fun hHeld => ?_); refine with_tabW laws_heldBoughS.tab10 laws_heldBoughS.bits10 (fun HT_ HW_ => ?_)
         generalize wr.drew = w15 at HB hx263_0 hx263_1 hx263_2 hx263_3 hx263_4 hHeld ⊢
         refine pA 0 30 ?_
         refine pA 1 31 ?_
         refine pA 2 32 ?_
         refine pA 3 33 ?_
         refine pA 5 35 ?_
         refine tA 4 34 ?_ (hy := by rintro w' ⟨s0, s1, s2, s3, s4⟩; go_simp; with_reducible rfl)
         refine one_ (i := 6) (N := some 36) #[true, true, true, true, true, true, true, false] rfl rfl (one_of HT_.out z0) (by decide) (fun K hK => ?_)
         refine goes_ Try.func46 z0 rfl #[.int .i64 (wrap64 ((wrap64 (x1_1 + 1)) + 1))] (by rfl) rfl rfl z12 ?_
         with_reducible refine (laws_markText.calls k1 (wrap64 ((wrap64 (x1_1 + 1)) + 1)) gu _ A7.out).mono ?_
         rintro e w16 ⟨rfl, hb⟩
         refine ⟨_, rfl, ?_⟩
         have a6 := aM (ay z11 hb)
         clear HB
         have HB := a6
         clear a6
         (try clear hb)
         (try clear hb2)
         (try clear hk)
         (try clear hi)
         refine hK.out _ _ ⟨((HB.out.cell (World.block_lt_of_cell? w _ hw263_0)).trans hw263_0), ((HB.out.cell (World.block_lt_of_cell? w _ hw263_1)).trans hw263_1), ((HB.out.cell (World.block_lt_of_cell? w _ hw263_2)).trans hw263_2), ((HB.out.cell (World.block_lt_of_cell? w _ hw263_3)).trans hw263_3), ((HB.out.cell (World.block_lt_of_cell? w _ hw263_4)).trans hw263_4)⟩ (fun hHeld => ?_)
         clear hK K
         refine norm_ (a' := ?_) ?_ ?_
         rotate_left
         ·show Act.put _ (some 36) _ = _
          simp only [Act.put, sA, sB, sC, i64_w, i32_w]
          rfl
         refine pA 7 37 ?_
         refine done_ (done_of HT_.out z0) ?_
         have p265 : 0 ≤ (x5_1 : Int) := oD z2
         have q265 : x5_1 < (l0.length : Int) := oD z2
         obtain ⟨ad265, e265, hx265_0, hx265_1, hx265_2, hx265_3, hx265_4⟩ := at_T101 bY.out x5_1 p265 q265
         obtain rfl : ad261 = ad265 := (by injection e265)
         replace hx265_0 := (HB.out.cell (World.block_lt_of_cell? w _ hx265_0)).trans hx265_0
         replace hx265_1 := (HB.out.cell (World.block_lt_of_cell? w _ hx265_1)).trans hx265_1
         replace hx265_2 := (HB.out.cell (World.block_lt_of_cell? w _ hx265_2)).trans hx265_2
         replace hx265_3 := (HB.out.cell (World.block_lt_of_cell? w _ hx265_3)).trans hx265_3
         replace hx265_4 := (HB.out.cell (World.block_lt_of_cell? w _ hx265_4)).trans hx265_4
         replace p265 := eq_true p265
         replace q265 := eq_true q265
         try go_wp2
         go_ret
         exact ⟨y3, y4⟩
       ·rw [if_neg c8] at H
        have c8b0 : (((rd_T101 l0 x5_1).f2).toList == gu.toList) = false := qF c8
        have c8b1 : (((rd_T101 l0 x5_1).f2).toList != gu.toList) = true := nT c8
        obtain rfl := sI H
        have p261 : 0 ≤ (x5_1 : Int) := oD z2
        have q261 : x5_1 < (l0.length : Int) := oD z2
        obtain ⟨ad261, e261, hx261_0, hx261_1, hx261_2, hx261_3, hx261_4⟩ := at_T101 bY.out x5_1 p261 q261
        cases e261
        replace hx261_0 := (HB.out.cell (World.block_lt_of_cell? w _ hx261_0)).trans hx261_0
        replace hx261_1 := (HB.out.cell (World.block_lt_of_cell? w _ hx261_1)).trans hx261_1
        replace hx261_2 := (HB.out.cell (World.block_lt_of_cell? w _ hx261_2)).trans hx261_2
        replace hx261_3 := (HB.out.cell (World.block_lt_of_cell? w _ hx261_3)).trans hx261_3
        replace hx261_4 := (HB.out.cell (World.block_lt_of_cell? w _ hx261_4)).trans hx261_4
        replace p261 := eq_true p261
        replace q261 := eq_true q261
        have p262 : 0 ≤ (x5_1 : Int) := oD z2
        have q262 : x5_1 < (l0.length : Int) := oD z2
        obtain ⟨ad262, e262, hx262_0, hx262_1, hx262_2, hx262_3, hx262_4⟩ := at_T101 bY.out x5_1 p262 q262
        obtain rfl : ad261 = ad262 := (by injection e262)
        replace hx262_0 := (HB.out.cell (World.block_lt_of_cell? w _ hx262_0)).trans hx262_0
        replace hx262_1 := (HB.out.cell (World.block_lt_of_cell? w _ hx262_1)).trans hx262_1
        replace hx262_2 := (HB.out.cell (World.block_lt_of_cell? w _ hx262_2)).trans hx262_2
        replace hx262_3 := (HB.out.cell (World.block_lt_of_cell? w _ hx262_3)).trans hx262_3
        replace hx262_4 := (HB.out.cell (World.block_lt_of_cell? w _ hx262_4)).trans hx262_4
        replace p262 := eq_true p262
        replace q262 := eq_true q262
        try go_wp2
        have a6 := aM (bD HB.out)
        clear HB
        have HB := a6
        clear a6
        have p263 : 0 ≤ (x5_1 : Int) := oD z2
        have q263 : x5_1 < (l0.length : Int) := oD z2
        obtain ⟨ad263, e263, hx263_0, hx263_1, hx263_2, hx263_3, hx263_4⟩ := at_T101 bY.out x5_1 p263 q263
        have hw263_4 := hx263_4
        have hw263_3 := hx263_3
        have hw263_2 := hx263_2
        have hw263_1 := hx263_1
        have hw263_0 := hx263_0
        obtain rfl : ad261 = ad263 := (by injection e263)
        replace hx263_0 := (HB.out.cell (World.block_lt_of_cell? w _ hx263_0)).trans hx263_0
        replace hx263_1 := (HB.out.cell (World.block_lt_of_cell? w _ hx263_1)).trans hx263_1
        replace hx263_2 := (HB.out.cell (World.block_lt_of_cell? w _ hx263_2)).trans hx263_2
        replace hx263_3 := (HB.out.cell (World.block_lt_of_cell? w _ hx263_3)).trans hx263_3
        replace hx263_4 := (HB.out.cell (World.block_lt_of_cell? w _ hx263_4)).trans hx263_4
        replace p263 := eq_true p263
        replace q263 := eq_true q263
        refine start_ (n := 8) (S := fun w' => w'.cell? (ad261.add ((x5_1).toNat * 5)) = some (.int .i64 ((rd_T101 l0 x5_1).f0)) ∧ w'.cell? ⟨(ad261.add ((x5_1).toNat * 5)).block, (ad261.add ((x5_1).toNat * 5)).off + 1, none⟩ = some (.int .i64 ((rd_T101 l0 x5_1).f1)) ∧ w'.cell? ⟨(ad261.add ((x5_1).toNat * 5)).block, (ad261.add ((x5_1).toNat * 5)).off + 2, none⟩ = some (.string ((rd_T101 l0 x5_1).f2)) ∧ w'.cell? ⟨(ad261.add ((x5_1).toNat * 5)).block, (ad261.add ((x5_1).toNat * 5)).off + 3, none⟩ = some (.int .i64 ((rd_T101 l0 x5_1).f3)) ∧ w'.cell? ⟨(ad261.add ((x5_1).toNat * 5)).block, (ad261.add ((x5_1).toNat * 5)).off + 4, none⟩ = some (.int .i64 ((rd_T101 l0 x5_1).f4))) (ds := []) #[false, false, false, false, false, false, false, false] z0 rfl rfl ⟨((HB.out.cell (World.block_lt_of_cell? w _ hw263_0)).trans hw263_0), ((HB.out.cell (World.block_lt_of_cell? w _ hw263_1)).trans hw263_1), ((HB.out.cell (World.block_lt_of_cell? w _ hw263_2)).trans hw263_2), ((HB.out.cell (World.block_lt_of_cell? w _ hw263_3)).trans hw263_3), ((HB.out.cell (World.block_lt_of_cell? w _ hw263_4)).trans hw263_4)⟩ (fun hHeld => ?_); refine with_tabW laws_heldBoughS.tab10 laws_heldBoughS.bits10 (fun HT_ HW_ => ?_)
        generalize wr.drew = w17 at HB hx263_0 hx263_1 hx263_2 hx263_3 hx263_4 hHeld ⊢
        refine pA 0 30 ?_
        refine pA 1 31 ?_
        refine pA 2 32 ?_
        refine pA 3 33 ?_
        refine pA 5 35 ?_
        refine tA 4 34 ?_ (hy := by rintro w' ⟨s0, s1, s2, s3, s4⟩; go_simp; with_reducible rfl)
        refine one_ (i := 6) (N := some 36) #[true, true, true, true, true, true, true, false] rfl rfl (one_of HT_.out z0) (by decide) (fun K hK => ?_)
        refine goes_ Try.func46 z0 rfl #[.int .i64 (wrap64 ((wrap64 (x1_1 + 1)) + 1))] (by rfl) rfl rfl z12 ?_
        with_reducible refine (laws_markText.calls k1 (wrap64 ((wrap64 (x1_1 + 1)) + 1)) gu _ A7.out).mono ?_
        rintro e w18 ⟨rfl, hb⟩
        refine ⟨_, rfl, ?_⟩
        have a6 := aM (ay z11 hb)
        clear HB
        have HB := a6
        clear a6
        (try clear hb)
        (try clear hb2)
        (try clear hk)
        (try clear hi)
        refine hK.out _ _ ⟨((HB.out.cell (World.block_lt_of_cell? w _ hw263_0)).trans hw263_0), ((HB.out.cell (World.block_lt_of_cell? w _ hw263_1)).trans hw263_1), ((HB.out.cell (World.block_lt_of_cell? w _ hw263_2)).trans hw263_2), ((HB.out.cell (World.block_lt_of_cell? w _ hw263_3)).trans hw263_3), ((HB.out.cell (World.block_lt_of_cell? w _ hw263_4)).trans hw263_4)⟩ (fun hHeld => ?_)
        clear hK K
        refine norm_ (a' := ?_) ?_ ?_
        rotate_left
        ·show Act.put _ (some 36) _ = _
         simp only [Act.put, sA, sB, sC, i64_w, i32_w]
         rfl
        refine pA 7 37 ?_
        refine done_ (done_of HT_.out z0) ?_
        try go_wp2
        go_ret
        exact ⟨y3, y4⟩
      ·rw [if_neg c6] at H
       have c6b0 : (((rd_T101 l0 x5_1).f1) == (wrap64 (x1_1 + 1))) = false := qF c6
       have c6b1 : (((rd_T101 l0 x5_1).f1) != (wrap64 (x1_1 + 1))) = true := nT c6
       obtain rfl := sI H
       have p261 : 0 ≤ (x5_1 : Int) := oD z2
       have q261 : x5_1 < (l0.length : Int) := oD z2
       obtain ⟨ad261, e261, hx261_0, hx261_1, hx261_2, hx261_3, hx261_4⟩ := at_T101 bY.out x5_1 p261 q261
       cases e261
       replace hx261_0 := (HB.out.cell (World.block_lt_of_cell? w _ hx261_0)).trans hx261_0
       replace hx261_1 := (HB.out.cell (World.block_lt_of_cell? w _ hx261_1)).trans hx261_1
       replace hx261_2 := (HB.out.cell (World.block_lt_of_cell? w _ hx261_2)).trans hx261_2
       replace hx261_3 := (HB.out.cell (World.block_lt_of_cell? w _ hx261_3)).trans hx261_3
       replace hx261_4 := (HB.out.cell (World.block_lt_of_cell? w _ hx261_4)).trans hx261_4
       replace p261 := eq_true p261
       replace q261 := eq_true q261
       have p262 : 0 ≤ (x5_1 : Int) := oD z2
       have q262 : x5_1 < (l0.length : Int) := oD z2
       obtain ⟨ad262, e262, hx262_0, hx262_1, hx262_2, hx262_3, hx262_4⟩ := at_T101 bY.out x5_1 p262 q262
       obtain rfl : ad261 = ad262 := (by injection e262)
       replace hx262_0 := (HB.out.cell (World.block_lt_of_cell? w _ hx262_0)).trans hx262_0
       replace hx262_1 := (HB.out.cell (World.block_lt_of_cell? w _ hx262_1)).trans hx262_1
       replace hx262_2 := (HB.out.cell (World.block_lt_of_cell? w _ hx262_2)).trans hx262_2
       replace hx262_3 := (HB.out.cell (World.block_lt_of_cell? w _ hx262_3)).trans hx262_3
       replace hx262_4 := (HB.out.cell (World.block_lt_of_cell? w _ hx262_4)).trans hx262_4
       replace p262 := eq_true p262
       replace q262 := eq_true q262
       go_wp2
       go_ret
       exact ⟨y3, y4⟩
     ·rw [if_neg c5] at H
      have c5b0 : (((rd_T101 l0 x5_1).f0) == x1_1) = false := qF c5
      have c5b1 : (((rd_T101 l0 x5_1).f0) != x1_1) = true := nT c5
      obtain rfl := sI H
      have p261 : 0 ≤ (x5_1 : Int) := oD z2
      have q261 : x5_1 < (l0.length : Int) := oD z2
      obtain ⟨ad261, e261, hx261_0, hx261_1, hx261_2, hx261_3, hx261_4⟩ := at_T101 bY.out x5_1 p261 q261
      cases e261
      replace hx261_0 := (HB.out.cell (World.block_lt_of_cell? w _ hx261_0)).trans hx261_0
      replace hx261_1 := (HB.out.cell (World.block_lt_of_cell? w _ hx261_1)).trans hx261_1
      replace hx261_2 := (HB.out.cell (World.block_lt_of_cell? w _ hx261_2)).trans hx261_2
      replace hx261_3 := (HB.out.cell (World.block_lt_of_cell? w _ hx261_3)).trans hx261_3
      replace hx261_4 := (HB.out.cell (World.block_lt_of_cell? w _ hx261_4)).trans hx261_4
      replace p261 := eq_true p261
      replace q261 := eq_true q261
      go_wp2
      go_ret
      exact ⟨y3, y4⟩
    ·rw [if_neg c4] at H
     exact absurd H (by simp)
   ·rw [if_neg c3] at H
    have c3b0 : decide (x5_1 < (l0.length : Int)) = false := dF c3
    clear c3
    obtain rfl := sI H
    go_wp2
    go_ret
    exact ⟨y3, y4⟩

/-! ### laws_heldRope: function 15 -/
def laws_heldRope.f (k : Nat) (l0_0 : List (S101)) (a1 : Int) : Option (Int) := (laws_heldBoughS.f k l0_0 a1).bind fun gs => (if gs < 0 then (some (-1)) else (some gs))
theorem laws_heldRope.mono : ∀ a0 a1 k, LeO (laws_heldRope.f k a0 a1) (laws_heldRope.f (k + 1) a0 a1) := by
 intro a0 a1 k
 unfold laws_heldRope.f
 repeat' first
   | (with_reducible exact laws_heldBoughS.mono _ _ _)
   | (with_reducible exact LeO.refl _)
   | (with_reducible exact LeO.none _)
   | (with_reducible refine LeO.ite ?_ ?_)
   | (with_reducible refine LeO.bind ?_ (fun _ => ?_))
   | exact laws_heldBoughS.mono _ _ _
   | exact LeO.none _
   | refine LeO.ite ?_ ?_
   | refine LeO.bind ?_ (fun _ => ?_)
set_option maxHeartbeats 8000000 in
set_option maxRecDepth 100000 in
theorem laws_heldRope.calls (k : Nat) (bj : Option Addr) (bk : Nat) (l0_0 : List (S101)) (a1 : Int) (r : Int) (w : World) (hr0_0 : Kd.C k101 w bj l0_0.length l0_0) (hc0_0 : l0_0.length ≤ bk) (h : laws_heldRope.f k l0_0 a1 = some r) :
  Calls Try.prog 15 #[.agg #[.slice bj l0_0.length bk], .int .i64 a1] w fun e w' => e = .returned (.int .i64 r) ∧ Below w.heap.size w w' := by
 have hu30 := Try.underlying30
 have cI := aM hr0_0
 have cM := aM hc0_0
 clear hr0_0 hc0_0
 have HB := aM (Below.refl w.heap.size w)
 have H : ((laws_heldBoughS.f k l0_0 a1).bind fun gs => (if gs < 0 then (some (-1)) else (some gs))) = some r := h
 clear h
 replace H := oB H
 obtain ⟨gs, fT, H⟩ := H
 try dsimp only at H
 have A3 := aM fT
 clear fT
 by_cases c4 : gs < 0
 ·rw [if_pos c4] at H
  have c4b0 : decide (gs < 0) = true := dT c4
  clear c4
  obtain rfl := sI H
  go_enter Try.func15, Try.ntmps15
  go_wp2_with (first | ((with_reducible refine aJ (N := 2) rfl ?_); refine aK ?hg (N := 2) ?hd (cs := #[.slice bj l0_0.length bk]) (t := 30) ?hr ?_; (case hd => rfl); (case hg => rfl); (case hr => first | (go_simp; done) | (go_simp; rfl)); intro fC hg w5 hbox hb; have a6 := aM (ay z11 hb); have ba := aM (hbox); have bb := aM ((by rw [hg]; exact (az z11) : w.heap.size ≤ fC)); have bf := aM ((by rw [hg]; exact (az z11) : w.heap.size ≤ fC)); clear HB; have HB := a6; have eB := ba; have GW267 := bb; have jz := bf; clear a6 ba bb bf; clear hb hbox hg; have dL : w5.cell? ⟨fC, 0, none⟩ = some (.slice bj l0_0.length bk) := (bC eB.out 0).trans rfl; have dK := bF eB.out 0) | ((with_reducible refine aI (f := 47) rfl ?_); refine aN (some 8) rfl rfl Try.func47 z0 rfl #[.slice bj l0_0.length bk, .int .i64 a1] rfl z12 ?_; (with_reducible refine (laws_heldBoughS.calls k _ _ l0_0 a1 gs _ ?side1 ?side2 A3.out).mono ?_); (case side1 => repeat (first | exact (aD cI.out HB.out) | (with_reducible refine aE ?_ _) | (with_reducible refine aG ?_ _) | (with_reducible refine aH ?_))); (case side2 => exact cM.out); rintro e w7 ⟨rfl, hb⟩; refine ⟨_, rfl, ?_⟩; have a6 := aM (af (g := fC) (o := .cells #[.slice bj l0_0.length bk] 30 (0, 0)) (by (with_reducible repeat (first | refine ar ?_ _ | refine aq ?_ | refine au ?_ _)); exact eB.out) hb); have ba := aM (ay (by repeat (first | (with_reducible first | exact HB.out | apply bA | apply pD | apply bD | refine ax ?_ jz.out) | exact HB.out)) hb); clear eB; clear HB; have eB := a6; have HB := ba; clear a6 ba; (try clear hb); (try clear hb2); (try clear hk); (try clear hi)))
  go_ret
  exact ⟨y3, by repeat (first | (with_reducible first | exact HB.out | apply bA | apply pD | apply bD | refine ax ?_ jz.out) | exact HB.out)⟩
 ·rw [if_neg c4] at H
  have c4b0 : decide (gs < 0) = false := dF c4
  clear c4
  obtain rfl := sI H
  go_enter Try.func15, Try.ntmps15
  go_wp2_with (first | ((with_reducible refine aJ (N := 2) rfl ?_); refine aK ?hg (N := 2) ?hd (cs := #[.slice bj l0_0.length bk]) (t := 30) ?hr ?_; (case hd => rfl); (case hg => rfl); (case hr => first | (go_simp; done) | (go_simp; rfl)); intro fC hg w8 hbox hb; have a6 := aM (ay z11 hb); have ba := aM (hbox); have bb := aM ((by rw [hg]; exact (az z11) : w.heap.size ≤ fC)); have bf := aM ((by rw [hg]; exact (az z11) : w.heap.size ≤ fC)); clear HB; have HB := a6; have eB := ba; have GW267 := bb; have jz := bf; clear a6 ba bb bf; clear hb hbox hg; have dp : w8.cell? ⟨fC, 0, none⟩ = some (.slice bj l0_0.length bk) := (bC eB.out 0).trans rfl; have dn := bF eB.out 0) | ((with_reducible refine aI (f := 47) rfl ?_); refine aN (some 8) rfl rfl Try.func47 z0 rfl #[.slice bj l0_0.length bk, .int .i64 a1] rfl z12 ?_; (with_reducible refine (laws_heldBoughS.calls k _ _ l0_0 a1 gs _ ?side1 ?side2 A3.out).mono ?_); (case side1 => repeat (first | exact (aD cI.out HB.out) | (with_reducible refine aE ?_ _) | (with_reducible refine aG ?_ _) | (with_reducible refine aH ?_))); (case side2 => exact cM.out); rintro e w10 ⟨rfl, hb⟩; refine ⟨_, rfl, ?_⟩; have a6 := aM (af (g := fC) (o := .cells #[.slice bj l0_0.length bk] 30 (0, 0)) (by (with_reducible repeat (first | refine ar ?_ _ | refine aq ?_ | refine au ?_ _)); exact eB.out) hb); have ba := aM (ay (by repeat (first | (with_reducible first | exact HB.out | apply bA | apply pD | apply bD | refine ax ?_ jz.out) | exact HB.out)) hb); clear eB; clear HB; have eB := a6; have HB := ba; clear a6 ba; (try clear hb); (try clear hb2); (try clear hk); (try clear hi)))
  go_ret
  exact ⟨y3, by repeat (first | (with_reducible first | exact HB.out | apply bA | apply pD | apply bD | refine ax ?_ jz.out) | exact HB.out)⟩

end Go.Proofs.Ytblnnbaeiggmoaa.AFnExactEditRope
