-- this session's own text: written by wip/tools/ownprint.py over the kit's print
import Derived.Test.YtmkenlejdaphnaaAFnExactSplitRopex0
import Derived.Test.YtmkenlejdaphnaaAFnExactSplitRopex2
namespace Go.Proofs.Ytmkenlejdaphnaa.AFnExactSplitRope
open Go.RowKit Go.Proofs.YtmkenlejdaphnaaW.PrintWords Go.Proofs.YtmkenlejdaphnaaW.PrintLast Go.Proofs.YtmkenlejdaphnaaW.PrintMore
attribute [local go_sem] max2_int min2_int max_two min_two max_three min_three max_four min_four   -- for this text's walks alone
set_option linter.unusedVariables false
set_option linter.unusedSimpArgs false

/-! ### laws_heldBoughS: function 64 -/
def laws_heldBoughS.l0 : Nat → List (S58) → Int → Int → Option (Int)
 | 0, _, _, _ => none
 | k + 1, x0, x1, x5 => if x5 < (x0.length : Int) then (if 0 ≤ x5 then (if ((rd_T58 x0 x5).f0) = x1 then (if ((rd_T58 x0 x5).f1) = (wrap64 (x1 + 1)) then ((laws_markText.f k (wrap64 ((wrap64 (x1 + 1)) + 1))).bind fun iT => (if ((rd_T58 x0 x5).f2).toList = iT.toList then (if ((rd_T58 x0 x5).f3) = (wrap64 ((wrap64 ((wrap64 (x1 + 1)) + 1)) + 1)) then (if ((rd_T58 x0 x5).f4) = (wrap64 ((wrap64 ((wrap64 ((wrap64 (x1 + 1)) + 1)) + 1)) + 1)) then (laws_heldBoughS.l0 k x0 (wrap64 ((wrap64 ((wrap64 ((wrap64 ((wrap64 (x1 + 1)) + 1)) + 1)) + 1)) + 1)) (wrap64 (x5 + 1))) else (some (-1))) else (some (-1))) else (some (-1)))) else (some (-1))) else (some (-1))) else (none)) else (some x1)
def laws_heldBoughS.f (k : Nat) (l0 : List (S58)) (a1 : Int) : Option (Int) := laws_heldBoughS.l0 k l0 a1 0
theorem laws_heldBoughS.mono_l : ∀ k, (∀ y0 y1 y2, LeO (laws_heldBoughS.l0 k y0 y1 y2) (laws_heldBoughS.l0 (k + 1) y0 y1 y2))
 | 0 => fun _ _ _ r h => by simp [laws_heldBoughS.l0] at h
 | k + 1 => by
  have ih0 := laws_heldBoughS.mono_l k
  ·intro y0 y1 y2
   unfold laws_heldBoughS.l0
   repeat' first
   | (with_reducible exact ih0 _ _ _)
   | (with_reducible exact laws_markText.mono _ _)
   | (with_reducible exact LeO.refl _)
   | (with_reducible exact LeO.none _)
   | (with_reducible refine LeO.ite ?_ ?_)
   | (with_reducible refine LeO.bind ?_ (fun _ => ?_))
   | exact ih0 _ _ _
   | exact laws_markText.mono _ _
   | exact LeO.none _
   | refine LeO.ite ?_ ?_
   | refine LeO.bind ?_ (fun _ => ?_)
theorem laws_heldBoughS.mono : ∀ a0 a1 k, LeO (laws_heldBoughS.f k a0 a1) (laws_heldBoughS.f (k + 1) a0 a1) := by
 intro a0 a1 k
 have ih0 := laws_heldBoughS.mono_l k
 unfold laws_heldBoughS.f
 repeat' first
   | (with_reducible exact ih0 _ _ _)
   | (with_reducible exact laws_markText.mono _ _)
   | (with_reducible exact LeO.refl _)
   | (with_reducible exact LeO.none _)
   | (with_reducible refine LeO.ite ?_ ?_)
   | (with_reducible refine LeO.bind ?_ (fun _ => ?_))
   | exact ih0 _ _ _
   | exact laws_markText.mono _ _
   | exact LeO.none _
   | refine LeO.ite ?_ ?_
   | refine LeO.bind ?_ (fun _ => ?_)
def laws_heldBoughS.T10 : Bool × List (List Nat × List Nat) := (true, [([], []), ([], []), ([0, 1], [0, 1]), ([2], [2]), ([3], [3]), ([], []), ([5], [5]), ([4, 6], [4, 6])])
def laws_heldBoughS.B10 : List Nat := [0, 0, 3, 7, 15, 0, 32, 127]
theorem laws_heldBoughS.tab10 : rtab .any (opsOf Try.f64 10) = laws_heldBoughS.T10 := by kernel_rfl
theorem laws_heldBoughS.bits10 : waitsOk laws_heldBoughS.T10.2 laws_heldBoughS.B10 = true := by kernel_rfl
set_option maxHeartbeats 8000000 in
set_option maxRecDepth 100000 in
theorem laws_heldBoughS.calls (k : Nat) (A0 : Option Addr) (c0 : Nat) (l0 : List (S58)) (a1 : Int) (r : Int) (w : World) (hr0 : Kd.C k58 w A0 l0.length l0) (hc0 : l0.length ≤ c0) (h : laws_heldBoughS.f k l0 a1 = some r) :
  Calls Try.prog 64 #[.slice A0 l0.length c0, .int .i64 a1] w fun e w' => e = .returned (.int .i64 r) ∧ Below w.heap.size w w' := by
 have dX := aM hr0
 have g6 := aM hc0
 clear hr0 hc0
 have HB := aM (Below.refl w.heap.size w)
 have H : (laws_heldBoughS.l0 k l0 a1 0) = some r := h
 clear h
 have H' := aM H
 clear H
 go_enter Try.func64, Try.ntmps64
 go_wp2
 go_loopg [1, 5] k (fun kq v1 v5 w' => ∃ (x1_1 : Int) (x5_1 : Int), v1 = .int .i64 x1_1 ∧ v5 = .int .i64 x5_1 ∧ Aside0 (laws_heldBoughS.l0 kq l0 x1_1 x5_1 = some r) ∧ Aside0 (kq ≤ k) ∧ Aside0 (Below w.heap.size w w'))
 case atStart => exact ⟨(a1), (0), z2, z2, H', ⟨Nat.le_refl _⟩, ⟨y3⟩⟩
 case round =>
  clear H'
  try clear p2
  obtain ⟨x1_1, x5_1, rfl, rfl, HA, HK1, HB⟩ := hrel
  cases gk with
  | zero => exact absurd HA.out (by simp [laws_heldBoughS.l0])
  | succ k1 =>
   have H := HA.out
   clear HA
   simp only [laws_heldBoughS.l0] at H
   by_cases c3 : x5_1 < (l0.length : Int)
   ·rw [if_pos c3] at H
    have c3b0 : decide (x5_1 < (l0.length : Int)) = true := dT c3
    clear c3
    by_cases c4 : 0 ≤ x5_1
    ·rw [if_pos c4] at H
     have c4b0 : decide (0 ≤ x5_1) = true := dT c4
     clear c4
     by_cases c5 : ((rd_T58 l0 x5_1).f0) = x1_1
     ·rw [if_pos c5] at H
      have c5b0 : (((rd_T58 l0 x5_1).f0) == x1_1) = true := qT c5
      have c5b1 : (((rd_T58 l0 x5_1).f0) != x1_1) = false := nF c5
      clear c5
      by_cases c6 : ((rd_T58 l0 x5_1).f1) = (wrap64 (x1_1 + 1))
      ·rw [if_pos c6] at H
       have c6b0 : (((rd_T58 l0 x5_1).f1) == (wrap64 (x1_1 + 1))) = true := qT c6
       have c6b1 : (((rd_T58 l0 x5_1).f1) != (wrap64 (x1_1 + 1))) = false := nF c6
       clear c6
       replace H := oB H
       obtain ⟨iT, oe, H⟩ := H
       try dsimp only at H
       have A7 := aM oe
       clear oe
       by_cases c8 : ((rd_T58 l0 x5_1).f2).toList = iT.toList
       ·rw [if_pos c8] at H
        have c8b0 : (((rd_T58 l0 x5_1).f2).toList == iT.toList) = true := qT c8
        have c8b1 : (((rd_T58 l0 x5_1).f2).toList != iT.toList) = false := nF c8
        clear c8
        by_cases c9 : ((rd_T58 l0 x5_1).f3) = (wrap64 ((wrap64 ((wrap64 (x1_1 + 1)) + 1)) + 1))
        ·rw [if_pos c9] at H
         have c9b0 : (((rd_T58 l0 x5_1).f3) == (wrap64 ((wrap64 ((wrap64 (x1_1 + 1)) + 1)) + 1))) = true := qT c9
         have c9b1 : (((rd_T58 l0 x5_1).f3) != (wrap64 ((wrap64 ((wrap64 (x1_1 + 1)) + 1)) + 1))) = false := nF c9
         clear c9
         by_cases eK : ((rd_T58 l0 x5_1).f4) = (wrap64 ((wrap64 ((wrap64 ((wrap64 (x1_1 + 1)) + 1)) + 1)) + 1))
         ·rw [if_pos eK] at H
          have c10b0 : (((rd_T58 l0 x5_1).f4) == (wrap64 ((wrap64 ((wrap64 ((wrap64 (x1_1 + 1)) + 1)) + 1)) + 1))) = true := qT eK
          have c10b1 : (((rd_T58 l0 x5_1).f4) != (wrap64 ((wrap64 ((wrap64 ((wrap64 (x1_1 + 1)) + 1)) + 1)) + 1))) = false := nF eK
          clear eK
          have H' := aM H
          clear H
          have p145 : 0 ≤ (x5_1 : Int) := oD z3
          have q145 : x5_1 < (l0.length : Int) := oD z3
          obtain ⟨ad145, e145, hx145_0, hx145_1, hx145_2, hx145_3, hx145_4⟩ := at_T58 dX.out x5_1 p145 q145
          cases e145
          replace hx145_0 := (HB.out.cell (World.block_lt_of_cell? w _ hx145_0)).trans hx145_0
          replace hx145_1 := (HB.out.cell (World.block_lt_of_cell? w _ hx145_1)).trans hx145_1
          replace hx145_2 := (HB.out.cell (World.block_lt_of_cell? w _ hx145_2)).trans hx145_2
          replace hx145_3 := (HB.out.cell (World.block_lt_of_cell? w _ hx145_3)).trans hx145_3
          replace hx145_4 := (HB.out.cell (World.block_lt_of_cell? w _ hx145_4)).trans hx145_4
          replace p145 := eq_true p145
          replace q145 := eq_true q145
          have p146 : 0 ≤ (x5_1 : Int) := oD z3
          have q146 : x5_1 < (l0.length : Int) := oD z3
          obtain ⟨ad146, e146, hx146_0, hx146_1, hx146_2, hx146_3, hx146_4⟩ := at_T58 dX.out x5_1 p146 q146
          obtain rfl : ad145 = ad146 := (by injection e146)
          replace hx146_0 := (HB.out.cell (World.block_lt_of_cell? w _ hx146_0)).trans hx146_0
          replace hx146_1 := (HB.out.cell (World.block_lt_of_cell? w _ hx146_1)).trans hx146_1
          replace hx146_2 := (HB.out.cell (World.block_lt_of_cell? w _ hx146_2)).trans hx146_2
          replace hx146_3 := (HB.out.cell (World.block_lt_of_cell? w _ hx146_3)).trans hx146_3
          replace hx146_4 := (HB.out.cell (World.block_lt_of_cell? w _ hx146_4)).trans hx146_4
          replace p146 := eq_true p146
          replace q146 := eq_true q146
          try go_wp2
          have ba := aM (bD HB.out)
          clear HB
          have HB := ba
          clear ba
          have p147 : 0 ≤ (x5_1 : Int) := oD z3
          have q147 : x5_1 < (l0.length : Int) := oD z3
          obtain ⟨ad147, e147, hx147_0, hx147_1, hx147_2, hx147_3, hx147_4⟩ := at_T58 dX.out x5_1 p147 q147
          have hw147_4 := hx147_4
          have hw147_3 := hx147_3
          have hw147_2 := hx147_2
          have hw147_1 := hx147_1
          have hw147_0 := hx147_0
          obtain rfl : ad145 = ad147 := (by injection e147)
          replace hx147_0 := (HB.out.cell (World.block_lt_of_cell? w _ hx147_0)).trans hx147_0
          replace hx147_1 := (HB.out.cell (World.block_lt_of_cell? w _ hx147_1)).trans hx147_1
          replace hx147_2 := (HB.out.cell (World.block_lt_of_cell? w _ hx147_2)).trans hx147_2
          replace hx147_3 := (HB.out.cell (World.block_lt_of_cell? w _ hx147_3)).trans hx147_3
          replace hx147_4 := (HB.out.cell (World.block_lt_of_cell? w _ hx147_4)).trans hx147_4
          replace p147 := eq_true p147
          replace q147 := eq_true q147
          refine start_ (n := 8) (S := fun w' => w'.cell? (ad145.add ((x5_1).toNat * 5)) = some (.int .i64 ((rd_T58 l0 x5_1).f0)) ∧ w'.cell? ⟨(ad145.add ((x5_1).toNat * 5)).block, (ad145.add ((x5_1).toNat * 5)).off + 1, none⟩ = some (.int .i64 ((rd_T58 l0 x5_1).f1)) ∧ w'.cell? ⟨(ad145.add ((x5_1).toNat * 5)).block, (ad145.add ((x5_1).toNat * 5)).off + 2, none⟩ = some (.string ((rd_T58 l0 x5_1).f2)) ∧ w'.cell? ⟨(ad145.add ((x5_1).toNat * 5)).block, (ad145.add ((x5_1).toNat * 5)).off + 3, none⟩ = some (.int .i64 ((rd_T58 l0 x5_1).f3)) ∧ w'.cell? ⟨(ad145.add ((x5_1).toNat * 5)).block, (ad145.add ((x5_1).toNat * 5)).off + 4, none⟩ = some (.int .i64 ((rd_T58 l0 x5_1).f4))) (ds := []) #[false, false, false, false, false, false, false, false] z1 rfl rfl ⟨((HB.out.cell (World.block_lt_of_cell? w _ hw147_0)).trans hw147_0), ((HB.out.cell (World.block_lt_of_cell? w _ hw147_1)).trans hw147_1), ((HB.out.cell (World.block_lt_of_cell? w _ hw147_2)).trans hw147_2), ((HB.out.cell (World.block_lt_of_cell? w _ hw147_3)).trans hw147_3), ((HB.out.cell (World.block_lt_of_cell? w _ hw147_4)).trans hw147_4)⟩ (fun hHeld => ?_); refine with_tabW laws_heldBoughS.tab10 laws_heldBoughS.bits10 (fun HT_ HW_ => ?_)
          generalize wr.drew = w11 at HB hx147_0 hx147_1 hx147_2 hx147_3 hx147_4 hHeld ⊢
          refine pA 0 30 ?_
          refine pA 1 31 ?_
          refine pA 2 32 ?_
          refine pA 3 33 ?_
          refine pA 5 35 ?_
          refine tA 4 34 ?_ (hy := by rintro w' ⟨s0, s1, s2, s3, s4⟩; go_simp; with_reducible rfl)
          refine one_ (i := 6) (N := some 36) #[true, true, true, true, true, true, true, false] rfl rfl (one_of HT_.out z1) z0 (fun K hK => ?_)
          refine goes_ Try.func67 z1 rfl #[.int .i64 (wrap64 ((wrap64 (x1_1 + 1)) + 1))] (by rfl) rfl rfl z25 ?_
          with_reducible refine (laws_markText.calls k1 (wrap64 ((wrap64 (x1_1 + 1)) + 1)) iT _ A7.out).mono ?_
          rintro e w12 ⟨rfl, hb⟩
          refine ⟨_, rfl, ?_⟩
          have ba := aM (ay z23 hb)
          clear HB
          have HB := ba
          clear ba
          (try clear hb)
          (try clear hb2)
          (try clear hk)
          (try clear hi)
          refine hK.out _ _ ⟨((HB.out.cell (World.block_lt_of_cell? w _ hw147_0)).trans hw147_0), ((HB.out.cell (World.block_lt_of_cell? w _ hw147_1)).trans hw147_1), ((HB.out.cell (World.block_lt_of_cell? w _ hw147_2)).trans hw147_2), ((HB.out.cell (World.block_lt_of_cell? w _ hw147_3)).trans hw147_3), ((HB.out.cell (World.block_lt_of_cell? w _ hw147_4)).trans hw147_4)⟩ (fun hHeld => ?_)
          clear hK K
          refine norm_ (a' := ?_) ?_ ?_
          rotate_left
          ·show Act.put _ (some 36) _ = _
           simp only [Act.put, sA, sB, sC, i64_w, i32_w]
           rfl
          refine pA 7 37 ?_
          refine done_ (done_of HT_.out z1) ?_
          have p149 : 0 ≤ (x5_1 : Int) := oD z3
          have q149 : x5_1 < (l0.length : Int) := oD z3
          obtain ⟨ad149, e149, hx149_0, hx149_1, hx149_2, hx149_3, hx149_4⟩ := at_T58 dX.out x5_1 p149 q149
          obtain rfl : ad145 = ad149 := (by injection e149)
          replace hx149_0 := (HB.out.cell (World.block_lt_of_cell? w _ hx149_0)).trans hx149_0
          replace hx149_1 := (HB.out.cell (World.block_lt_of_cell? w _ hx149_1)).trans hx149_1
          replace hx149_2 := (HB.out.cell (World.block_lt_of_cell? w _ hx149_2)).trans hx149_2
          replace hx149_3 := (HB.out.cell (World.block_lt_of_cell? w _ hx149_3)).trans hx149_3
          replace hx149_4 := (HB.out.cell (World.block_lt_of_cell? w _ hx149_4)).trans hx149_4
          replace p149 := eq_true p149
          replace q149 := eq_true q149
          have p150 : 0 ≤ (x5_1 : Int) := oD z3
          have q150 : x5_1 < (l0.length : Int) := oD z3
          obtain ⟨ad150, e150, hx150_0, hx150_1, hx150_2, hx150_3, hx150_4⟩ := at_T58 dX.out x5_1 p150 q150
          obtain rfl : ad145 = ad150 := (by injection e150)
          replace hx150_0 := (HB.out.cell (World.block_lt_of_cell? w _ hx150_0)).trans hx150_0
          replace hx150_1 := (HB.out.cell (World.block_lt_of_cell? w _ hx150_1)).trans hx150_1
          replace hx150_2 := (HB.out.cell (World.block_lt_of_cell? w _ hx150_2)).trans hx150_2
          replace hx150_3 := (HB.out.cell (World.block_lt_of_cell? w _ hx150_3)).trans hx150_3
          replace hx150_4 := (HB.out.cell (World.block_lt_of_cell? w _ hx150_4)).trans hx150_4
          replace p150 := eq_true p150
          replace q150 := eq_true q150
          try go_wp2
          go_roundg k1
          case measure => have := HK1.out; omega
          case rel => exact ⟨(wrap64 ((wrap64 ((wrap64 ((wrap64 ((wrap64 (x1_1 + 1)) + 1)) + 1)) + 1)) + 1)), (wrap64 (x5_1 + 1)), z2, z2, H', ⟨by have := HK1.out; omega⟩, ⟨y3⟩⟩
         ·rw [if_neg eK] at H
          have c10b0 : (((rd_T58 l0 x5_1).f4) == (wrap64 ((wrap64 ((wrap64 ((wrap64 (x1_1 + 1)) + 1)) + 1)) + 1))) = false := qF eK
          have c10b1 : (((rd_T58 l0 x5_1).f4) != (wrap64 ((wrap64 ((wrap64 ((wrap64 (x1_1 + 1)) + 1)) + 1)) + 1))) = true := nT eK
          obtain rfl := sI H
          have p145 : 0 ≤ (x5_1 : Int) := oD z3
          have q145 : x5_1 < (l0.length : Int) := oD z3
          obtain ⟨ad145, e145, hx145_0, hx145_1, hx145_2, hx145_3, hx145_4⟩ := at_T58 dX.out x5_1 p145 q145
          cases e145
          replace hx145_0 := (HB.out.cell (World.block_lt_of_cell? w _ hx145_0)).trans hx145_0
          replace hx145_1 := (HB.out.cell (World.block_lt_of_cell? w _ hx145_1)).trans hx145_1
          replace hx145_2 := (HB.out.cell (World.block_lt_of_cell? w _ hx145_2)).trans hx145_2
          replace hx145_3 := (HB.out.cell (World.block_lt_of_cell? w _ hx145_3)).trans hx145_3
          replace hx145_4 := (HB.out.cell (World.block_lt_of_cell? w _ hx145_4)).trans hx145_4
          replace p145 := eq_true p145
          replace q145 := eq_true q145
          have p146 : 0 ≤ (x5_1 : Int) := oD z3
          have q146 : x5_1 < (l0.length : Int) := oD z3
          obtain ⟨ad146, e146, hx146_0, hx146_1, hx146_2, hx146_3, hx146_4⟩ := at_T58 dX.out x5_1 p146 q146
          obtain rfl : ad145 = ad146 := (by injection e146)
          replace hx146_0 := (HB.out.cell (World.block_lt_of_cell? w _ hx146_0)).trans hx146_0
          replace hx146_1 := (HB.out.cell (World.block_lt_of_cell? w _ hx146_1)).trans hx146_1
          replace hx146_2 := (HB.out.cell (World.block_lt_of_cell? w _ hx146_2)).trans hx146_2
          replace hx146_3 := (HB.out.cell (World.block_lt_of_cell? w _ hx146_3)).trans hx146_3
          replace hx146_4 := (HB.out.cell (World.block_lt_of_cell? w _ hx146_4)).trans hx146_4
          replace p146 := eq_true p146
          replace q146 := eq_true q146
          try go_wp2
          have ba := aM (bD HB.out)
          clear HB
          have HB := ba
          clear ba
          have p147 : 0 ≤ (x5_1 : Int) := oD z3
          have q147 : x5_1 < (l0.length : Int) := oD z3
          obtain ⟨ad147, e147, hx147_0, hx147_1, hx147_2, hx147_3, hx147_4⟩ := at_T58 dX.out x5_1 p147 q147
          have hw147_4 := hx147_4
          have hw147_3 := hx147_3
          have hw147_2 := hx147_2
          have hw147_1 := hx147_1
          have hw147_0 := hx147_0
          obtain rfl : ad145 = ad147 := (by injection e147)
          replace hx147_0 := (HB.out.cell (World.block_lt_of_cell? w _ hx147_0)).trans hx147_0
          replace hx147_1 := (HB.out.cell (World.block_lt_of_cell? w _ hx147_1)).trans hx147_1
          replace hx147_2 := (HB.out.cell (World.block_lt_of_cell? w _ hx147_2)).trans hx147_2
          replace hx147_3 := (HB.out.cell (World.block_lt_of_cell? w _ hx147_3)).trans hx147_3
          replace hx147_4 := (HB.out.cell (World.block_lt_of_cell? w _ hx147_4)).trans hx147_4
          replace p147 := eq_true p147
          replace q147 := eq_true q147
          refine start_ (n := 8) (S := fun w' => w'.cell? (ad145.add ((x5_1).toNat * 5)) = some (.int .i64 ((rd_T58 l0 x5_1).f0)) ∧ w'.cell? ⟨(ad145.add ((x5_1).toNat * 5)).block, (ad145.add ((x5_1).toNat * 5)).off + 1, none⟩ = some (.int .i64 ((rd_T58 l0 x5_1).f1)) ∧ w'.cell? ⟨(ad145.add ((x5_1).toNat * 5)).block, (ad145.add ((x5_1).toNat * 5)).off + 2, none⟩ = some (.string ((rd_T58 l0 x5_1).f2)) ∧ w'.cell? ⟨(ad145.add ((x5_1).toNat * 5)).block, (ad145.add ((x5_1).toNat * 5)).off + 3, none⟩ = some (.int .i64 ((rd_T58 l0 x5_1).f3)) ∧ w'.cell? ⟨(ad145.add ((x5_1).toNat * 5)).block, (ad145.add ((x5_1).toNat * 5)).off + 4, none⟩ = some (.int .i64 ((rd_T58 l0 x5_1).f4))) (ds := []) #[false, false, false, false, false, false, false, false] z1 rfl rfl ⟨((HB.out.cell (World.block_lt_of_cell? w _ hw147_0)).trans hw147_0), ((HB.out.cell (World.block_lt_of_cell? w _ hw147_1)).trans hw147_1), ((HB.out.cell (World.block_lt_of_cell? w _ hw147_2)).trans hw147_2), ((HB.out.cell (World.block_lt_of_cell? w _ hw147_3)).trans hw147_3), ((HB.out.cell (World.block_lt_of_cell? w _ hw147_4)).trans hw147_4)⟩ (fun hHeld => ?_); refine with_tabW laws_heldBoughS.tab10 laws_heldBoughS.bits10 (fun HT_ HW_ => ?_)
          generalize wr.drew = w13 at HB hx147_0 hx147_1 hx147_2 hx147_3 hx147_4 hHeld ⊢
          refine pA 0 30 ?_
          refine pA 1 31 ?_
          refine pA 2 32 ?_
          refine pA 3 33 ?_
          refine pA 5 35 ?_
          refine tA 4 34 ?_ (hy := by rintro w' ⟨s0, s1, s2, s3, s4⟩; go_simp; with_reducible rfl)
          refine one_ (i := 6) (N := some 36) #[true, true, true, true, true, true, true, false] rfl rfl (one_of HT_.out z1) z0 (fun K hK => ?_)
          refine goes_ Try.func67 z1 rfl #[.int .i64 (wrap64 ((wrap64 (x1_1 + 1)) + 1))] (by rfl) rfl rfl z25 ?_
          with_reducible refine (laws_markText.calls k1 (wrap64 ((wrap64 (x1_1 + 1)) + 1)) iT _ A7.out).mono ?_
          rintro e w14 ⟨rfl, hb⟩
          refine ⟨_, rfl, ?_⟩
          have ba := aM (ay z23 hb)
          clear HB
          have HB := ba
          clear ba
          (try clear hb)
          (try clear hb2)
          (try clear hk)
          (try clear hi)
          refine hK.out _ _ ⟨((HB.out.cell (World.block_lt_of_cell? w _ hw147_0)).trans hw147_0), ((HB.out.cell (World.block_lt_of_cell? w _ hw147_1)).trans hw147_1), ((HB.out.cell (World.block_lt_of_cell? w _ hw147_2)).trans hw147_2), ((HB.out.cell (World.block_lt_of_cell? w _ hw147_3)).trans hw147_3), ((HB.out.cell (World.block_lt_of_cell? w _ hw147_4)).trans hw147_4)⟩ (fun hHeld => ?_)
          clear hK K
          refine norm_ (a' := ?_) ?_ ?_
          rotate_left
          ·show Act.put _ (some 36) _ = _
           simp only [Act.put, sA, sB, sC, i64_w, i32_w]
           rfl
          refine pA 7 37 ?_
          refine done_ (done_of HT_.out z1) ?_
          have p149 : 0 ≤ (x5_1 : Int) := oD z3
          have q149 : x5_1 < (l0.length : Int) := oD z3
          obtain ⟨ad149, e149, hx149_0, hx149_1, hx149_2, hx149_3, hx149_4⟩ := at_T58 dX.out x5_1 p149 q149
          obtain rfl : ad145 = ad149 := (by injection e149)
          replace hx149_0 := (HB.out.cell (World.block_lt_of_cell? w _ hx149_0)).trans hx149_0
          replace hx149_1 := (HB.out.cell (World.block_lt_of_cell? w _ hx149_1)).trans hx149_1
          replace hx149_2 := (HB.out.cell (World.block_lt_of_cell? w _ hx149_2)).trans hx149_2
          replace hx149_3 := (HB.out.cell (World.block_lt_of_cell? w _ hx149_3)).trans hx149_3
          replace hx149_4 := (HB.out.cell (World.block_lt_of_cell? w _ hx149_4)).trans hx149_4
          replace p149 := eq_true p149
          replace q149 := eq_true q149
          have p150 : 0 ≤ (x5_1 : Int) := oD z3
          have q150 : x5_1 < (l0.length : Int) := oD z3
          obtain ⟨ad150, e150, hx150_0, hx150_1, hx150_2, hx150_3, hx150_4⟩ := at_T58 dX.out x5_1 p150 q150
          obtain rfl : ad145 = ad150 := (by injection e150)
          replace hx150_0 := (HB.out.cell (World.block_lt_of_cell? w _ hx150_0)).trans hx150_0
          replace hx150_1 := (HB.out.cell (World.block_lt_of_cell? w _ hx150_1)).trans hx150_1
          replace hx150_2 := (HB.out.cell (World.block_lt_of_cell? w _ hx150_2)).trans hx150_2
          replace hx150_3 := (HB.out.cell (World.block_lt_of_cell? w _ hx150_3)).trans hx150_3
          replace hx150_4 := (HB.out.cell (World.block_lt_of_cell? w _ hx150_4)).trans hx150_4
          replace p150 := eq_true p150
          replace q150 := eq_true q150
          try go_wp2
          go_ret
          exact ⟨y2, y3⟩
        ·rw [if_neg c9] at H
         have c9b0 : (((rd_T58 l0 x5_1).f3) == (wrap64 ((wrap64 ((wrap64 (x1_1 + 1)) + 1)) + 1))) = false := qF c9
         have c9b1 : (((rd_T58 l0 x5_1).f3) != (wrap64 ((wrap64 ((wrap64 (x1_1 + 1)) + 1)) + 1))) = true := nT c9
         obtain rfl := sI H
         have p145 : 0 ≤ (x5_1 : Int) := oD z3
         have q145 : x5_1 < (l0.length : Int) := oD z3
         obtain ⟨ad145, e145, hx145_0, hx145_1, hx145_2, hx145_3, hx145_4⟩ := at_T58 dX.out x5_1 p145 q145
         cases e145
         replace hx145_0 := (HB.out.cell (World.block_lt_of_cell? w _ hx145_0)).trans hx145_0
         replace hx145_1 := (HB.out.cell (World.block_lt_of_cell? w _ hx145_1)).trans hx145_1
         replace hx145_2 := (HB.out.cell (World.block_lt_of_cell? w _ hx145_2)).trans hx145_2
         replace hx145_3 := (HB.out.cell (World.block_lt_of_cell? w _ hx145_3)).trans hx145_3
         replace hx145_4 := (HB.out.cell (World.block_lt_of_cell? w _ hx145_4)).trans hx145_4
         replace p145 := eq_true p145
         replace q145 := eq_true q145
         have p146 : 0 ≤ (x5_1 : Int) := oD z3
         have q146 : x5_1 < (l0.length : Int) := oD z3
         obtain ⟨ad146, e146, hx146_0, hx146_1, hx146_2, hx146_3, hx146_4⟩ := at_T58 dX.out x5_1 p146 q146
         obtain rfl : ad145 = ad146 := (by injection e146)
         replace hx146_0 := (HB.out.cell (World.block_lt_of_cell? w _ hx146_0)).trans hx146_0
         replace hx146_1 := (HB.out.cell (World.block_lt_of_cell? w _ hx146_1)).trans hx146_1
         replace hx146_2 := (HB.out.cell (World.block_lt_of_cell? w _ hx146_2)).trans hx146_2
         replace hx146_3 := (HB.out.cell (World.block_lt_of_cell? w _ hx146_3)).trans hx146_3
         replace hx146_4 := (HB.out.cell (World.block_lt_of_cell? w _ hx146_4)).trans hx146_4
         replace p146 := eq_true p146
         replace q146 := eq_true q146
         try go_wp2
         have ba := aM (bD HB.out)
         clear HB
         have HB := ba
         clear ba
         have p147 : 0 ≤ (x5_1 : Int) := oD z3
         have q147 : x5_1 < (l0.length : Int) := oD z3
         obtain ⟨ad147, e147, hx147_0, hx147_1, hx147_2, hx147_3, hx147_4⟩ := at_T58 dX.out x5_1 p147 q147
         have hw147_4 := hx147_4
         have hw147_3 := hx147_3
         have hw147_2 := hx147_2
         have hw147_1 := hx147_1
         have hw147_0 := hx147_0
         obtain rfl : ad145 = ad147 := (by injection e147)
         replace hx147_0 := (HB.out.cell (World.block_lt_of_cell? w _ hx147_0)).trans hx147_0
         replace hx147_1 := (HB.out.cell (World.block_lt_of_cell? w _ hx147_1)).trans hx147_1
         replace hx147_2 := (HB.out.cell (World.block_lt_of_cell? w _ hx147_2)).trans hx147_2
         replace hx147_3 := (HB.out.cell (World.block_lt_of_cell? w _ hx147_3)).trans hx147_3
         replace hx147_4 := (HB.out.cell (World.block_lt_of_cell? w _ hx147_4)).trans hx147_4
         replace p147 := eq_true p147
         replace q147 := eq_true q147
         refine start_ (n := 8) (S := fun w' => w'.cell? (ad145.add ((x5_1).toNat * 5)) = some (.int .i64 ((rd_T58 l0 x5_1).f0)) ∧ w'.cell? ⟨(ad145.add ((x5_1).toNat * 5)).block, (ad145.add ((x5_1).toNat * 5)).off + 1, none⟩ = some (.int .i64 ((rd_T58 l0 x5_1).f1)) ∧ w'.cell? ⟨(ad145.add ((x5_1).toNat * 5)).block, (ad145.add ((x5_1).toNat * 5)).off + 2, none⟩ = some (.string ((rd_T58 l0 x5_1).f2)) ∧ w'.cell? ⟨(ad145.add ((x5_1).toNat * 5)).block, (ad145.add ((x5_1).toNat * 5)).off + 3, none⟩ = some (.int .i64 ((rd_T58 l0 x5_1).f3)) ∧ w'.cell? ⟨(ad145.add ((x5_1).toNat * 5)).block, (ad145.add ((x5_1).toNat * 5)).off + 4, none⟩ = some (.int .i64 ((rd_T58 l0 x5_1).f4))) (ds := []) #[false, false, false, false, false, false, false, false] z1 rfl rfl ⟨((HB.out.cell (World.block_lt_of_cell? w _ hw147_0)).trans hw147_0), ((HB.out.cell (World.block_lt_of_cell? w _ hw147_1)).trans hw147_1), ((HB.out.cell (World.block_lt_of_cell? w _ hw147_2)).trans hw147_2), ((HB.out.cell (World.block_lt_of_cell? w _ hw147_3)).trans hw147_3), ((HB.out.cell (World.block_lt_of_cell? w _ hw147_4)).trans hw147_4)⟩ (fun hHeld => ?_); refine with_tabW laws_heldBoughS.tab10 laws_heldBoughS.bits10 (fun HT_ HW_ => ?_)
         generalize wr.drew = w15 at HB hx147_0 hx147_1 hx147_2 hx147_3 hx147_4 hHeld ⊢
         refine pA 0 30 ?_
         refine pA 1 31 ?_
         refine pA 2 32 ?_
         refine pA 3 33 ?_
         refine pA 5 35 ?_
         refine tA 4 34 ?_ (hy := by rintro w' ⟨s0, s1, s2, s3, s4⟩; go_simp; with_reducible rfl)
         refine one_ (i := 6) (N := some 36) #[true, true, true, true, true, true, true, false] rfl rfl (one_of HT_.out z1) z0 (fun K hK => ?_)
         refine goes_ Try.func67 z1 rfl #[.int .i64 (wrap64 ((wrap64 (x1_1 + 1)) + 1))] (by rfl) rfl rfl z25 ?_
         with_reducible refine (laws_markText.calls k1 (wrap64 ((wrap64 (x1_1 + 1)) + 1)) iT _ A7.out).mono ?_
         rintro e w16 ⟨rfl, hb⟩
         refine ⟨_, rfl, ?_⟩
         have ba := aM (ay z23 hb)
         clear HB
         have HB := ba
         clear ba
         (try clear hb)
         (try clear hb2)
         (try clear hk)
         (try clear hi)
         refine hK.out _ _ ⟨((HB.out.cell (World.block_lt_of_cell? w _ hw147_0)).trans hw147_0), ((HB.out.cell (World.block_lt_of_cell? w _ hw147_1)).trans hw147_1), ((HB.out.cell (World.block_lt_of_cell? w _ hw147_2)).trans hw147_2), ((HB.out.cell (World.block_lt_of_cell? w _ hw147_3)).trans hw147_3), ((HB.out.cell (World.block_lt_of_cell? w _ hw147_4)).trans hw147_4)⟩ (fun hHeld => ?_)
         clear hK K
         refine norm_ (a' := ?_) ?_ ?_
         rotate_left
         ·show Act.put _ (some 36) _ = _
          simp only [Act.put, sA, sB, sC, i64_w, i32_w]
          rfl
         refine pA 7 37 ?_
         refine done_ (done_of HT_.out z1) ?_
         have p149 : 0 ≤ (x5_1 : Int) := oD z3
         have q149 : x5_1 < (l0.length : Int) := oD z3
         obtain ⟨ad149, e149, hx149_0, hx149_1, hx149_2, hx149_3, hx149_4⟩ := at_T58 dX.out x5_1 p149 q149
         obtain rfl : ad145 = ad149 := (by injection e149)
         replace hx149_0 := (HB.out.cell (World.block_lt_of_cell? w _ hx149_0)).trans hx149_0
         replace hx149_1 := (HB.out.cell (World.block_lt_of_cell? w _ hx149_1)).trans hx149_1
         replace hx149_2 := (HB.out.cell (World.block_lt_of_cell? w _ hx149_2)).trans hx149_2
         replace hx149_3 := (HB.out.cell (World.block_lt_of_cell? w _ hx149_3)).trans hx149_3
         replace hx149_4 := (HB.out.cell (World.block_lt_of_cell? w _ hx149_4)).trans hx149_4
         replace p149 := eq_true p149
         replace q149 := eq_true q149
         try go_wp2
         go_ret
         exact ⟨y2, y3⟩
       ·rw [if_neg c8] at H
        have c8b0 : (((rd_T58 l0 x5_1).f2).toList == iT.toList) = false := qF c8
        have c8b1 : (((rd_T58 l0 x5_1).f2).toList != iT.toList) = true := nT c8
        obtain rfl := sI H
        have p145 : 0 ≤ (x5_1 : Int) := oD z3
        have q145 : x5_1 < (l0.length : Int) := oD z3
        obtain ⟨ad145, e145, hx145_0, hx145_1, hx145_2, hx145_3, hx145_4⟩ := at_T58 dX.out x5_1 p145 q145
        cases e145
        replace hx145_0 := (HB.out.cell (World.block_lt_of_cell? w _ hx145_0)).trans hx145_0
        replace hx145_1 := (HB.out.cell (World.block_lt_of_cell? w _ hx145_1)).trans hx145_1
        replace hx145_2 := (HB.out.cell (World.block_lt_of_cell? w _ hx145_2)).trans hx145_2
        replace hx145_3 := (HB.out.cell (World.block_lt_of_cell? w _ hx145_3)).trans hx145_3
        replace hx145_4 := (HB.out.cell (World.block_lt_of_cell? w _ hx145_4)).trans hx145_4
        replace p145 := eq_true p145
        replace q145 := eq_true q145
        have p146 : 0 ≤ (x5_1 : Int) := oD z3
        have q146 : x5_1 < (l0.length : Int) := oD z3
        obtain ⟨ad146, e146, hx146_0, hx146_1, hx146_2, hx146_3, hx146_4⟩ := at_T58 dX.out x5_1 p146 q146
        obtain rfl : ad145 = ad146 := (by injection e146)
        replace hx146_0 := (HB.out.cell (World.block_lt_of_cell? w _ hx146_0)).trans hx146_0
        replace hx146_1 := (HB.out.cell (World.block_lt_of_cell? w _ hx146_1)).trans hx146_1
        replace hx146_2 := (HB.out.cell (World.block_lt_of_cell? w _ hx146_2)).trans hx146_2
        replace hx146_3 := (HB.out.cell (World.block_lt_of_cell? w _ hx146_3)).trans hx146_3
        replace hx146_4 := (HB.out.cell (World.block_lt_of_cell? w _ hx146_4)).trans hx146_4
        replace p146 := eq_true p146
        replace q146 := eq_true q146
        try go_wp2
        have ba := aM (bD HB.out)
        clear HB
        have HB := ba
        clear ba
        have p147 : 0 ≤ (x5_1 : Int) := oD z3
        have q147 : x5_1 < (l0.length : Int) := oD z3
        obtain ⟨ad147, e147, hx147_0, hx147_1, hx147_2, hx147_3, hx147_4⟩ := at_T58 dX.out x5_1 p147 q147
        have hw147_4 := hx147_4
        have hw147_3 := hx147_3
        have hw147_2 := hx147_2
        have hw147_1 := hx147_1
        have hw147_0 := hx147_0
        obtain rfl : ad145 = ad147 := (by injection e147)
        replace hx147_0 := (HB.out.cell (World.block_lt_of_cell? w _ hx147_0)).trans hx147_0
        replace hx147_1 := (HB.out.cell (World.block_lt_of_cell? w _ hx147_1)).trans hx147_1
        replace hx147_2 := (HB.out.cell (World.block_lt_of_cell? w _ hx147_2)).trans hx147_2
        replace hx147_3 := (HB.out.cell (World.block_lt_of_cell? w _ hx147_3)).trans hx147_3
        replace hx147_4 := (HB.out.cell (World.block_lt_of_cell? w _ hx147_4)).trans hx147_4
        replace p147 := eq_true p147
        replace q147 := eq_true q147
        refine start_ (n := 8) (S := fun w' => w'.cell? (ad145.add ((x5_1).toNat * 5)) = some (.int .i64 ((rd_T58 l0 x5_1).f0)) ∧ w'.cell? ⟨(ad145.add ((x5_1).toNat * 5)).block, (ad145.add ((x5_1).toNat * 5)).off + 1, none⟩ = some (.int .i64 ((rd_T58 l0 x5_1).f1)) ∧ w'.cell? ⟨(ad145.add ((x5_1).toNat * 5)).block, (ad145.add ((x5_1).toNat * 5)).off + 2, none⟩ = some (.string ((rd_T58 l0 x5_1).f2)) ∧ w'.cell? ⟨(ad145.add ((x5_1).toNat * 5)).block, (ad145.add ((x5_1).toNat * 5)).off + 3, none⟩ = some (.int .i64 ((rd_T58 l0 x5_1).f3)) ∧ w'.cell? ⟨(ad145.add ((x5_1).toNat * 5)).block, (ad145.add ((x5_1).toNat * 5)).off + 4, none⟩ = some (.int .i64 ((rd_T58 l0 x5_1).f4))) (ds := []) #[false, false, false, false, false, false, false, false] z1 rfl rfl ⟨((HB.out.cell (World.block_lt_of_cell? w _ hw147_0)).trans hw147_0), ((HB.out.cell (World.block_lt_of_cell? w _ hw147_1)).trans hw147_1), ((HB.out.cell (World.block_lt_of_cell? w _ hw147_2)).trans hw147_2), ((HB.out.cell (World.block_lt_of_cell? w _ hw147_3)).trans hw147_3), ((HB.out.cell (World.block_lt_of_cell? w _ hw147_4)).trans hw147_4)⟩ (fun hHeld => ?_); refine with_tabW laws_heldBoughS.tab10 laws_heldBoughS.bits10 (fun HT_ HW_ => ?_)
        generalize wr.drew = w17 at HB hx147_0 hx147_1 hx147_2 hx147_3 hx147_4 hHeld ⊢
        refine pA 0 30 ?_
        refine pA 1 31 ?_
        refine pA 2 32 ?_
        refine pA 3 33 ?_
        refine pA 5 35 ?_
        refine tA 4 34 ?_ (hy := by rintro w' ⟨s0, s1, s2, s3, s4⟩; go_simp; with_reducible rfl)
        refine one_ (i := 6) (N := some 36) #[true, true, true, true, true, true, true, false] rfl rfl (one_of HT_.out z1) z0 (fun K hK => ?_)
        refine goes_ Try.func67 z1 rfl #[.int .i64 (wrap64 ((wrap64 (x1_1 + 1)) + 1))] (by rfl) rfl rfl z25 ?_
        with_reducible refine (laws_markText.calls k1 (wrap64 ((wrap64 (x1_1 + 1)) + 1)) iT _ A7.out).mono ?_
        rintro e w18 ⟨rfl, hb⟩
        refine ⟨_, rfl, ?_⟩
        have ba := aM (ay z23 hb)
        clear HB
        have HB := ba
        clear ba
        (try clear hb)
        (try clear hb2)
        (try clear hk)
        (try clear hi)
        refine hK.out _ _ ⟨((HB.out.cell (World.block_lt_of_cell? w _ hw147_0)).trans hw147_0), ((HB.out.cell (World.block_lt_of_cell? w _ hw147_1)).trans hw147_1), ((HB.out.cell (World.block_lt_of_cell? w _ hw147_2)).trans hw147_2), ((HB.out.cell (World.block_lt_of_cell? w _ hw147_3)).trans hw147_3), ((HB.out.cell (World.block_lt_of_cell? w _ hw147_4)).trans hw147_4)⟩ (fun hHeld => ?_)
        clear hK K
        refine norm_ (a' := ?_) ?_ ?_
        rotate_left
        ·show Act.put _ (some 36) _ = _
         simp only [Act.put, sA, sB, sC, i64_w, i32_w]
         rfl
        refine pA 7 37 ?_
        refine done_ (done_of HT_.out z1) ?_
        try go_wp2
        go_ret
        exact ⟨y2, y3⟩
      ·rw [if_neg c6] at H
       have c6b0 : (((rd_T58 l0 x5_1).f1) == (wrap64 (x1_1 + 1))) = false := qF c6
       have c6b1 : (((rd_T58 l0 x5_1).f1) != (wrap64 (x1_1 + 1))) = true := nT c6
       obtain rfl := sI H
       have p145 : 0 ≤ (x5_1 : Int) := oD z3
       have q145 : x5_1 < (l0.length : Int) := oD z3
       obtain ⟨ad145, e145, hx145_0, hx145_1, hx145_2, hx145_3, hx145_4⟩ := at_T58 dX.out x5_1 p145 q145
       cases e145
       replace hx145_0 := (HB.out.cell (World.block_lt_of_cell? w _ hx145_0)).trans hx145_0
       replace hx145_1 := (HB.out.cell (World.block_lt_of_cell? w _ hx145_1)).trans hx145_1
       replace hx145_2 := (HB.out.cell (World.block_lt_of_cell? w _ hx145_2)).trans hx145_2
       replace hx145_3 := (HB.out.cell (World.block_lt_of_cell? w _ hx145_3)).trans hx145_3
       replace hx145_4 := (HB.out.cell (World.block_lt_of_cell? w _ hx145_4)).trans hx145_4
       replace p145 := eq_true p145
       replace q145 := eq_true q145
       have p146 : 0 ≤ (x5_1 : Int) := oD z3
       have q146 : x5_1 < (l0.length : Int) := oD z3
       obtain ⟨ad146, e146, hx146_0, hx146_1, hx146_2, hx146_3, hx146_4⟩ := at_T58 dX.out x5_1 p146 q146
       obtain rfl : ad145 = ad146 := (by injection e146)
       replace hx146_0 := (HB.out.cell (World.block_lt_of_cell? w _ hx146_0)).trans hx146_0
       replace hx146_1 := (HB.out.cell (World.block_lt_of_cell? w _ hx146_1)).trans hx146_1
       replace hx146_2 := (HB.out.cell (World.block_lt_of_cell? w _ hx146_2)).trans hx146_2
       replace hx146_3 := (HB.out.cell (World.block_lt_of_cell? w _ hx146_3)).trans hx146_3
       replace hx146_4 := (HB.out.cell (World.block_lt_of_cell? w _ hx146_4)).trans hx146_4
       replace p146 := eq_true p146
       replace q146 := eq_true q146
       go_wp2
       go_ret
       exact ⟨y2, y3⟩
     ·rw [if_neg c5] at H
      have c5b0 : (((rd_T58 l0 x5_1).f0) == x1_1) = false := qF c5
      have c5b1 : (((rd_T58 l0 x5_1).f0) != x1_1) = true := nT c5
      obtain rfl := sI H
      have p145 : 0 ≤ (x5_1 : Int) := oD z3
      have q145 : x5_1 < (l0.length : Int) := oD z3
      obtain ⟨ad145, e145, hx145_0, hx145_1, hx145_2, hx145_3, hx145_4⟩ := at_T58 dX.out x5_1 p145 q145
      cases e145
      replace hx145_0 := (HB.out.cell (World.block_lt_of_cell? w _ hx145_0)).trans hx145_0
      replace hx145_1 := (HB.out.cell (World.block_lt_of_cell? w _ hx145_1)).trans hx145_1
      replace hx145_2 := (HB.out.cell (World.block_lt_of_cell? w _ hx145_2)).trans hx145_2
      replace hx145_3 := (HB.out.cell (World.block_lt_of_cell? w _ hx145_3)).trans hx145_3
      replace hx145_4 := (HB.out.cell (World.block_lt_of_cell? w _ hx145_4)).trans hx145_4
      replace p145 := eq_true p145
      replace q145 := eq_true q145
      go_wp2
      go_ret
      exact ⟨y2, y3⟩
    ·rw [if_neg c4] at H
     exact absurd H (by simp)
   ·rw [if_neg c3] at H
    have c3b0 : decide (x5_1 < (l0.length : Int)) = false := dF c3
    clear c3
    obtain rfl := sI H
    go_wp2
    go_ret
    exact ⟨y2, y3⟩

/-! ### laws_heldRope: function 28 -/
def laws_heldRope.f (k : Nat) (l0_0 : List (S58)) (a1 : Int) : Option (Int) := (laws_heldBoughS.f k l0_0 a1).bind fun iS => (if iS < 0 then (some (-1)) else (some iS))
theorem laws_heldRope.mono : ∀ a0 a1 k, LeO (laws_heldRope.f k a0 a1) (laws_heldRope.f (k + 1) a0 a1) := by
 intro a0 a1 k
 unfold laws_heldRope.f
 repeat' first
   | (with_reducible exact laws_heldBoughS.mono _ _ _)
   | (with_reducible exact LeO.refl _)
   | (with_reducible exact LeO.none _)
   | (with_reducible refine LeO.ite ?_ ?_)
   | (with_reducible refine LeO.bind ?_ (fun _ => ?_))
   | exact laws_heldBoughS.mono _ _ _
   | exact LeO.none _
   | refine LeO.ite ?_ ?_
   | refine LeO.bind ?_ (fun _ => ?_)
set_option maxHeartbeats 8000000 in
set_option maxRecDepth 100000 in
theorem laws_heldRope.calls (k : Nat) (bu : Option Addr) (bx : Nat) (l0_0 : List (S58)) (a1 : Int) (r : Int) (w : World) (hr0_0 : Kd.C k58 w bu l0_0.length l0_0) (hc0_0 : l0_0.length ≤ bx) (h : laws_heldRope.f k l0_0 a1 = some r) :
  Calls Try.prog 28 #[.agg #[.slice bu l0_0.length bx], .int .i64 a1] w fun e w' => e = .returned (.int .i64 r) ∧ Below w.heap.size w w' := by
 have hu29 := Try.underlying29
 have eb := aM hr0_0
 have ee := aM hc0_0
 clear hr0_0 hc0_0
 have HB := aM (Below.refl w.heap.size w)
 have H : ((laws_heldBoughS.f k l0_0 a1).bind fun iS => (if iS < 0 then (some (-1)) else (some iS))) = some r := h
 clear h
 replace H := oB H
 obtain ⟨iS, iP, H⟩ := H
 try dsimp only at H
 have A3 := aM iP
 clear iP
 by_cases c4 : iS < 0
 ·rw [if_pos c4] at H
  have c4b0 : decide (iS < 0) = true := dT c4
  clear c4
  obtain rfl := sI H
  go_enter Try.func28, Try.ntmps28
  go_wp2_with (first | ((with_reducible refine aK (N := 2) rfl ?_); refine aN ?hg (N := 2) ?hd (cs := #[.slice bu l0_0.length bx]) (t := 29) ?hr ?_; (case hd => rfl); (case hg => rfl); (case hr => first | (go_simp; done) | (go_simp; rfl)); intro gr hg w5 hbox hb; have ba := aM (ay z23 hb); have bb := aM (hbox); have bf := aM ((by rw [hg]; exact (az z23) : w.heap.size ≤ gr)); have bk := aM ((by rw [hg]; exact (az z23) : w.heap.size ≤ gr)); clear HB; have HB := ba; have fx := bb; have GW151 := bf; have ly := bk; clear ba bb bf bk; clear hb hbox hg; have gD : w5.cell? ⟨gr, 0, none⟩ = some (.slice bu l0_0.length bx) := (bC fx.out 0).trans rfl; have gC := bF fx.out 0) | ((with_reducible refine aJ (f := 64) rfl ?_); refine aQ (some 8) rfl rfl Try.func64 z1 rfl #[.slice bu l0_0.length bx, .int .i64 a1] rfl z25 ?_; (with_reducible refine (laws_heldBoughS.calls k _ _ l0_0 a1 iS _ ?side1 ?side2 A3.out).mono ?_); (case side1 => repeat (first | exact (aD eb.out HB.out) | (with_reducible refine aE ?_ _) | (with_reducible refine aG ?_ _) | (with_reducible refine aH ?_))); (case side2 => exact ee.out); rintro e w7 ⟨rfl, hb⟩; refine ⟨_, rfl, ?_⟩; have ba := aM (ae (g := gr) (o := .cells #[.slice bu l0_0.length bx] 29 (0, 0)) (by (with_reducible repeat (first | refine aq ?_ _ | refine ap ?_ | refine ar ?_ _)); exact fx.out) hb); have bb := aM (ay (by repeat (first | (with_reducible first | exact HB.out | apply bA | apply pD | apply bD | refine ax ?_ ly.out) | exact HB.out)) hb); clear fx; clear HB; have fx := ba; have HB := bb; clear ba bb; (try clear hb); (try clear hb2); (try clear hk); (try clear hi)))
  go_ret
  exact ⟨y2, by repeat (first | (with_reducible first | exact HB.out | apply bA | apply pD | apply bD | refine ax ?_ ly.out) | exact HB.out)⟩
 ·rw [if_neg c4] at H
  have c4b0 : decide (iS < 0) = false := dF c4
  clear c4
  obtain rfl := sI H
  go_enter Try.func28, Try.ntmps28
  go_wp2_with (first | ((with_reducible refine aK (N := 2) rfl ?_); refine aN ?hg (N := 2) ?hd (cs := #[.slice bu l0_0.length bx]) (t := 29) ?hr ?_; (case hd => rfl); (case hg => rfl); (case hr => first | (go_simp; done) | (go_simp; rfl)); intro gr hg w8 hbox hb; have ba := aM (ay z23 hb); have bb := aM (hbox); have bf := aM ((by rw [hg]; exact (az z23) : w.heap.size ≤ gr)); have bk := aM ((by rw [hg]; exact (az z23) : w.heap.size ≤ gr)); clear HB; have HB := ba; have fx := bb; have GW151 := bf; have ly := bk; clear ba bb bf bk; clear hb hbox hg; have fX : w8.cell? ⟨gr, 0, none⟩ = some (.slice bu l0_0.length bx) := (bC fx.out 0).trans rfl; have fR := bF fx.out 0) | ((with_reducible refine aJ (f := 64) rfl ?_); refine aQ (some 8) rfl rfl Try.func64 z1 rfl #[.slice bu l0_0.length bx, .int .i64 a1] rfl z25 ?_; (with_reducible refine (laws_heldBoughS.calls k _ _ l0_0 a1 iS _ ?side1 ?side2 A3.out).mono ?_); (case side1 => repeat (first | exact (aD eb.out HB.out) | (with_reducible refine aE ?_ _) | (with_reducible refine aG ?_ _) | (with_reducible refine aH ?_))); (case side2 => exact ee.out); rintro e w10 ⟨rfl, hb⟩; refine ⟨_, rfl, ?_⟩; have ba := aM (ae (g := gr) (o := .cells #[.slice bu l0_0.length bx] 29 (0, 0)) (by (with_reducible repeat (first | refine aq ?_ _ | refine ap ?_ | refine ar ?_ _)); exact fx.out) hb); have bb := aM (ay (by repeat (first | (with_reducible first | exact HB.out | apply bA | apply pD | apply bD | refine ax ?_ ly.out) | exact HB.out)) hb); clear fx; clear HB; have fx := ba; have HB := bb; clear ba bb; (try clear hb); (try clear hb2); (try clear hk); (try clear hi)))
  go_ret
  exact ⟨y2, by repeat (first | (with_reducible first | exact HB.out | apply bA | apply pD | apply bD | refine ax ?_ ly.out) | exact HB.out)⟩

/-! ### spec_l1In: function 50 -/
def spec_l1In.f (a0 : Int) (a1 : Int) (a2 : Int) : Option (Bool) := if a0 ≥ a1 then (some (decide (a0 ≤ a2))) else (some false)
set_option maxHeartbeats 8000000 in
set_option maxRecDepth 100000 in
theorem spec_l1In.calls (a0 : Int) (a1 : Int) (a2 : Int) (r : Bool) (w : World) (h : spec_l1In.f a0 a1 a2 = some r) :
  Calls Try.prog 50 #[.int .i64 a0, .int .i64 a1, .int .i64 a2] w fun e w' => e = .returned (.bool r) ∧ Drawn0 w w' := by
 have H : (if a0 ≥ a1 then (some (decide (a0 ≤ a2))) else (some false)) = some r := h
 clear h
 by_cases c4 : a0 ≥ a1
 ·rw [if_pos c4] at H
  have c4b0 : decide (a1 ≤ a0) = true := dT c4
  clear c4
  obtain rfl := sI H
  go_enter Try.func50, Try.ntmps50
  go_wp2
  go_ret
  exact ⟨y0, y1⟩
 ·rw [if_neg c4] at H
  have c4b0 : decide (a1 ≤ a0) = false := dF c4
  clear c4
  obtain rfl := sI H
  go_enter Try.func50, Try.ntmps50
  go_wp2
  go_ret
  exact ⟨y0, y1⟩

/-! ### spec_l1Open: function 93 -/
def spec_l1Open.f (a0 : Int) : Option (Bool) := if a0 ≥ 65 then (some (decide (a0 ≤ 70))) else (some false)
set_option maxHeartbeats 8000000 in
set_option maxRecDepth 100000 in
theorem spec_l1Open.calls (a0 : Int) (r : Bool) (w : World) (h : spec_l1Open.f a0 = some r) :
  Calls Try.prog 93 #[.int .u8 a0] w fun e w' => e = .returned (.bool r) ∧ Drawn0 w w' := by
 have H : (if a0 ≥ 65 then (some (decide (a0 ≤ 70))) else (some false)) = some r := h
 clear h
 by_cases c2 : a0 ≥ 65
 ·rw [if_pos c2] at H
  have c2b0 : decide (65 ≤ a0) = true := dT c2
  clear c2
  obtain rfl := sI H
  go_enter Try.func93, Try.ntmps93
  go_wp2
  go_ret
  exact ⟨y0, y1⟩
 ·rw [if_neg c2] at H
  have c2b0 : decide (65 ≤ a0) = false := dF c2
  clear c2
  obtain rfl := sI H
  go_enter Try.func93, Try.ntmps93
  go_wp2
  go_ret
  exact ⟨y0, y1⟩

end Go.Proofs.Ytmkenlejdaphnaa.AFnExactSplitRope
