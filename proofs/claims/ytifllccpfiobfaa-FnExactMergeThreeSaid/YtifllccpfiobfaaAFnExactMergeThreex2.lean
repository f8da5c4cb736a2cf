-- this session's own text: written by wip/tools/ownprint.py over the kit's print
import Derived.Test.YtifllccpfiobfaaAFnExactMergeThreex0
namespace Go.Proofs.Ytifllccpfiobfaa.AFnExactMergeThree
open Go.RowKit Go.Proofs.YtifllccpfiobfaaW.PrintWords Go.Proofs.YtifllccpfiobfaaW.PrintLast Go.Proofs.YtifllccpfiobfaaW.PrintMore
attribute [local go_sem] max2_int min2_int max_two min_two max_three min_three max_four min_four   -- for this text's walks alone
set_option linter.unusedVariables false
set_option linter.unusedSimpArgs false

/-! ### spec_l9Table: function 49 -/
mutual
def spec_l9Table.l0 : Nat → ByteArray → ByteArray → List (List Int) → Int → Int → Option ((List (List Int)))
 | 0, _, _, _, _, _ => none
 | k + 1, x0, x1, x5, x14, x15 => if x15 < x14 then (if 0 ≤ (wrap64 ((x1.size : Int) + 1)) then (if (wrap64 ((x1.size : Int) + 1) : Int).toNat ≤ 35184372088832 then (if 0 ≤ x15 then (if x15 < (x5.length : Int) then (spec_l9Table.l0 k x0 x1 (x5.set (x15 : Int).toNat (List.replicate (wrap64 ((x1.size : Int) + 1) : Int).toNat 0)) x14 (wrap64 (x15 + 1))) else (none)) else (none)) else (none)) else (none)) else (spec_l9Table.l1 k x0 x1 x5 (wrap64 ((x0.size : Int) - 1)))
def spec_l9Table.l1 : Nat → ByteArray → ByteArray → List (List Int) → Int → Option ((List (List Int)))
 | 0, _, _, _, _ => none
 | k + 1, x0, x1, x5, x7 => if x7 ≥ 0 then (spec_l9Table.l2 k x0 x1 x5 x7 (wrap64 ((x1.size : Int) - 1))) else (some x5)
def spec_l9Table.l2 : Nat → ByteArray → ByteArray → List (List Int) → Int → Int → Option ((List (List Int)))
 | 0, _, _, _, _, _ => none
 | k + 1, x0, x1, x5, x7, x8 => if x8 ≥ 0 then (if 0 ≤ x7 then (if x7 < (x0.size : Int) then (if 0 ≤ x8 then (if x8 < (x1.size : Int) then (if (bt x0 x7) = (bt x1 x8) then (if x7 < (x5.length : Int) then (if 0 ≤ (wrap64 (x7 + 1)) then (if (wrap64 (x7 + 1)) < (x5.length : Int) then (if 0 ≤ (wrap64 (x8 + 1)) then (if (wrap64 (x8 + 1)) < ((rd_L1 x5 (wrap64 (x7 + 1))).length : Int) then (if x8 < ((rd_L1 x5 x7).length : Int) then (spec_l9Table.l2 k x0 x1 (x5.set (x7 : Int).toNat ((rd_L1 x5 x7).set (x8 : Int).toNat (wrap64 ((rd (rd_L1 x5 (wrap64 (x7 + 1))) (wrap64 (x8 + 1))) + 1)))) x7 (wrap64 (x8 - 1))) else (none)) else (none)) else (none)) else (none)) else (none)) else (none)) else (if 0 ≤ (wrap64 (x7 + 1)) then (if (wrap64 (x7 + 1)) < (x5.length : Int) then (if x8 < ((rd_L1 x5 (wrap64 (x7 + 1))).length : Int) then (if x7 < (x5.length : Int) then (if 0 ≤ (wrap64 (x8 + 1)) then (if (wrap64 (x8 + 1)) < ((rd_L1 x5 x7).length : Int) then (if (rd (rd_L1 x5 (wrap64 (x7 + 1))) x8) ≥ (rd (rd_L1 x5 x7) (wrap64 (x8 + 1))) then (if x8 < ((rd_L1 x5 x7).length : Int) then (spec_l9Table.l2 k x0 x1 (x5.set (x7 : Int).toNat ((rd_L1 x5 x7).set (x8 : Int).toNat (rd (rd_L1 x5 (wrap64 (x7 + 1))) x8))) x7 (wrap64 (x8 - 1))) else (none)) else (if x8 < ((rd_L1 x5 x7).length : Int) then (spec_l9Table.l2 k x0 x1 (x5.set (x7 : Int).toNat ((rd_L1 x5 x7).set (x8 : Int).toNat (rd (rd_L1 x5 x7) (wrap64 (x8 + 1))))) x7 (wrap64 (x8 - 1))) else (none))) else (none)) else (none)) else (none)) else (none)) else (none)) else (none))) else (none)) else (none)) else (none)) else (none)) else (spec_l9Table.l1 k x0 x1 x5 (wrap64 (x7 - 1)))
end
def spec_l9Table.f (k : Nat) (a0 : ByteArray) (a1 : ByteArray) : Option ((List (List Int))) := if 0 ≤ (wrap64 ((a0.size : Int) + 1)) then (if (wrap64 ((a0.size : Int) + 1) : Int).toNat ≤ 11728124029610 then ((some (List.replicate (wrap64 ((a0.size : Int) + 1) : Int).toNat [] : List (List Int))).bind fun y106 => (spec_l9Table.l0 k a0 a1 y106 (y106.length : Int) 0)) else (none)) else (none)
theorem spec_l9Table.mono_l : ∀ k, (∀ y0 y1 y2 y3 y4, LeO (spec_l9Table.l0 k y0 y1 y2 y3 y4) (spec_l9Table.l0 (k + 1) y0 y1 y2 y3 y4)) ∧ (∀ y0 y1 y2 y3, LeO (spec_l9Table.l1 k y0 y1 y2 y3) (spec_l9Table.l1 (k + 1) y0 y1 y2 y3)) ∧ (∀ y0 y1 y2 y3 y4, LeO (spec_l9Table.l2 k y0 y1 y2 y3 y4) (spec_l9Table.l2 (k + 1) y0 y1 y2 y3 y4))
 | 0 => ⟨fun _ _ _ _ _ r h => by simp [spec_l9Table.l0] at h, fun _ _ _ _ r h => by simp [spec_l9Table.l1] at h, fun _ _ _ _ _ r h => by simp [spec_l9Table.l2] at h⟩
 | k + 1 => by
  obtain ⟨ih0, ih1, ih2⟩ := spec_l9Table.mono_l k
  refine ⟨?_, ?_, ?_⟩
  ·intro y0 y1 y2 y3 y4
   unfold spec_l9Table.l0
   repeat' first
   | (with_reducible exact ih0 _ _ _ _ _)
   | (with_reducible exact ih1 _ _ _ _)
   | (with_reducible exact ih2 _ _ _ _ _)
   | (with_reducible exact LeO.refl _)
   | (with_reducible exact LeO.none _)
   | (with_reducible refine LeO.ite ?_ ?_)
   | (with_reducible refine LeO.bind ?_ (fun _ => ?_))
   | exact ih0 _ _ _ _ _
   | exact ih1 _ _ _ _
   | exact ih2 _ _ _ _ _
   | exact LeO.none _
   | refine LeO.ite ?_ ?_
   | refine LeO.bind ?_ (fun _ => ?_)
  ·intro y0 y1 y2 y3
   unfold spec_l9Table.l1
   repeat' first
   | (with_reducible exact ih0 _ _ _ _ _)
   | (with_reducible exact ih1 _ _ _ _)
   | (with_reducible exact ih2 _ _ _ _ _)
   | (with_reducible exact LeO.refl _)
   | (with_reducible exact LeO.none _)
   | (with_reducible refine LeO.ite ?_ ?_)
   | (with_reducible refine LeO.bind ?_ (fun _ => ?_))
   | exact ih0 _ _ _ _ _
   | exact ih1 _ _ _ _
   | exact ih2 _ _ _ _ _
   | exact LeO.none _
   | refine LeO.ite ?_ ?_
   | refine LeO.bind ?_ (fun _ => ?_)
  ·intro y0 y1 y2 y3 y4
   unfold spec_l9Table.l2
   repeat' first
   | (with_reducible exact ih0 _ _ _ _ _)
   | (with_reducible exact ih1 _ _ _ _)
   | (with_reducible exact ih2 _ _ _ _ _)
   | (with_reducible exact LeO.refl _)
   | (with_reducible exact LeO.none _)
   | (with_reducible refine LeO.ite ?_ ?_)
   | (with_reducible refine LeO.bind ?_ (fun _ => ?_))
   | exact ih0 _ _ _ _ _
   | exact ih1 _ _ _ _
   | exact ih2 _ _ _ _ _
   | exact LeO.none _
   | refine LeO.ite ?_ ?_
   | refine LeO.bind ?_ (fun _ => ?_)
theorem spec_l9Table.mono : ∀ a0 a1 k, LeO (spec_l9Table.f k a0 a1) (spec_l9Table.f (k + 1) a0 a1) := by
 intro a0 a1 k
 obtain ⟨ih0, ih1, ih2⟩ := spec_l9Table.mono_l k
 unfold spec_l9Table.f
 repeat' first
   | (with_reducible exact ih0 _ _ _ _ _)
   | (with_reducible exact ih1 _ _ _ _)
   | (with_reducible exact ih2 _ _ _ _ _)
   | (with_reducible exact LeO.refl _)
   | (with_reducible exact LeO.none _)
   | (with_reducible refine LeO.ite ?_ ?_)
   | (with_reducible refine LeO.bind ?_ (fun _ => ?_))
   | exact ih0 _ _ _ _ _
   | exact ih1 _ _ _ _
   | exact ih2 _ _ _ _ _
   | exact LeO.none _
   | refine LeO.ite ?_ ?_
   | refine LeO.bind ?_ (fun _ => ?_)
def spec_l9Table.T13 : Bool × List (List Nat × List Nat) := (true, [([], []), ([], []), ([0, 1], [0, 1]), ([2], [2]), ([], []), ([], []), ([], []), ([5, 6], [5, 6]), ([7], [7]), ([], []), ([9], [9]), ([8, 10], [8, 10]), ([11], [11]), ([3, 4, 0, 1, 2, 3, 4, 5, 6, 7, 8, 9, 10, 11, 12], [3, 4]), ([13, 12, 0, 1, 2, 3, 4, 5, 6, 7, 8, 9, 10, 11, 12], [12, 13])])
def spec_l9Table.B13 : List Nat := [0, 0, 3, 7, 0, 0, 0, 96, 224, 0, 512, 2016, 4064, 8191, 16383]
theorem spec_l9Table.tab13 : rtab .any (opsOf Try.f49 13) = spec_l9Table.T13 := by kernel_rfl
theorem spec_l9Table.bits13 : waitsOk spec_l9Table.T13.2 spec_l9Table.B13 = true := by kernel_rfl
def spec_l9Table.T14 : Bool × List (List Nat × List Nat) := (true, [([], []), ([], []), ([0, 1], [0, 1]), ([], []), ([], []), ([3, 4], [3, 4]), ([2, 5], [2, 5]), ([6], [6])])
def spec_l9Table.B14 : List Nat := [0, 0, 3, 0, 0, 24, 63, 127]
theorem spec_l9Table.tab14 : rtab .any (opsOf Try.f49 14) = spec_l9Table.T14 := by kernel_rfl
theorem spec_l9Table.bits14 : waitsOk spec_l9Table.T14.2 spec_l9Table.B14 = true := by kernel_rfl
def spec_l9Table.T15 : Bool × List (List Nat × List Nat) := (true, [([], []), ([], []), ([0, 1], [0, 1]), ([2], [2]), ([], []), ([], []), ([], []), ([6], [6]), ([5, 7], [5, 7]), ([8], [8]), ([], []), ([10], [10]), ([9, 11], [9, 11]), ([12], [12]), ([13], [13]), ([3, 4, 0, 1, 2, 3, 4, 5, 6, 7, 8, 9, 10, 11, 12, 13, 14], [3, 4]), ([15, 14, 0, 1, 2, 3, 4, 5, 6, 7, 8, 9, 10, 11, 12, 13, 14], [14, 15])])
def spec_l9Table.B15 : List Nat := [0, 0, 3, 7, 0, 0, 0, 64, 224, 480, 0, 1024, 4064, 8160, 16352, 32767, 65535]
theorem spec_l9Table.tab15 : rtab .any (opsOf Try.f49 15) = spec_l9Table.T15 := by kernel_rfl
theorem spec_l9Table.bits15 : waitsOk spec_l9Table.T15.2 spec_l9Table.B15 = true := by kernel_rfl
def spec_l9Table.T16 : Bool × List (List Nat × List Nat) := (true, [([], []), ([], []), ([1], [1]), ([0, 2], [0, 2]), ([3], [3]), ([], []), ([4, 5], [4, 5]), ([6], [6]), ([], []), ([], []), ([8, 9], [8, 9]), ([10], [10]), ([], []), ([12], [12]), ([11, 13], [11, 13]), ([14], [14]), ([7, 15], [7, 15]), ([16], [16])])
def spec_l9Table.B16 : List Nat := [0, 0, 2, 7, 15, 0, 63, 127, 0, 0, 768, 1792, 0, 4096, 16128, 32512, 65535, 131071]
theorem spec_l9Table.tab16 : rtab .any (opsOf Try.f49 16) = spec_l9Table.T16 := by kernel_rfl
theorem spec_l9Table.bits16 : waitsOk spec_l9Table.T16.2 spec_l9Table.B16 = true := by kernel_rfl
def spec_l9Table.T17 : Bool × List (List Nat × List Nat) := (true, [([], []), ([], []), ([0, 1], [0, 1]), ([2], [2]), ([], []), ([], []), ([], []), ([6], [6]), ([5, 7], [5, 7]), ([8], [8]), ([], []), ([9, 10], [9, 10]), ([11], [11]), ([3, 4, 0, 1, 2, 3, 4, 5, 6, 7, 8, 9, 10, 11, 12], [3, 4]), ([13, 12, 0, 1, 2, 3, 4, 5, 6, 7, 8, 9, 10, 11, 12], [12, 13])])
def spec_l9Table.B17 : List Nat := [0, 0, 3, 7, 0, 0, 0, 64, 224, 480, 0, 2016, 4064, 8191, 16383]
theorem spec_l9Table.tab17 : rtab .any (opsOf Try.f49 17) = spec_l9Table.T17 := by kernel_rfl
theorem spec_l9Table.bits17 : waitsOk spec_l9Table.T17.2 spec_l9Table.B17 = true := by kernel_rfl
set_option maxHeartbeats 8000000 in
set_option maxRecDepth 100000 in
theorem spec_l9Table.calls (k : Nat) (a0 : ByteArray) (a1 : ByteArray) (r : List (List Int)) (w : World) (h : spec_l9Table.f k a0 a1 = some r) :
  Calls Try.prog 49 #[.string a0, .string a1] w fun e w' => ∃ v0_ : Value, e = .returned (v0_) ∧ Kd.S (Kd.slice 3 (Kd.int .i64)) 41 w' w.heap.size (fun _ => True) v0_ r ∧ Below w.heap.size w w' := by
 have HB := aM (Below.refl w.heap.size w)
 have H : (if 0 ≤ (wrap64 ((a0.size : Int) + 1)) then (if (wrap64 ((a0.size : Int) + 1) : Int).toNat ≤ 11728124029610 then ((some (List.replicate (wrap64 ((a0.size : Int) + 1) : Int).toNat [] : List (List Int))).bind fun y106 => (spec_l9Table.l0 k a0 a1 y106 (y106.length : Int) 0)) else (none)) else (none)) = some r := h
 clear h
 obtain ⟨eX, cI⟩ : ∃ j_ : Int, (wrap64 ((a0.size : Int) + 1)) = j_ := ⟨_, rfl⟩
 replace H : (if 0 ≤ (eX) then (if (eX : Int).toNat ≤ 11728124029610 then ((some (List.replicate (eX : Int).toNat [] : List (List Int))).bind fun y106 => (spec_l9Table.l0 k a0 a1 y106 (y106.length : Int) 0)) else (none)) else (none)) = some r := by first | (rw [cI] at H; exact H) | (simp only [cI] at H ⊢; exact H)
 have hji3w : (IntKind.i64.wrap ((a0.size : Int) + 1)) = eX := (i64_w _).trans cI
 by_cases c4 : 0 ≤ (eX)
 ·rw [if_pos c4] at H
  have c4b0 := eq_true c4
  have c4b1 : decide (0 ≤ (eX)) = true := dT c4
  clear c4
  by_cases c5 : (eX : Int).toNat ≤ 11728124029610
  ·rw [if_pos c5] at H
   have c5b0 := eq_true c5
   have c5b1 : decide ((eX : Int).toNat ≤ 11728124029610) = true := dT c5
   clear c5
   obtain ⟨y106, hy106⟩ : ∃ y_ : List (List Int), y_ = (List.replicate (eX : Int).toNat []) := ⟨_, rfl⟩
   replace H : (spec_l9Table.l0 k a0 a1 y106 (y106.length : Int) 0) = some r := by first | (rw [hy106]; with_reducible exact H) | (have H2_ := (Option.bind_some _ _).symm.trans H; rw [hy106]; with_reducible exact H2_) | (have H2_ := (Option.bind_some _ _).symm.trans H; with_reducible exact H2_) | with_reducible exact H | (rw [hy106]; exact H) | exact H
   have Ny106 := aM hy106
   clear hy106
   have H' := aM H
   clear H
   go_enter Try.func49, Try.ntmps49
   go_wp2_with (first | ((with_reducible refine aD (N := 12) rfl ?_); refine Kd.S_make (Kd.slice 3 (Kd.int .i64)) _ 41 rfl (N := 12) rfl 36 _ _ rfl eX rfl rfl Try.underlying36 (.slice none 0 0) 24 info41 rfl (by decide) (by omega) [] (ok := fun _ => True) (okp := fun _ => True) ⟨_, rfl, Kd.R_nil _ _ _ _ _⟩ (fun _ hk => hk) trivial (oD z2) (Nat.le_trans (Nat.mul_le_mul_right _ (oD z2 : eX.toNat ≤ 11728124029610)) (by omega)) (Below.refl _ _) (Nat.le_refl _) ?_; intro v107 w6 ho7 hb hg_ hnew_; clear hg_ hnew_; (first | rw [← Ny106.out] at ho7 | (simp only [Int.reduceToNat] at ho7; rw [← Ny106.out] at ho7)); have aT := aM (Kd.S_lower ho7 (aq z9)); have aU := aM (ap z9 hb); clear HB; have lO := aT; have HB := aU; clear aT aU; clear hb ho7; obtain ⟨lS, lc, eo8⟩ := Kd.S_slice lO.out; subst eo8))
   go_loopg [15] k (fun kq v15 w' => ∃ (x5_1 : List (List Int)) (x15_1 : Int), v15 = .int .i64 x15_1 ∧ Aside0 (spec_l9Table.l0 kq a0 a1 x5_1 (y106.length : Int) x15_1 = some r) ∧ Aside0 (kq ≤ k) ∧ Aside0 (Kd.S (Kd.slice 3 (Kd.int .i64)) 41 w' w.heap.size (fun _ => True) (.slice lS y106.length lc) x5_1) ∧ Aside0 (Below w.heap.size w w'))
   case atStart => exact ⟨(y106), (0), z1, H', ⟨Nat.le_refl _⟩, ⟨by (with_reducible repeat (first | apply Kd.S_alloc | apply Kd.S_drewN | apply Kd.S_drew)); exact lO.out⟩, ⟨y5⟩⟩
   case round =>
    clear H'
    try clear p2
    try clear c4
    try clear c4b0
    try clear c4b1
    try clear c5
    try clear c5b0
    try clear c5b1
    try clear p6
    obtain ⟨x5_1, x15_1, rfl, HA, HK1, aW, HB⟩ := hrel
    have hl5_1 := (Kd.S_reads' aW.out).1
    rw [hl5_1] at aW
    (try simp only [hl5_1])
    cases gk with
    | zero => exact absurd HA.out (by simp [spec_l9Table.l0])
    | succ k1 =>
     have H := HA.out
     clear HA
     simp only [spec_l9Table.l0] at H
     by_cases c9 : x15_1 < (y106.length : Int)
     ·rw [if_pos c9] at H
      have c9b0 : decide (x15_1 < (y106.length : Int)) = true := dT c9
      have c9b0hl5_1 := c9b0
      (try simp only [hl5_1] at c9b0hl5_1)
      clear c9
      obtain ⟨eZ, g9⟩ : ∃ j_ : Int, (wrap64 ((a1.size : Int) + 1)) = j_ := ⟨_, rfl⟩
      replace H : (if 0 ≤ (eZ) then (if (eZ : Int).toNat ≤ 35184372088832 then (if 0 ≤ x15_1 then (if x15_1 < (x5_1.length : Int) then (spec_l9Table.l0 k1 a0 a1 (x5_1.set (x15_1 : Int).toNat (List.replicate (eZ : Int).toNat 0)) (y106.length : Int) (wrap64 (x15_1 + 1))) else (none)) else (none)) else (none)) else (none)) = some r := by first | (rw [g9] at H; exact H) | (simp only [g9] at H ⊢; exact H)
      have hji10w : (IntKind.i64.wrap ((a1.size : Int) + 1)) = eZ := (i64_w _).trans g9
      by_cases bV : 0 ≤ (eZ)
      ·rw [if_pos bV] at H
       have c11b0 := eq_true bV
       have c11b1 : decide (0 ≤ (eZ)) = true := dT bV
       clear bV
       by_cases cd : (eZ : Int).toNat ≤ 35184372088832
       ·rw [if_pos cd] at H
        have c12b0 := eq_true cd
        have c12b1 : decide ((eZ : Int).toNat ≤ 35184372088832) = true := dT cd
        clear cd
        obtain ⟨y109, hy109⟩ : ∃ y_ : List Int, y_ = (List.replicate (eZ : Int).toNat 0) := ⟨_, rfl⟩
        replace H : (if 0 ≤ x15_1 then (if x15_1 < (x5_1.length : Int) then (spec_l9Table.l0 k1 a0 a1 (x5_1.set (x15_1 : Int).toNat y109) (y106.length : Int) (wrap64 (x15_1 + 1))) else (none)) else (none)) = some r := by first | (rw [hy109]; with_reducible exact H) | (have H2_ := (Option.bind_some _ _).symm.trans H; rw [hy109]; with_reducible exact H2_) | (have H2_ := (Option.bind_some _ _).symm.trans H; with_reducible exact H2_) | with_reducible exact H | (rw [hy109]; exact H) | exact H
        have Ny109 := aM hy109
        clear hy109
        by_cases bR : 0 ≤ x15_1
        ·rw [if_pos bR] at H
         have c13b0 : decide (0 ≤ x15_1) = true := dT bR
         clear bR
         by_cases ce : x15_1 < (x5_1.length : Int)
         ·rw [if_pos ce] at H
          have c14b0 : decide (x15_1 < (x5_1.length : Int)) = true := dT ce
          have c14b0hl5_1 := c14b0
          (try simp only [hl5_1] at c14b0hl5_1)
          clear ce
          obtain ⟨y112, hy112⟩ : ∃ y_ : List (List Int), y_ = (x5_1.set (x15_1 : Int).toNat y109) := ⟨_, rfl⟩
          replace H : (spec_l9Table.l0 k1 a0 a1 y112 (y106.length : Int) (wrap64 (x15_1 + 1))) = some r := by first | (rw [hy112]; with_reducible exact H) | (have H2_ := (Option.bind_some _ _).symm.trans H; rw [hy112]; with_reducible exact H2_) | (have H2_ := (Option.bind_some _ _).symm.trans H; with_reducible exact H2_) | with_reducible exact H | (rw [hy112]; exact H) | exact H
          have Ny112 := aM hy112
          clear hy112
          have H' := aM H
          clear H
          go_wp2_with (first | ((with_reducible refine aD (N := 23) rfl ?_); refine Kd.R_make (Kd.int .i64) _ 3 rfl (N := 23) rfl 41 _ _ rfl eZ rfl rfl Try.underlying41 (.int .i64 0) 8 info3 rfl (by decide) (by omega) 0 (ok := fun _ => True) (okp := fun _ => True) rfl (fun _ hk => hk) trivial (oD z2) (Nat.le_trans (Nat.mul_le_mul_right _ (oD z2 : eZ.toNat ≤ 35184372088832)) (by omega)) (Below.refl _ _) (Nat.le_refl _) ?_; intro v110 w16 ho17 hb hg_ hnew_; clear hg_ hnew_; (first | rw [← Ny109.out] at ho17 | (simp only [Int.reduceToNat] at ho17; rw [← Ny109.out] at ho17)); have aT := aM (Kd.S_elder' (by (with_reducible repeat (first | apply Kd.S_alloc | apply Kd.S_drewN | apply Kd.S_drew)); exact aW.out) (ai ho17) hb); have aU := aM (aH ho17 (aq z9)); have aX := aM (ap z9 hb); clear aW; clear HB; have aW := aT; have kX := aU; have HB := aX; clear aT aU aX; clear hb ho17; have p15 : 0 ≤ (x15_1 : Int) := oD z2; have q15 : (x15_1 : Int) < ((x5_1.length : Int) : Int) := oD z2; obtain ⟨go15, co15, eo15, mX, gl15, cl15, HG15⟩ := Kd.S_form aW.out (by omega); (first | cases eo15 | (injection eo15 with ea_ en_ ec_; (first | subst ea_ | (injection ea_ with ea_; subst ea_)); subst ec_; clear en_)); have GB15 := aM mX; have GG15 := aM HG15; clear mX gl15 HG15; obtain ⟨_, ce15, hcl15, hM15, hcc15, hfr15, _, _⟩ := Kd.S_elem aW.out [] (x15_1 : Int) p15 q15; obtain ⟨ve15_0, rfl, ge15_0⟩ := hM15; have hx15_0 := hcc15 0 _ rfl; have hf15_0 := hfr15 0; (try simp only [show ((Kd.slice 3 (Kd.int .i64))).sz = 1 from rfl, Nat.mul_one, Nat.add_zero] at hx15_0); (try simp only [show ((Kd.slice 3 (Kd.int .i64))).sz = 1 from rfl, Nat.mul_one, Nat.add_zero] at hf15_0); clear hcl15 hcc15 hfr15; (try clear hM15); replace p15 := eq_true p15; replace q15 := eq_true q15; have n_ := aM (Kd.S_mono (ok' := (fun k_ => some k_ ≠ (v110 : Value).ownBlock)) aW.out (fun k_ hk => hk.2)); clear aW; have aW := n_; clear n_; have HX18 := aM (show Kd.S (Kd.slice 3 (Kd.int .i64)) 41 w16 w.heap.size (fun k_ => ((fun _ => True)) k_ ∧ ¬ ((fun k_ => some k_ = (v110 : Value).ownBlock)) k_) (.slice (some ⟨go15, 0, none⟩) x5_1.length lc) x5_1 from (by (with_reducible repeat (first | apply Kd.S_alloc | apply Kd.S_drewN | apply Kd.S_drew)); exact Kd.S_mono aW.out (fun k_ hk => ⟨trivial, fun e_ => hk e_⟩))); obtain ⟨oki18, ce18, hcl18, hM18, hcc18, hfr18, hoki18, hH18⟩ := Kd.S_elem HX18.out [] (x15_1 : Int) (oD z2) (by have h_ : (x15_1 : Int) < ((x5_1.length : Int) : Int) := oD z2; first | exact h_ | (have e_ := (Kd.S_reads' aW.out).1; omega) | simpa using h_); obtain ⟨ve18_0, rfl, ge18_0⟩ := hM18; have HP18 := Kd.S_seg hH18 (oD z2) (by have h_ : (x15_1 : Int) < ((x5_1.length : Int) : Int) := oD z2; first | exact h_ | (have e_ := (Kd.S_reads' aW.out).1; omega) | simpa using h_) (seg := [v110]) (j := 0) (show 1 ≤ 1 from by decide) (x' := y109) (Kd.M_row (af (Kd.R_tight rfl (af (ok' := fun k_ => ((fun _ => True)) k_ ∧ k_ ≠ go15) (Kd.R_apart' (kX.out) (Kd.S_typed aW.out) (by decide)) (fun k_ hk => ⟨trivial, fun e_ => (hk.2) (by rw [e_]; rfl)⟩))) (fun _ h_ => Or.inr (h_)))) (fun _ hk => hk) (fun k_ hk_ => ((af (ok' := fun k_ => ((fun _ => True)) k_ ∧ k_ ≠ go15) (Kd.R_apart' (kX.out) (Kd.S_typed aW.out) (by decide)) (fun k_ hk => ⟨trivial, fun e_ => (hk.2) (by rw [e_]; rfl)⟩))).1 k_ hk_.symm); have hx18_0 := hcc18 0 _ rfl; (try simp only [show ((Kd.slice 3 (Kd.int .i64))).sz = 1 from rfl, Nat.mul_one, Nat.add_zero] at hx18_0); have hf18_0 := hfr18 0; (try simp only [show ((Kd.slice 3 (Kd.int .i64))).sz = 1 from rfl, Nat.mul_one, Nat.add_zero] at hf18_0); clear hcl18 hcc18 hfr18 hoki18 hH18; (try clear hM18); (try simp only [show ((Kd.slice 3 (Kd.int .i64))).sz = 1 from rfl, Nat.mul_one, Nat.add_zero] at HP18)) | ((with_reducible refine gate_store (t := 41) (p := 24) rfl ?_); refine store_event (t := 41) (p := 24) (v := ?vo_w19) (w1 := (w16.setCell ⟨go15, (x15_1 : Int).toNat, none⟩ (v110))) ?hg ?ho ?hn ?hr ?_; (case ho => rfl); (case hg => rfl); (case hn => rfl); (case hr => first | (go_simp; done) | (go_simp; rfl) | ((try simp only [aI] at *); go_simp; first | done | rfl) | ((try simp only [aI] at *); obtain ⟨A_, c_, e_⟩ := Kd.R_slice (Aside0.out ‹Aside0 (Kd.R _ _ _ _ _ v110 _)›); subst e_; go_simp; first | done | rfl) | ((try simp only [aI] at *); obtain ⟨A_, c_, e_⟩ := Kd.S_slice (Aside0.out ‹Aside0 (Kd.S _ _ _ _ _ v110 _)›); subst e_; go_simp; first | done | rfl) | ((try simp only [aI] at *); obtain ⟨A_, c_, e_⟩ := Kd.N_slice (Aside0.out ‹Aside0 (Kd.N _ _ _ _ _ v110 _)›); subst e_; go_simp; first | done | rfl) | ((try simp only [aI] at *); obtain ⟨A_, c_, e_⟩ := Kd.V_slice (Aside0.out ‹Aside0 (Kd.V _ _ _ _ _ v110 _)›); subst e_; go_simp; first | done | rfl)); intro w19 hw; have hg : w16.grownBy w19 (some go15) := (by rw [hw]; exact HP18.2); have hp_ : Kd.S (Kd.slice 3 (Kd.int .i64)) 41 w19 w.heap.size (fun _ => True) (.slice (some ⟨go15, 0, none⟩) x5_1.length lc) y112 := (by rw [hw, Ny112.out]; exact HP18.1); clear HP18; have aT := aM (hp_); have aU := aM ((by rw [hw]; exact ao (HB.out) GB15.out : Below w.heap.size w w19)); clear aW; clear HB; clear kX; have aW := aT; have HB := aU; clear aT aU; clear hg hw hp_))
          (try simp only [← hl5_1])
          go_roundg k1
          case measure => have := HK1.out; omega
          case rel => exact ⟨(y112), (wrap64 (x15_1 + 1)), z1, (by first | exact H' | (simp only [cI, g9]; exact H') | (simp only [← cI, ← g9]; exact H')), ⟨y0⟩, ⟨by (try simp only [hl5_1]); (with_reducible repeat (first | apply Kd.S_alloc | apply Kd.S_drewN | apply Kd.S_drew)); exact aW.out⟩, ⟨y5⟩⟩
         ·rw [if_neg ce] at H
          exact absurd H (by simp)
        ·rw [if_neg bR] at H
         exact absurd H (by simp)
       ·rw [if_neg cd] at H
        exact absurd H (by simp)
      ·rw [if_neg bV] at H
       exact absurd H (by simp)
     ·rw [if_neg c9] at H
      have c9b0 : decide (x15_1 < (y106.length : Int)) = false := dF c9
      have c9b0hl5_1 := c9b0
      (try simp only [hl5_1] at c9b0hl5_1)
      clear c9
      have H' := aM H
      clear H
      go_wp2
      go_loopg [7] k1 (fun kq v7 w' => ∃ (x5_2 : List (List Int)) (x7_2 : Int), v7 = .int .i64 x7_2 ∧ Aside0 (spec_l9Table.l1 kq a0 a1 x5_2 x7_2 = some r) ∧ Aside0 (kq ≤ k1) ∧ Aside0 (Kd.S (Kd.slice 3 (Kd.int .i64)) 41 w' w.heap.size (fun _ => True) (.slice lS x5_1.length lc) x5_2) ∧ Aside0 (Below w.heap.size w w'))
      case atStart => exact ⟨(x5_1), (wrap64 ((a0.size : Int) - 1)), z1, H', ⟨Nat.le_refl _⟩, ⟨by (try simp only [hl5_1]); (with_reducible repeat (first | apply Kd.S_alloc | apply Kd.S_drewN | apply Kd.S_drew)); exact aW.out⟩, ⟨y5⟩⟩
      case round =>
       clear H'
       try clear c1
       try clear p1
       try clear q1
       try clear hx1
       try clear p2
       try clear c4
       try clear c4b0
       try clear c4b1
       try clear c5
       try clear c5b0
       try clear c5b1
       try clear p6
       try clear c9
       try clear c9b0
       try clear bV
       try clear c11b0
       try clear c11b1
       try clear cd
       try clear c12b0
       try clear c12b1
       try clear bR
       try clear c13b0
       try clear ce
       try clear c14b0
       try clear ck
       try clear p15
       try clear q15
       try clear hx15
       try clear hf15
       try clear cn
       try clear hx18
       try clear hf18
       try clear hx15_0
       try clear hx18_0
       try clear p15
       try clear p2
       try clear p6
       try clear q15
       obtain ⟨x5_2, x7_2, rfl, HA, HK2, aW, HB⟩ := hrel
       have hl5_2 := (Kd.S_reads' aW.out).1
       rw [hl5_2] at aW
       (try simp only [hl5_2])
       cases gk with
       | zero => exact absurd HA.out (by simp [spec_l9Table.l1])
       | succ k2 =>
        have H := HA.out
        clear HA
        simp only [spec_l9Table.l1] at H
        by_cases dd : x7_2 ≥ 0
        ·rw [if_pos dd] at H
         have c20b0 : decide (0 ≤ x7_2) = true := dT dd
         clear dd
         have H' := aM H
         clear H
         go_wp2
         go_loopg [8] k2 (fun kq v8 w' => ∃ (x5_3 : List (List Int)) (x8_3 : Int), v8 = .int .i64 x8_3 ∧ Aside0 (spec_l9Table.l2 kq a0 a1 x5_3 x7_2 x8_3 = some r) ∧ Aside0 (kq ≤ k2) ∧ Aside0 (Kd.S (Kd.slice 3 (Kd.int .i64)) 41 w' w.heap.size (fun _ => True) (.slice lS x5_2.length lc) x5_3) ∧ Aside0 (Below w.heap.size w w'))
         case atStart => exact ⟨(x5_2), (wrap64 ((a1.size : Int) - 1)), z1, H', ⟨Nat.le_refl _⟩, ⟨by (try simp only [hl5_1]); (try simp only [hl5_2]); (with_reducible repeat (first | apply Kd.S_alloc | apply Kd.S_drewN | apply Kd.S_drew)); exact aW.out⟩, ⟨y5⟩⟩
         case round =>
          clear H'
          try clear c1
          try clear p1
          try clear q1
          try clear hx1
          try clear c2
          try clear p2
          try clear c4
          try clear c4b0
          try clear c4b1
          try clear c5
          try clear c5b0
          try clear c5b1
          try clear p6
          try clear c9
          try clear c9b0
          try clear bV
          try clear c11b0
          try clear c11b1
          try clear cd
          try clear c12b0
          try clear c12b1
          try clear bR
          try clear c13b0
          try clear ce
          try clear c14b0
          try clear ck
          try clear p15
          try clear q15
          try clear hx15
          try clear hf15
          try clear cn
          try clear hx18
          try clear hf18
          try clear dd
          try clear c20b0
          try clear hx15_0
          try clear hx18_0
          try clear p1
          try clear p15
          try clear p2
          try clear p6
          try clear q1
          try clear q15
          obtain ⟨x5_3, x8_3, rfl, HA, HK3, aW, HB⟩ := hrel
          have hl5_3 := (Kd.S_reads' aW.out).1
          rw [hl5_3] at aW
          (try simp only [hl5_3])
          cases gk with
          | zero => exact absurd HA.out (by simp [spec_l9Table.l2])
          | succ k3 =>
           have H := HA.out
           clear HA
           simp only [spec_l9Table.l2] at H
           by_cases cF : x8_3 ≥ 0
           ·rw [if_pos cF] at H
            have c21b0 : decide (0 ≤ x8_3) = true := dT cF
            clear cF
            by_cases ec : 0 ≤ x7_2
            ·rw [if_pos ec] at H
             have c22b0 : decide (0 ≤ x7_2) = true := dT ec
             clear ec
             by_cases dw : x7_2 < (a0.size : Int)
             ·rw [if_pos dw] at H
              have c23b0 : decide (x7_2 < (a0.size : Int)) = true := dT dw
              clear dw
              by_cases eA : 0 ≤ x8_3
              ·rw [if_pos eA] at H
               have c25b0 : decide (0 ≤ x8_3) = true := dT eA
               clear eA
               by_cases eD : x8_3 < (a1.size : Int)
               ·rw [if_pos eD] at H
                have c26b0 : decide (x8_3 < (a1.size : Int)) = true := dT eD
                clear eD
                by_cases d9 : (bt a0 x7_2) = (bt a1 x8_3)
                ·rw [if_pos d9] at H
                 have c28b0 : ((bt a0 x7_2) == (bt a1 x8_3)) = true := qT d9
                 have c28b1 : ((bt a0 x7_2) != (bt a1 x8_3)) = false := nF d9
                 clear d9
                 by_cases de : x7_2 < (x5_3.length : Int)
                 ·rw [if_pos de] at H
                  have c29b0 : decide (x7_2 < (x5_3.length : Int)) = true := dT de
                  have c29b0hl5_1 := c29b0
                  (try simp only [hl5_1] at c29b0hl5_1)
                  have c29b0hl5_2 := c29b0
                  (try simp only [hl5_2] at c29b0hl5_2)
                  have c29b0hl5_3 := c29b0
                  (try simp only [hl5_3] at c29b0hl5_3)
                  clear de
                  obtain ⟨bk, d8⟩ : ∃ j_ : Int, (wrap64 (x7_2 + 1)) = j_ := ⟨_, rfl⟩
                  replace H : (if 0 ≤ (bk) then (if (bk) < (x5_3.length : Int) then (if 0 ≤ (wrap64 (x8_3 + 1)) then (if (wrap64 (x8_3 + 1)) < ((rd_L1 x5_3 (bk)).length : Int) then (if x8_3 < ((rd_L1 x5_3 x7_2).length : Int) then (spec_l9Table.l2 k3 a0 a1 (x5_3.set (x7_2 : Int).toNat ((rd_L1 x5_3 x7_2).set (x8_3 : Int).toNat (wrap64 ((rd (rd_L1 x5_3 (bk)) (wrap64 (x8_3 + 1))) + 1)))) x7_2 (wrap64 (x8_3 - 1))) else (none)) else (none)) else (none)) else (none)) else (none)) = some r := by first | (rw [d8] at H; exact H) | (simp only [d8] at H ⊢; exact H)
                  have hji30w : (IntKind.i64.wrap (x7_2 + 1)) = bk := (i64_w _).trans d8
                  by_cases fw : 0 ≤ (bk)
                  ·rw [if_pos fw] at H
                   have c31b0 : decide (0 ≤ (bk)) = true := dT fw
                   clear fw
                   by_cases gV : (bk) < (x5_3.length : Int)
                   ·rw [if_pos gV] at H
                    have c32b0 : decide ((bk) < (x5_3.length : Int)) = true := dT gV
                    have c32b0hl5_1 := c32b0
                    (try simp only [hl5_1] at c32b0hl5_1)
                    have c32b0hl5_2 := c32b0
                    (try simp only [hl5_2] at c32b0hl5_2)
                    have c32b0hl5_3 := c32b0
                    (try simp only [hl5_3] at c32b0hl5_3)
                    clear gV
                    obtain ⟨eg, g8⟩ : ∃ j_ : Int, (wrap64 (x8_3 + 1)) = j_ := ⟨_, rfl⟩
                    replace H : (if 0 ≤ (eg) then (if (eg) < ((rd_L1 x5_3 (bk)).length : Int) then (if x8_3 < ((rd_L1 x5_3 x7_2).length : Int) then (spec_l9Table.l2 k3 a0 a1 (x5_3.set (x7_2 : Int).toNat ((rd_L1 x5_3 x7_2).set (x8_3 : Int).toNat (wrap64 ((rd (rd_L1 x5_3 (bk)) (eg)) + 1)))) x7_2 (wrap64 (x8_3 - 1))) else (none)) else (none)) else (none)) = some r := by first | (rw [g8] at H; exact H) | (simp only [g8] at H ⊢; exact H)
                    have hji33w : (IntKind.i64.wrap (x8_3 + 1)) = eg := (i64_w _).trans g8
                    by_cases jy : 0 ≤ (eg)
                    ·rw [if_pos jy] at H
                     have c34b0 : decide (0 ≤ (eg)) = true := dT jy
                     clear jy
                     by_cases me : (eg) < ((rd_L1 x5_3 (bk)).length : Int)
                     ·rw [if_pos me] at H
                      have c35b0 : decide ((eg) < ((rd_L1 x5_3 (bk)).length : Int)) = true := dT me
                      have c35b0hl5_1 := c35b0
                      (try simp only [hl5_1] at c35b0hl5_1)
                      have c35b0hl5_2 := c35b0
                      (try simp only [hl5_2] at c35b0hl5_2)
                      have c35b0hl5_3 := c35b0
                      (try simp only [hl5_3] at c35b0hl5_3)
                      clear me
                      by_cases j5 : x8_3 < ((rd_L1 x5_3 x7_2).length : Int)
                      ·rw [if_pos j5] at H
                       have c36b0 : decide (x8_3 < ((rd_L1 x5_3 x7_2).length : Int)) = true := dT j5
                       have c36b0hl5_1 := c36b0
                       (try simp only [hl5_1] at c36b0hl5_1)
                       have c36b0hl5_2 := c36b0
                       (try simp only [hl5_2] at c36b0hl5_2)
                       have c36b0hl5_3 := c36b0
                       (try simp only [hl5_3] at c36b0hl5_3)
                       clear j5
                       obtain ⟨y116, hy116⟩ : ∃ y_ : List Int, y_ = ((rd_L1 x5_3 x7_2).set (x8_3 : Int).toNat (wrap64 ((rd (rd_L1 x5_3 (bk)) (eg)) + 1))) := ⟨_, rfl⟩
                       replace H : (spec_l9Table.l2 k3 a0 a1 (x5_3.set (x7_2 : Int).toNat y116) x7_2 (wrap64 (x8_3 - 1))) = some r := by first | (rw [hy116]; with_reducible exact H) | (have H2_ := (Option.bind_some _ _).symm.trans H; rw [hy116]; with_reducible exact H2_) | (have H2_ := (Option.bind_some _ _).symm.trans H; with_reducible exact H2_) | with_reducible exact H | (rw [hy116]; exact H) | exact H
                       have Ny116 := aM hy116
                       clear hy116
                       obtain ⟨y118, hy118⟩ : ∃ y_ : List (List Int), y_ = (x5_3.set (x7_2 : Int).toNat y116) := ⟨_, rfl⟩
                       replace H : (spec_l9Table.l2 k3 a0 a1 y118 x7_2 (wrap64 (x8_3 - 1))) = some r := by first | (rw [hy118]; with_reducible exact H) | (have H2_ := (Option.bind_some _ _).symm.trans H; rw [hy118]; with_reducible exact H2_) | (have H2_ := (Option.bind_some _ _).symm.trans H; with_reducible exact H2_) | with_reducible exact H | (rw [hy118]; exact H) | exact H
                       have Ny118 := aM hy118
                       clear hy118
                       have H' := aM H
                       clear H
                       try go_wp2
                       have aT := aM (Kd.S_drew aW.out)
                       have aU := aM (bD HB.out)
                       clear aW
                       clear HB
                       have aW := aT
                       have HB := aU
                       clear aT aU
                       have p24 : 0 ≤ (x7_2 : Int) := oD z2
                       have q24 : x7_2 < (a0.size : Int) := oD z2
                       have hx24 := bt_at a0 x7_2
                       replace p24 := eq_true p24
                       replace q24 := eq_true q24
                       have p27 : 0 ≤ (x8_3 : Int) := oD z2
                       have q27 : x8_3 < (a1.size : Int) := oD z2
                       have hx27 := bt_at a1 x8_3
                       replace p27 := eq_true p27
                       replace q27 := eq_true q27
                       refine start_ (n := 8) (S := fun w' => True) (ds := []) #[false, false, false, false, false, false, false, false] z0 rfl rfl trivial (fun hHeld => ?_); refine with_tabW spec_l9Table.tab14 spec_l9Table.bits14 (fun HT_ HW_ => ?_)
                       generalize wr.drew = w38 at aW HB hHeld ⊢
                       refine pA 0 55 ?_
                       refine pA 1 56 ?_
                       refine pA 3 58 ?_
                       refine pA 4 59 ?_
                       refine tA 2 57 ?_ (hy := by intro w' _; go_simp; with_reducible rfl)
                       refine tA 5 60 ?_ (hy := by intro w' _; go_simp; with_reducible rfl)
                       refine pA 6 61 ?_
                       refine pA 7 54 ?_
                       refine done_ (done_of HT_.out z0) ?_
                       try go_wp2
                       have aT := aM (Kd.S_drew aW.out)
                       have aU := aM (bD HB.out)
                       clear aW
                       clear HB
                       have aW := aT
                       have HB := aU
                       clear aT aU
                       have p113 : 0 ≤ (x7_2 : Int) := oD z2
                       have q113 : x7_2 < (x5_3.length : Int) := oD z2
                       obtain ⟨ad113, A113_0, c113_0, e113, hx113_0, hl113_0, hi113_0⟩ := at_L1 (Kd.S_reads' aW.out).2.2 x7_2 p113 q113
                       cases e113
                       obtain ⟨ce113, hce113, hMe113, hcc113⟩ := Kd.S_get aW.out [] x7_2 p113 (by first | exact q113 | exact oD z2 | (have e_ := (Kd.S_reads' aW.out).1; omega))
                       obtain ⟨ve113_0, rfl, ge113_0⟩ := hMe113
                       have hv113_0 := hcc113 0 _ rfl
                       rw [Nat.add_zero, show ((Kd.slice 3 (Kd.int .i64))).sz = 1 from rfl, Nat.mul_one] at hv113_0
                       replace hv113_0 := sI (hv113_0.symm.trans hx113_0)
                       rw [hv113_0] at ge113_0
                       have HL113_0 := aM (show Kd.R (Kd.int .i64) 3 _ _ _ _ (rd_L1 x5_3 x7_2) from ge113_0)
                       clear hv113_0 ge113_0
                       have HX113_0 := aM hx113_0
                       clear hcc113 hce113
                       have HR113_0 := aM hi113_0
                       have HC113_0 := aM hl113_0
                       clear hi113_0 hl113_0
                       replace p113 := eq_true p113
                       replace q113 := eq_true q113
                       have p114 : 0 ≤ ((bk) : Int) := oD z2
                       have q114 : (bk) < (x5_3.length : Int) := oD z2
                       obtain ⟨ad114, A114_0, c114_0, e114, hx114_0, hl114_0, hi114_0⟩ := at_L1 (Kd.S_reads' aW.out).2.2 (bk) p114 q114
                       obtain rfl : ad113 = ad114 := (by injection e114)
                       obtain ⟨ce114, hce114, hMe114, hcc114⟩ := Kd.S_get aW.out [] (bk) p114 (by first | exact q114 | exact oD z2 | (have e_ := (Kd.S_reads' aW.out).1; omega))
                       obtain ⟨ve114_0, rfl, ge114_0⟩ := hMe114
                       have hv114_0 := hcc114 0 _ rfl
                       rw [Nat.add_zero, show ((Kd.slice 3 (Kd.int .i64))).sz = 1 from rfl, Nat.mul_one] at hv114_0
                       replace hv114_0 := sI (hv114_0.symm.trans hx114_0)
                       rw [hv114_0] at ge114_0
                       have HL114_0 := aM (show Kd.R (Kd.int .i64) 3 _ _ _ _ (rd_L1 x5_3 (bk)) from ge114_0)
                       clear hv114_0 ge114_0
                       have HX114_0 := aM hx114_0
                       clear hcc114 hce114
                       have gS := aM hi114_0
                       have HC114_0 := aM hl114_0
                       clear hi114_0 hl114_0
                       replace p114 := eq_true p114
                       replace q114 := eq_true q114
                       have p115 : 0 ≤ ((eg) : Int) := oD z2
                       have q115 : (eg) < ((rd_L1 x5_3 (bk)).length : Int) := oD z2
                       obtain ⟨ad115, e115, hx115_0⟩ := Kd.at_int (by repeat (first | (with_reducible exact gS.out) | (with_reducible refine av ?_ _) | (with_reducible refine aw ?_ _) | (with_reducible refine ay ?_) | exact gS.out)) (eg) p115 q115
                       cases e115
                       replace p115 := eq_true p115
                       replace q115 := eq_true q115
                       have p37 : 0 ≤ (x8_3 : Int) := oD z2
                       have q37 : (x8_3 : Int) < (((rd_L1 x5_3 x7_2).length : Int) : Int) := oD z2
                       obtain ⟨go37, jN, eo37, mV, gl37, cl37, HG37⟩ := Kd.R_form HL113_0.out (by omega)
                       (first | cases eo37 | (injection eo37 with ea_ en_ ec_; (first | subst ea_ | (injection ea_ with ea_; subst ea_)); subst ec_; clear en_))
                       have GB37 := aM mV
                       have GG37 := aM HG37
                       clear mV gl37 HG37
                       obtain ⟨hx37_0, hf37_0⟩ := Kd.R_celln 0 HL113_0.out (x8_3 : Int) p37 q37
                       replace p37 := eq_true p37
                       replace q37 := eq_true q37
                       have hq40 : (x7_2 : Int) < (x5_3.length : Int) := (by have h_ : (x7_2 : Int) < ((x5_3.length : Int) : Int) := oD z2; first | exact h_ | (have e_ := (Kd.S_reads' aW.out).1; omega) | simpa only [List.length_set, List.length_set] using h_)
                       obtain ⟨oki40, ce40, hcl40, hM40, hcc40, hok40, hbk40⟩ := Kd.S_borrow aW.out [] (x7_2 : Int) (oD z2) hq40
                       obtain ⟨ve40_0, rfl, ge40_0⟩ := hM40
                       have hv40 := hcc40 0 _ rfl
                       rw [Nat.add_zero, show ((Kd.slice 3 (Kd.int .i64))).sz = 1 from rfl, Nat.mul_one] at hv40
                       replace hv40 := sI (hv40.symm.trans HX113_0.out)
                       subst hv40
                       clear hcc40 hcl40
                       replace ge40_0 := (show Kd.R (Kd.int .i64) 3 _ _ _ _ (rd_L1 x5_3 x7_2) from ge40_0)
                       have HP40 := Kd.R_putg ge40_0 (x8_3 : Int) (wrap64 ((rd (rd_L1 x5_3 (bk)) (eg)) + 1))
                       rw [← Ny116.out] at HP40
                       have HS40 := hbk40 HP40.2 (fun k_ e_ => by injection e_ with e_; subst e_; exact ge40_0.1 _ rfl) (x' := y116) (Kd.M_row HP40.1)
                       rw [← Ny118.out] at HS40
                       have HQ40 := aM HS40
                       clear HP40 HS40 hbk40 hok40
                       refine start_ (n := 17) (S := fun w' => w'.cell? (ad113.add (x7_2).toNat) = some (.slice (some ⟨go37, 0, none⟩) (rd_L1 x5_3 x7_2).length c113_0) ∧ w'.cell? (ad113.add ((bk)).toNat) = some (.slice (some ad115) (rd_L1 x5_3 (bk)).length c114_0) ∧ w'.cell? (ad115.add ((eg)).toNat) = some (.int .i64 (rd (rd_L1 x5_3 (bk)) (eg)))) (ds := [16]) #[false, false, false, false, false, false, false, false, false, false, false, false, false, false, false, false, false] z0 rfl rfl ⟨hx113_0, hx114_0, hx115_0⟩ (fun hHeld => ?_); refine with_tabW spec_l9Table.tab15 spec_l9Table.bits15 (fun HT_ HW_ => ?_)
                       generalize w38.drew = w39 at aW HB GG37 HL113_0 HL114_0 HQ40 HR113_0 gS HX113_0 HX114_0 hf37_0 hx113_0 hx114_0 hx115_0 hx37_0 hHeld ⊢
                       refine pA 0 62 ?_
                       refine pA 1 63 ?_
                       refine pA 2 64 ?_
                       refine pA 4 66 ?_
                       refine pA 5 67 ?_
                       refine pA 6 68 ?_
                       refine pA 7 69 ?_
                       refine pA 8 70 ?_
                       refine pA 10 72 ?_
                       refine pA 11 73 ?_
                       refine tA 3 65 ?_ (hy := by rintro w' ⟨s0, s1, s2⟩; go_simp; with_reducible rfl)
                       refine tA 9 71 ?_ (hy := by rintro w' ⟨s0, s1, s2⟩; go_simp; with_reducible rfl)
                       refine pA 12 74 ?_
                       refine tA 13 75 ?_ (hy := by rintro w' ⟨s0, s1, s2⟩; go_simp; with_reducible rfl)
                       refine pA 14 76 ?_
                       refine pA 15 77 ?_
                       refine last_ (i := 16) (N := none) #[true, true, true, true, true, true, true, true, true, true, true, true, true, true, true, true, true] rfl rfl (one_of HT_.out z0) (by decide) (fun K hK => ?_)
                       refine skip_ (w1 := ?_) (by rfl) rfl ?_ ?_
                       rotate_left
                       ·go_simp
                        rfl
                       refine hK.out _ _ ?_
                       clear hK K
                       refine done_ (done_of HT_.out z0) ?_
                       try go_wp2
                       (try simp only [← hl5_3])
                       go_roundg k3
                       case measure => have := HK1.out; have := HK2.out; have := HK3.out; omega
                       case rel => exact ⟨(y118), (wrap64 (x8_3 - 1)), z1, (by first | exact H' | (simp only [cI, d8, g8]; exact H') | (simp only [← cI, ← d8, ← g8]; exact H')), ⟨by have := HK1.out; have := HK2.out; have := HK3.out; omega⟩, ⟨by (try simp only [hl5_1]); (try simp only [hl5_2]); (try simp only [hl5_3]); (with_reducible repeat (first | apply Kd.S_alloc | apply Kd.S_drewN | apply Kd.S_drew)); exact HQ40.out⟩, ⟨by repeat (first | (with_reducible first | exact HB.out | apply bA | apply pD | apply bD | refine ao ?_ GB37.out) | exact HB.out)⟩⟩
                      ·rw [if_neg j5] at H
                       exact absurd H (by simp)
                     ·rw [if_neg me] at H
                      exact absurd H (by simp)
                    ·rw [if_neg jy] at H
                     exact absurd H (by simp)
                   ·rw [if_neg gV] at H
                    exact absurd H (by simp)
                  ·rw [if_neg fw] at H
                   exact absurd H (by simp)
                 ·rw [if_neg de] at H
                  exact absurd H (by simp)
                ·rw [if_neg d9] at H
                 have c28b0 : ((bt a0 x7_2) == (bt a1 x8_3)) = false := qF d9
                 have c28b1 : ((bt a0 x7_2) != (bt a1 x8_3)) = true := nT d9
                 obtain ⟨bO, e7⟩ : ∃ j_ : Int, (wrap64 (x7_2 + 1)) = j_ := ⟨_, rfl⟩
                 replace H : (if 0 ≤ (bO) then (if (bO) < (x5_3.length : Int) then (if x8_3 < ((rd_L1 x5_3 (bO)).length : Int) then (if x7_2 < (x5_3.length : Int) then (if 0 ≤ (wrap64 (x8_3 + 1)) then (if (wrap64 (x8_3 + 1)) < ((rd_L1 x5_3 x7_2).length : Int) then (if (rd (rd_L1 x5_3 (bO)) x8_3) ≥ (rd (rd_L1 x5_3 x7_2) (wrap64 (x8_3 + 1))) then (if x8_3 < ((rd_L1 x5_3 x7_2).length : Int) then (spec_l9Table.l2 k3 a0 a1 (x5_3.set (x7_2 : Int).toNat ((rd_L1 x5_3 x7_2).set (x8_3 : Int).toNat (rd (rd_L1 x5_3 (bO)) x8_3))) x7_2 (wrap64 (x8_3 - 1))) else (none)) else (if x8_3 < ((rd_L1 x5_3 x7_2).length : Int) then (spec_l9Table.l2 k3 a0 a1 (x5_3.set (x7_2 : Int).toNat ((rd_L1 x5_3 x7_2).set (x8_3 : Int).toNat (rd (rd_L1 x5_3 x7_2) (wrap64 (x8_3 + 1))))) x7_2 (wrap64 (x8_3 - 1))) else (none))) else (none)) else (none)) else (none)) else (none)) else (none)) else (none)) = some r := by first | (rw [e7] at H; exact H) | (simp only [e7] at H ⊢; exact H)
                 have hji42w : (IntKind.i64.wrap (x7_2 + 1)) = bO := (i64_w _).trans e7
                 by_cases ik : 0 ≤ (bO)
                 ·rw [if_pos ik] at H
                  have c43b0 : decide (0 ≤ (bO)) = true := dT ik
                  clear ik
                  by_cases lw : (bO) < (x5_3.length : Int)
                  ·rw [if_pos lw] at H
                   have c44b0 : decide ((bO) < (x5_3.length : Int)) = true := dT lw
                   have c44b0hl5_1 := c44b0
                   (try simp only [hl5_1] at c44b0hl5_1)
                   have c44b0hl5_2 := c44b0
                   (try simp only [hl5_2] at c44b0hl5_2)
                   have c44b0hl5_3 := c44b0
                   (try simp only [hl5_3] at c44b0hl5_3)
                   clear lw
                   by_cases kI : x8_3 < ((rd_L1 x5_3 (bO)).length : Int)
                   ·rw [if_pos kI] at H
                    have c45b0 : decide (x8_3 < ((rd_L1 x5_3 (bO)).length : Int)) = true := dT kI
                    have c45b0hl5_1 := c45b0
                    (try simp only [hl5_1] at c45b0hl5_1)
                    have c45b0hl5_2 := c45b0
                    (try simp only [hl5_2] at c45b0hl5_2)
                    have c45b0hl5_3 := c45b0
                    (try simp only [hl5_3] at c45b0hl5_3)
                    clear kI
                    by_cases kH : x7_2 < (x5_3.length : Int)
                    ·rw [if_pos kH] at H
                     have c46b0 : decide (x7_2 < (x5_3.length : Int)) = true := dT kH
                     have c46b0hl5_1 := c46b0
                     (try simp only [hl5_1] at c46b0hl5_1)
                     have c46b0hl5_2 := c46b0
                     (try simp only [hl5_2] at c46b0hl5_2)
                     have c46b0hl5_3 := c46b0
                     (try simp only [hl5_3] at c46b0hl5_3)
                     clear kH
                     obtain ⟨cq, e5⟩ : ∃ j_ : Int, (wrap64 (x8_3 + 1)) = j_ := ⟨_, rfl⟩
                     replace H : (if 0 ≤ (cq) then (if (cq) < ((rd_L1 x5_3 x7_2).length : Int) then (if (rd (rd_L1 x5_3 (bO)) x8_3) ≥ (rd (rd_L1 x5_3 x7_2) (cq)) then (if x8_3 < ((rd_L1 x5_3 x7_2).length : Int) then (spec_l9Table.l2 k3 a0 a1 (x5_3.set (x7_2 : Int).toNat ((rd_L1 x5_3 x7_2).set (x8_3 : Int).toNat (rd (rd_L1 x5_3 (bO)) x8_3))) x7_2 (wrap64 (x8_3 - 1))) else (none)) else (if x8_3 < ((rd_L1 x5_3 x7_2).length : Int) then (spec_l9Table.l2 k3 a0 a1 (x5_3.set (x7_2 : Int).toNat ((rd_L1 x5_3 x7_2).set (x8_3 : Int).toNat (rd (rd_L1 x5_3 x7_2) (cq)))) x7_2 (wrap64 (x8_3 - 1))) else (none))) else (none)) else (none)) = some r := by first | (rw [e5] at H; exact H) | (simp only [e5] at H ⊢; exact H)
                     have hji47w : (IntKind.i64.wrap (x8_3 + 1)) = cq := (i64_w _).trans e5
                     by_cases mt : 0 ≤ (cq)
                     ·rw [if_pos mt] at H
                      have c48b0 : decide (0 ≤ (cq)) = true := dT mt
                      clear mt
                      by_cases nC : (cq) < ((rd_L1 x5_3 x7_2).length : Int)
                      ·rw [if_pos nC] at H
                       have c49b0 : decide ((cq) < ((rd_L1 x5_3 x7_2).length : Int)) = true := dT nC
                       have c49b0hl5_1 := c49b0
                       (try simp only [hl5_1] at c49b0hl5_1)
                       have c49b0hl5_2 := c49b0
                       (try simp only [hl5_2] at c49b0hl5_2)
                       have c49b0hl5_3 := c49b0
                       (try simp only [hl5_3] at c49b0hl5_3)
                       clear nC
                       by_cases jT : (rd (rd_L1 x5_3 (bO)) x8_3) ≥ (rd (rd_L1 x5_3 x7_2) (cq))
                       ·rw [if_pos jT] at H
                        have c50b0 : decide ((rd (rd_L1 x5_3 x7_2) (cq)) ≤ (rd (rd_L1 x5_3 (bO)) x8_3)) = true := dT jT
                        clear jT
                        by_cases nB : x8_3 < ((rd_L1 x5_3 x7_2).length : Int)
                        ·rw [if_pos nB] at H
                         have c51b0 : decide (x8_3 < ((rd_L1 x5_3 x7_2).length : Int)) = true := dT nB
                         have c51b0hl5_1 := c51b0
                         (try simp only [hl5_1] at c51b0hl5_1)
                         have c51b0hl5_2 := c51b0
                         (try simp only [hl5_2] at c51b0hl5_2)
                         have c51b0hl5_3 := c51b0
                         (try simp only [hl5_3] at c51b0hl5_3)
                         clear nB
                         obtain ⟨y126, hy126⟩ : ∃ y_ : List Int, y_ = ((rd_L1 x5_3 x7_2).set (x8_3 : Int).toNat (rd (rd_L1 x5_3 (bO)) x8_3)) := ⟨_, rfl⟩
                         replace H : (spec_l9Table.l2 k3 a0 a1 (x5_3.set (x7_2 : Int).toNat y126) x7_2 (wrap64 (x8_3 - 1))) = some r := by first | (rw [hy126]; with_reducible exact H) | (have H2_ := (Option.bind_some _ _).symm.trans H; rw [hy126]; with_reducible exact H2_) | (have H2_ := (Option.bind_some _ _).symm.trans H; with_reducible exact H2_) | with_reducible exact H | (rw [hy126]; exact H) | exact H
                         have Ny126 := aM hy126
                         clear hy126
                         obtain ⟨y128, hy128⟩ : ∃ y_ : List (List Int), y_ = (x5_3.set (x7_2 : Int).toNat y126) := ⟨_, rfl⟩
                         replace H : (spec_l9Table.l2 k3 a0 a1 y128 x7_2 (wrap64 (x8_3 - 1))) = some r := by first | (rw [hy128]; with_reducible exact H) | (have H2_ := (Option.bind_some _ _).symm.trans H; rw [hy128]; with_reducible exact H2_) | (have H2_ := (Option.bind_some _ _).symm.trans H; with_reducible exact H2_) | with_reducible exact H | (rw [hy128]; exact H) | exact H
                         have Ny128 := aM hy128
                         clear hy128
                         have H' := aM H
                         clear H
                         try go_wp2
                         have aT := aM (Kd.S_drew aW.out)
                         have aU := aM (bD HB.out)
                         clear aW
                         clear HB
                         have aW := aT
                         have HB := aU
                         clear aT aU
                         have p24 : 0 ≤ (x7_2 : Int) := oD z2
                         have q24 : x7_2 < (a0.size : Int) := oD z2
                         have hx24 := bt_at a0 x7_2
                         replace p24 := eq_true p24
                         replace q24 := eq_true q24
                         have p27 : 0 ≤ (x8_3 : Int) := oD z2
                         have q27 : x8_3 < (a1.size : Int) := oD z2
                         have hx27 := bt_at a1 x8_3
                         replace p27 := eq_true p27
                         replace q27 := eq_true q27
                         refine start_ (n := 8) (S := fun w' => True) (ds := []) #[false, false, false, false, false, false, false, false] z0 rfl rfl trivial (fun hHeld => ?_); refine with_tabW spec_l9Table.tab14 spec_l9Table.bits14 (fun HT_ HW_ => ?_)
                         generalize wr.drew = w53 at aW HB hHeld ⊢
                         refine pA 0 55 ?_
                         refine pA 1 56 ?_
                         refine pA 3 58 ?_
                         refine pA 4 59 ?_
                         refine tA 2 57 ?_ (hy := by intro w' _; go_simp; with_reducible rfl)
                         refine tA 5 60 ?_ (hy := by intro w' _; go_simp; with_reducible rfl)
                         refine pA 6 61 ?_
                         refine pA 7 54 ?_
                         refine done_ (done_of HT_.out z0) ?_
                         try go_wp2
                         have aT := aM (Kd.S_drew aW.out)
                         have aU := aM (bD HB.out)
                         clear aW
                         clear HB
                         have aW := aT
                         have HB := aU
                         clear aT aU
                         have p119 : 0 ≤ ((bO) : Int) := oD z2
                         have q119 : (bO) < (x5_3.length : Int) := oD z2
                         obtain ⟨ad119, A119_0, iB, e119, hx119_0, hl119_0, hi119_0⟩ := at_L1 (Kd.S_reads' aW.out).2.2 (bO) p119 q119
                         cases e119
                         obtain ⟨ce119, hce119, hMe119, hcc119⟩ := Kd.S_get aW.out [] (bO) p119 (by first | exact q119 | exact oD z2 | (have e_ := (Kd.S_reads' aW.out).1; omega))
                         obtain ⟨ve119_0, rfl, ge119_0⟩ := hMe119
                         have hv119_0 := hcc119 0 _ rfl
                         rw [Nat.add_zero, show ((Kd.slice 3 (Kd.int .i64))).sz = 1 from rfl, Nat.mul_one] at hv119_0
                         replace hv119_0 := sI (hv119_0.symm.trans hx119_0)
                         rw [hv119_0] at ge119_0
                         have HL119_0 := aM (show Kd.R (Kd.int .i64) 3 _ _ _ _ (rd_L1 x5_3 (bO)) from ge119_0)
                         clear hv119_0 ge119_0
                         have HX119_0 := aM hx119_0
                         clear hcc119 hce119
                         have bX := aM hi119_0
                         have HC119_0 := aM hl119_0
                         clear hi119_0 hl119_0
                         replace p119 := eq_true p119
                         replace q119 := eq_true q119
                         have p120 : 0 ≤ (x8_3 : Int) := oD z2
                         have q120 : x8_3 < ((rd_L1 x5_3 (bO)).length : Int) := oD z2
                         obtain ⟨ad120, e120, hx120_0⟩ := Kd.at_int (by repeat (first | (with_reducible exact bX.out) | (with_reducible refine av ?_ _) | (with_reducible refine aw ?_ _) | (with_reducible refine ay ?_) | exact bX.out)) x8_3 p120 q120
                         cases e120
                         replace p120 := eq_true p120
                         replace q120 := eq_true q120
                         have p121 : 0 ≤ (x7_2 : Int) := oD z2
                         have q121 : x7_2 < (x5_3.length : Int) := oD z2
                         obtain ⟨ad121, A121_0, iA, e121, hx121_0, hl121_0, hi121_0⟩ := at_L1 (Kd.S_reads' aW.out).2.2 x7_2 p121 q121
                         obtain rfl : ad119 = ad121 := (by injection e121)
                         obtain ⟨ce121, hce121, hMe121, hcc121⟩ := Kd.S_get aW.out [] x7_2 p121 (by first | exact q121 | exact oD z2 | (have e_ := (Kd.S_reads' aW.out).1; omega))
                         obtain ⟨ve121_0, rfl, ge121_0⟩ := hMe121
                         have hv121_0 := hcc121 0 _ rfl
                         rw [Nat.add_zero, show ((Kd.slice 3 (Kd.int .i64))).sz = 1 from rfl, Nat.mul_one] at hv121_0
                         replace hv121_0 := sI (hv121_0.symm.trans hx121_0)
                         rw [hv121_0] at ge121_0
                         have HL121_0 := aM (show Kd.R (Kd.int .i64) 3 _ _ _ _ (rd_L1 x5_3 x7_2) from ge121_0)
                         clear hv121_0 ge121_0
                         have HX121_0 := aM hx121_0
                         clear hcc121 hce121
                         have bW := aM hi121_0
                         have HC121_0 := aM hl121_0
                         clear hi121_0 hl121_0
                         replace p121 := eq_true p121
                         replace q121 := eq_true q121
                         have p122 : 0 ≤ ((cq) : Int) := oD z2
                         have q122 : (cq) < ((rd_L1 x5_3 x7_2).length : Int) := oD z2
                         obtain ⟨ad122, e122, hx122_0⟩ := Kd.at_int (by repeat (first | (with_reducible exact bW.out) | (with_reducible refine av ?_ _) | (with_reducible refine aw ?_ _) | (with_reducible refine ay ?_) | exact bW.out)) (cq) p122 q122
                         cases e122
                         replace p122 := eq_true p122
                         replace q122 := eq_true q122
                         refine start_ (n := 18) (S := fun w' => w'.cell? (ad119.add ((bO)).toNat) = some (.slice (some ad120) (rd_L1 x5_3 (bO)).length iB) ∧ w'.cell? (ad120.add (x8_3).toNat) = some (.int .i64 (rd (rd_L1 x5_3 (bO)) x8_3)) ∧ w'.cell? (ad119.add (x7_2).toNat) = some (.slice (some ad122) (rd_L1 x5_3 x7_2).length iA) ∧ w'.cell? (ad122.add ((cq)).toNat) = some (.int .i64 (rd (rd_L1 x5_3 x7_2) (cq)))) (ds := []) #[false, false, false, false, false, false, false, false, false, false, false, false, false, false, false, false, false, false] z0 rfl rfl ⟨hx119_0, hx120_0, hx121_0, hx122_0⟩ (fun hHeld => ?_); refine with_tabW spec_l9Table.tab16 spec_l9Table.bits16 (fun HT_ HW_ => ?_)
                         generalize w53.drew = w54 at aW HB HL119_0 HL121_0 bX bW HX119_0 HX121_0 hx119_0 hx120_0 hx121_0 hx122_0 hHeld ⊢
                         refine pA 0 79 ?_
                         refine pA 1 80 ?_
                         refine pA 2 81 ?_
                         refine pA 3 82 ?_
                         refine pA 5 84 ?_
                         refine pA 8 87 ?_
                         refine pA 9 88 ?_
                         refine pA 10 89 ?_
                         refine pA 12 91 ?_
                         refine pA 13 92 ?_
                         refine tA 4 83 ?_ (hy := by rintro w' ⟨s0, s1, s2, s3⟩; go_simp; with_reducible rfl)
                         refine pA 6 85 ?_
                         refine tA 7 86 ?_ (hy := by rintro w' ⟨s0, s1, s2, s3⟩; go_simp; with_reducible rfl)
                         refine tA 11 90 ?_ (hy := by rintro w' ⟨s0, s1, s2, s3⟩; go_simp; with_reducible rfl)
                         refine pA 14 93 ?_
                         refine tA 15 94 ?_ (hy := by rintro w' ⟨s0, s1, s2, s3⟩; go_simp; with_reducible rfl)
                         refine pA 16 95 ?_
                         refine pA 17 78 ?_
                         refine done_ (done_of HT_.out z0) ?_
                         try go_wp2
                         have aT := aM (Kd.S_drew aW.out)
                         have aU := aM (aa HL119_0.out)
                         have aX := aM (aa HL121_0.out)
                         have a5 := aM (ay bX.out)
                         have bf := aM (ay bW.out)
                         have cf := aM (bD HB.out)
                         clear aW
                         clear HL119_0
                         clear HL121_0
                         clear bX
                         clear bW
                         clear HB
                         have aW := aT
                         have HL119_0 := aU
                         have HL121_0 := aX
                         have bX := a5
                         have bW := bf
                         have HB := cf
                         clear aT aU aX a5 bf cf
                         have p123 : 0 ≤ (x7_2 : Int) := oD z2
                         have q123 : x7_2 < (x5_3.length : Int) := oD z2
                         obtain ⟨ad123, A123_0, c123_0, e123, hx123_0, hl123_0, hi123_0⟩ := at_L1 (Kd.S_reads' aW.out).2.2 x7_2 p123 q123
                         obtain rfl : ad119 = ad123 := (by injection e123)
                         obtain ⟨ce123, hce123, hMe123, hcc123⟩ := Kd.S_get aW.out [] x7_2 p123 (by first | exact q123 | exact oD z2 | (have e_ := (Kd.S_reads' aW.out).1; omega))
                         obtain ⟨ve123_0, rfl, ge123_0⟩ := hMe123
                         have hv123_0 := hcc123 0 _ rfl
                         rw [Nat.add_zero, show ((Kd.slice 3 (Kd.int .i64))).sz = 1 from rfl, Nat.mul_one] at hv123_0
                         replace hv123_0 := sI (hv123_0.symm.trans hx123_0)
                         rw [hv123_0] at ge123_0
                         have HL123_0 := aM (show Kd.R (Kd.int .i64) 3 _ _ _ _ (rd_L1 x5_3 x7_2) from ge123_0)
                         clear hv123_0 ge123_0
                         have HX123_0 := aM hx123_0
                         clear hcc123 hce123
                         have HR123_0 := aM hi123_0
                         have HC123_0 := aM hl123_0
                         clear hi123_0 hl123_0
                         replace p123 := eq_true p123
                         replace q123 := eq_true q123
                         have p124 : 0 ≤ ((bO) : Int) := oD z2
                         have q124 : (bO) < (x5_3.length : Int) := oD z2
                         obtain ⟨ad124, A124_0, c124_0, e124, hx124_0, hl124_0, hi124_0⟩ := at_L1 (Kd.S_reads' aW.out).2.2 (bO) p124 q124
                         obtain rfl : ad119 = ad124 := (by injection e124)
                         obtain ⟨ce124, hce124, hMe124, hcc124⟩ := Kd.S_get aW.out [] (bO) p124 (by first | exact q124 | exact oD z2 | (have e_ := (Kd.S_reads' aW.out).1; omega))
                         obtain ⟨ve124_0, rfl, ge124_0⟩ := hMe124
                         have hv124_0 := hcc124 0 _ rfl
                         rw [Nat.add_zero, show ((Kd.slice 3 (Kd.int .i64))).sz = 1 from rfl, Nat.mul_one] at hv124_0
                         replace hv124_0 := sI (hv124_0.symm.trans hx124_0)
                         rw [hv124_0] at ge124_0
                         have HL124_0 := aM (show Kd.R (Kd.int .i64) 3 _ _ _ _ (rd_L1 x5_3 (bO)) from ge124_0)
                         clear hv124_0 ge124_0
                         have HX124_0 := aM hx124_0
                         clear hcc124 hce124
                         have gR := aM hi124_0
                         have HC124_0 := aM hl124_0
                         clear hi124_0 hl124_0
                         replace p124 := eq_true p124
                         replace q124 := eq_true q124
                         have p125 : 0 ≤ (x8_3 : Int) := oD z2
                         have q125 : x8_3 < ((rd_L1 x5_3 (bO)).length : Int) := oD z2
                         obtain ⟨ad125, e125, hx125_0⟩ := Kd.at_int (by repeat (first | (with_reducible exact gR.out) | (with_reducible refine av ?_ _) | (with_reducible refine aw ?_ _) | (with_reducible refine ay ?_) | exact gR.out)) x8_3 p125 q125
                         cases e125
                         replace p125 := eq_true p125
                         replace q125 := eq_true q125
                         have p52 : 0 ≤ (x8_3 : Int) := oD z2
                         have q52 : (x8_3 : Int) < (((rd_L1 x5_3 x7_2).length : Int) : Int) := oD z2
                         obtain ⟨go52, co52, eo52, mR, gl52, cl52, HG52⟩ := Kd.R_form HL123_0.out (by omega)
                         (first | cases eo52 | (injection eo52 with ea_ en_ ec_; (first | subst ea_ | (injection ea_ with ea_; subst ea_)); subst ec_; clear en_))
                         have GB52 := aM mR
                         have GG52 := aM HG52
                         clear mR gl52 HG52
                         obtain ⟨hx52_0, hf52_0⟩ := Kd.R_celln 0 HL123_0.out (x8_3 : Int) p52 q52
                         replace p52 := eq_true p52
                         replace q52 := eq_true q52
                         have hq56 : (x7_2 : Int) < (x5_3.length : Int) := (by have h_ : (x7_2 : Int) < ((x5_3.length : Int) : Int) := oD z2; first | exact h_ | (have e_ := (Kd.S_reads' aW.out).1; omega) | simpa only [List.length_set, List.length_set] using h_)
                         obtain ⟨oki56, ce56, hcl56, hM56, hcc56, hok56, hbk56⟩ := Kd.S_borrow aW.out [] (x7_2 : Int) (oD z2) hq56
                         obtain ⟨ve56_0, rfl, ge56_0⟩ := hM56
                         have hv56 := hcc56 0 _ rfl
                         rw [Nat.add_zero, show ((Kd.slice 3 (Kd.int .i64))).sz = 1 from rfl, Nat.mul_one] at hv56
                         replace hv56 := sI (hv56.symm.trans HX123_0.out)
                         subst hv56
                         clear hcc56 hcl56
                         replace ge56_0 := (show Kd.R (Kd.int .i64) 3 _ _ _ _ (rd_L1 x5_3 x7_2) from ge56_0)
                         have HP56 := Kd.R_putg ge56_0 (x8_3 : Int) (rd (rd_L1 x5_3 (bO)) x8_3)
                         rw [← Ny126.out] at HP56
                         have HS56 := hbk56 HP56.2 (fun k_ e_ => by injection e_ with e_; subst e_; exact ge56_0.1 _ rfl) (x' := y126) (Kd.M_row HP56.1)
                         rw [← Ny128.out] at HS56
                         have HQ56 := aM HS56
                         clear HP56 HS56 hbk56 hok56
                         refine start_ (n := 15) (S := fun w' => w'.cell? (ad119.add (x7_2).toNat) = some (.slice (some ⟨go52, 0, none⟩) (rd_L1 x5_3 x7_2).length c123_0) ∧ w'.cell? (ad119.add ((bO)).toNat) = some (.slice (some ad125) (rd_L1 x5_3 (bO)).length c124_0) ∧ w'.cell? (ad125.add (x8_3).toNat) = some (.int .i64 (rd (rd_L1 x5_3 (bO)) x8_3))) (ds := [14]) #[false, false, false, false, false, false, false, false, false, false, false, false, false, false, false] z0 rfl rfl ⟨hx123_0, hx124_0, hx125_0⟩ (fun hHeld => ?_); refine with_tabW spec_l9Table.tab17 spec_l9Table.bits17 (fun HT_ HW_ => ?_)
                         generalize w54.drew = w55 at aW HL119_0 HL121_0 bX bW HB GG52 HL123_0 HL124_0 HQ56 HR123_0 gR HX123_0 HX124_0 hf52_0 hx123_0 hx124_0 hx125_0 hx52_0 hHeld ⊢
                         refine pA 0 96 ?_
                         refine pA 1 97 ?_
                         refine pA 2 98 ?_
                         refine pA 4 100 ?_
                         refine pA 5 101 ?_
                         refine pA 6 102 ?_
                         refine pA 7 103 ?_
                         refine pA 8 104 ?_
                         refine pA 10 106 ?_
                         refine tA 3 99 ?_ (hy := by rintro w' ⟨s0, s1, s2⟩; go_simp; with_reducible rfl)
                         refine tA 9 105 ?_ (hy := by rintro w' ⟨s0, s1, s2⟩; go_simp; with_reducible rfl)
                         refine pA 11 107 ?_
                         refine tA 12 108 ?_ (hy := by rintro w' ⟨s0, s1, s2⟩; go_simp; with_reducible rfl)
                         refine pA 13 109 ?_
                         refine last_ (i := 14) (N := none) #[true, true, true, true, true, true, true, true, true, true, true, true, true, true, true] rfl rfl (one_of HT_.out z0) (by decide) (fun K hK => ?_)
                         refine skip_ (w1 := ?_) (by rfl) rfl ?_ ?_
                         rotate_left
                         ·go_simp
                          rfl
                         refine hK.out _ _ ?_
                         clear hK K
                         refine done_ (done_of HT_.out z0) ?_
                         try go_wp2
                         (try simp only [← hl5_3])
                         go_roundg k3
                         case measure => have := HK1.out; have := HK2.out; have := HK3.out; omega
                         case rel => exact ⟨(y128), (wrap64 (x8_3 - 1)), z1, (by first | exact H' | (simp only [cI, e7, e5]; exact H') | (simp only [← cI, ← e7, ← e5]; exact H')), ⟨by have := HK1.out; have := HK2.out; have := HK3.out; omega⟩, ⟨by (try simp only [hl5_1]); (try simp only [hl5_2]); (try simp only [hl5_3]); (with_reducible repeat (first | apply Kd.S_alloc | apply Kd.S_drewN | apply Kd.S_drew)); exact HQ56.out⟩, ⟨by repeat (first | (with_reducible first | exact HB.out | apply bA | apply pD | apply bD | refine ao ?_ GB52.out) | exact HB.out)⟩⟩
                        ·rw [if_neg nB] at H
                         exact absurd H (by simp)
                       ·rw [if_neg jT] at H
                        have c50b0 : decide ((rd (rd_L1 x5_3 x7_2) (cq)) ≤ (rd (rd_L1 x5_3 (bO)) x8_3)) = false := dF jT
                        clear jT
                        by_cases ld : x8_3 < ((rd_L1 x5_3 x7_2).length : Int)
                        ·rw [if_pos ld] at H
                         have c58b0 : decide (x8_3 < ((rd_L1 x5_3 x7_2).length : Int)) = true := dT ld
                         have c58b0hl5_1 := c58b0
                         (try simp only [hl5_1] at c58b0hl5_1)
                         have c58b0hl5_2 := c58b0
                         (try simp only [hl5_2] at c58b0hl5_2)
                         have c58b0hl5_3 := c58b0
                         (try simp only [hl5_3] at c58b0hl5_3)
                         clear ld
                         obtain ⟨y132, hy132⟩ : ∃ y_ : List Int, y_ = ((rd_L1 x5_3 x7_2).set (x8_3 : Int).toNat (rd (rd_L1 x5_3 x7_2) (cq))) := ⟨_, rfl⟩
                         replace H : (spec_l9Table.l2 k3 a0 a1 (x5_3.set (x7_2 : Int).toNat y132) x7_2 (wrap64 (x8_3 - 1))) = some r := by first | (rw [hy132]; with_reducible exact H) | (have H2_ := (Option.bind_some _ _).symm.trans H; rw [hy132]; with_reducible exact H2_) | (have H2_ := (Option.bind_some _ _).symm.trans H; with_reducible exact H2_) | with_reducible exact H | (rw [hy132]; exact H) | exact H
                         have Ny132 := aM hy132
                         clear hy132
                         obtain ⟨y134, hy134⟩ : ∃ y_ : List (List Int), y_ = (x5_3.set (x7_2 : Int).toNat y132) := ⟨_, rfl⟩
                         replace H : (spec_l9Table.l2 k3 a0 a1 y134 x7_2 (wrap64 (x8_3 - 1))) = some r := by first | (rw [hy134]; with_reducible exact H) | (have H2_ := (Option.bind_some _ _).symm.trans H; rw [hy134]; with_reducible exact H2_) | (have H2_ := (Option.bind_some _ _).symm.trans H; with_reducible exact H2_) | with_reducible exact H | (rw [hy134]; exact H) | exact H
                         have Ny134 := aM hy134
                         clear hy134
                         have H' := aM H
                         clear H
                         try go_wp2
                         have aT := aM (Kd.S_drew aW.out)
                         have aU := aM (bD HB.out)
                         clear aW
                         clear HB
                         have aW := aT
                         have HB := aU
                         clear aT aU
                         have p24 : 0 ≤ (x7_2 : Int) := oD z2
                         have q24 : x7_2 < (a0.size : Int) := oD z2
                         have hx24 := bt_at a0 x7_2
                         replace p24 := eq_true p24
                         replace q24 := eq_true q24
                         have p27 : 0 ≤ (x8_3 : Int) := oD z2
                         have q27 : x8_3 < (a1.size : Int) := oD z2
                         have hx27 := bt_at a1 x8_3
                         replace p27 := eq_true p27
                         replace q27 := eq_true q27
                         refine start_ (n := 8) (S := fun w' => True) (ds := []) #[false, false, false, false, false, false, false, false] z0 rfl rfl trivial (fun hHeld => ?_); refine with_tabW spec_l9Table.tab14 spec_l9Table.bits14 (fun HT_ HW_ => ?_)
                         generalize wr.drew = w60 at aW HB hHeld ⊢
                         refine pA 0 55 ?_
                         refine pA 1 56 ?_
                         refine pA 3 58 ?_
                         refine pA 4 59 ?_
                         refine tA 2 57 ?_ (hy := by intro w' _; go_simp; with_reducible rfl)
                         refine tA 5 60 ?_ (hy := by intro w' _; go_simp; with_reducible rfl)
                         refine pA 6 61 ?_
                         refine pA 7 54 ?_
                         refine done_ (done_of HT_.out z0) ?_
                         try go_wp2
                         have aT := aM (Kd.S_drew aW.out)
                         have aU := aM (bD HB.out)
                         clear aW
                         clear HB
                         have aW := aT
                         have HB := aU
                         clear aT aU
                         have p119 : 0 ≤ ((bO) : Int) := oD z2
                         have q119 : (bO) < (x5_3.length : Int) := oD z2
                         obtain ⟨ad119, A119_0, iB, e119, hx119_0, hl119_0, hi119_0⟩ := at_L1 (Kd.S_reads' aW.out).2.2 (bO) p119 q119
                         cases e119
                         obtain ⟨ce119, hce119, hMe119, hcc119⟩ := Kd.S_get aW.out [] (bO) p119 (by first | exact q119 | exact oD z2 | (have e_ := (Kd.S_reads' aW.out).1; omega))
                         obtain ⟨ve119_0, rfl, ge119_0⟩ := hMe119
                         have hv119_0 := hcc119 0 _ rfl
                         rw [Nat.add_zero, show ((Kd.slice 3 (Kd.int .i64))).sz = 1 from rfl, Nat.mul_one] at hv119_0
                         replace hv119_0 := sI (hv119_0.symm.trans hx119_0)
                         rw [hv119_0] at ge119_0
                         have HL119_0 := aM (show Kd.R (Kd.int .i64) 3 _ _ _ _ (rd_L1 x5_3 (bO)) from ge119_0)
                         clear hv119_0 ge119_0
                         have HX119_0 := aM hx119_0
                         clear hcc119 hce119
                         have bX := aM hi119_0
                         have HC119_0 := aM hl119_0
                         clear hi119_0 hl119_0
                         replace p119 := eq_true p119
                         replace q119 := eq_true q119
                         have p120 : 0 ≤ (x8_3 : Int) := oD z2
                         have q120 : x8_3 < ((rd_L1 x5_3 (bO)).length : Int) := oD z2
                         obtain ⟨ad120, e120, hx120_0⟩ := Kd.at_int (by repeat (first | (with_reducible exact bX.out) | (with_reducible refine av ?_ _) | (with_reducible refine aw ?_ _) | (with_reducible refine ay ?_) | exact bX.out)) x8_3 p120 q120
                         cases e120
                         replace p120 := eq_true p120
                         replace q120 := eq_true q120
                         have p121 : 0 ≤ (x7_2 : Int) := oD z2
                         have q121 : x7_2 < (x5_3.length : Int) := oD z2
                         obtain ⟨ad121, A121_0, iA, e121, hx121_0, hl121_0, hi121_0⟩ := at_L1 (Kd.S_reads' aW.out).2.2 x7_2 p121 q121
                         obtain rfl : ad119 = ad121 := (by injection e121)
                         obtain ⟨ce121, hce121, hMe121, hcc121⟩ := Kd.S_get aW.out [] x7_2 p121 (by first | exact q121 | exact oD z2 | (have e_ := (Kd.S_reads' aW.out).1; omega))
                         obtain ⟨ve121_0, rfl, ge121_0⟩ := hMe121
                         have hv121_0 := hcc121 0 _ rfl
                         rw [Nat.add_zero, show ((Kd.slice 3 (Kd.int .i64))).sz = 1 from rfl, Nat.mul_one] at hv121_0
                         replace hv121_0 := sI (hv121_0.symm.trans hx121_0)
                         rw [hv121_0] at ge121_0
                         have HL121_0 := aM (show Kd.R (Kd.int .i64) 3 _ _ _ _ (rd_L1 x5_3 x7_2) from ge121_0)
                         clear hv121_0 ge121_0
                         have HX121_0 := aM hx121_0
                         clear hcc121 hce121
                         have bW := aM hi121_0
                         have HC121_0 := aM hl121_0
                         clear hi121_0 hl121_0
                         replace p121 := eq_true p121
                         replace q121 := eq_true q121
                         have p122 : 0 ≤ ((cq) : Int) := oD z2
                         have q122 : (cq) < ((rd_L1 x5_3 x7_2).length : Int) := oD z2
                         obtain ⟨ad122, e122, hx122_0⟩ := Kd.at_int (by repeat (first | (with_reducible exact bW.out) | (with_reducible refine av ?_ _) | (with_reducible refine aw ?_ _) | (with_reducible refine ay ?_) | exact bW.out)) (cq) p122 q122
                         cases e122
                         replace p122 := eq_true p122
                         replace q122 := eq_true q122
                         refine start_ (n := 18) (S := fun w' => w'.cell? (ad119.add ((bO)).toNat) = some (.slice (some ad120) (rd_L1 x5_3 (bO)).length iB) ∧ w'.cell? (ad120.add (x8_3).toNat) = some (.int .i64 (rd (rd_L1 x5_3 (bO)) x8_3)) ∧ w'.cell? (ad119.add (x7_2).toNat) = some (.slice (some ad122) (rd_L1 x5_3 x7_2).length iA) ∧ w'.cell? (ad122.add ((cq)).toNat) = some (.int .i64 (rd (rd_L1 x5_3 x7_2) (cq)))) (ds := []) #[false, false, false, false, false, false, false, false, false, false, false, false, false, false, false, false, false, false] z0 rfl rfl ⟨hx119_0, hx120_0, hx121_0, hx122_0⟩ (fun hHeld => ?_); refine with_tabW spec_l9Table.tab16 spec_l9Table.bits16 (fun HT_ HW_ => ?_)
                         generalize w60.drew = w61 at aW HB HL119_0 HL121_0 bX bW HX119_0 HX121_0 hx119_0 hx120_0 hx121_0 hx122_0 hHeld ⊢
                         refine pA 0 79 ?_
                         refine pA 1 80 ?_
                         refine pA 2 81 ?_
                         refine pA 3 82 ?_
                         refine pA 5 84 ?_
                         refine pA 8 87 ?_
                         refine pA 9 88 ?_
                         refine pA 10 89 ?_
                         refine pA 12 91 ?_
                         refine pA 13 92 ?_
                         refine tA 4 83 ?_ (hy := by rintro w' ⟨s0, s1, s2, s3⟩; go_simp; with_reducible rfl)
                         refine pA 6 85 ?_
                         refine tA 7 86 ?_ (hy := by rintro w' ⟨s0, s1, s2, s3⟩; go_simp; with_reducible rfl)
                         refine tA 11 90 ?_ (hy := by rintro w' ⟨s0, s1, s2, s3⟩; go_simp; with_reducible rfl)
                         refine pA 14 93 ?_
                         refine tA 15 94 ?_ (hy := by rintro w' ⟨s0, s1, s2, s3⟩; go_simp; with_reducible rfl)
                         refine pA 16 95 ?_
                         refine pA 17 78 ?_
                         refine done_ (done_of HT_.out z0) ?_
                         try go_wp2
                         have aT := aM (Kd.S_drew aW.out)
                         have aU := aM (aa HL119_0.out)
                         have aX := aM (aa HL121_0.out)
                         have a5 := aM (ay bX.out)
                         have bf := aM (ay bW.out)
                         have cf := aM (bD HB.out)
                         clear aW
                         clear HL119_0
                         clear HL121_0
                         clear bX
                         clear bW
                         clear HB
                         have aW := aT
                         have HL119_0 := aU
                         have HL121_0 := aX
                         have bX := a5
                         have bW := bf
                         have HB := cf
                         clear aT aU aX a5 bf cf
                         have p129 : 0 ≤ (x7_2 : Int) := oD z2
                         have q129 : x7_2 < (x5_3.length : Int) := oD z2
                         obtain ⟨ad129, A129_0, kK, e129, hx129_0, hl129_0, hi129_0⟩ := at_L1 (Kd.S_reads' aW.out).2.2 x7_2 p129 q129
                         obtain rfl : ad119 = ad129 := (by injection e129)
                         obtain ⟨ce129, hce129, hMe129, hcc129⟩ := Kd.S_get aW.out [] x7_2 p129 (by first | exact q129 | exact oD z2 | (have e_ := (Kd.S_reads' aW.out).1; omega))
                         obtain ⟨ve129_0, rfl, ge129_0⟩ := hMe129
                         have hv129_0 := hcc129 0 _ rfl
                         rw [Nat.add_zero, show ((Kd.slice 3 (Kd.int .i64))).sz = 1 from rfl, Nat.mul_one] at hv129_0
                         replace hv129_0 := sI (hv129_0.symm.trans hx129_0)
                         rw [hv129_0] at ge129_0
                         have HL129_0 := aM (show Kd.R (Kd.int .i64) 3 _ _ _ _ (rd_L1 x5_3 x7_2) from ge129_0)
                         clear hv129_0 ge129_0
                         have HX129_0 := aM hx129_0
                         clear hcc129 hce129
                         have HR129_0 := aM hi129_0
                         have HC129_0 := aM hl129_0
                         clear hi129_0 hl129_0
                         replace p129 := eq_true p129
                         replace q129 := eq_true q129
                         have p130 : 0 ≤ (x7_2 : Int) := oD z2
                         have q130 : x7_2 < (x5_3.length : Int) := oD z2
                         obtain ⟨ad130, A130_0, c130_0, e130, hx130_0, hl130_0, hi130_0⟩ := at_L1 (Kd.S_reads' aW.out).2.2 x7_2 p130 q130
                         obtain rfl : ad119 = ad130 := (by injection e130)
                         obtain ⟨ce130, hce130, hMe130, hcc130⟩ := Kd.S_get aW.out [] x7_2 p130 (by first | exact q130 | exact oD z2 | (have e_ := (Kd.S_reads' aW.out).1; omega))
                         obtain ⟨ve130_0, rfl, ge130_0⟩ := hMe130
                         have hv130_0 := hcc130 0 _ rfl
                         rw [Nat.add_zero, show ((Kd.slice 3 (Kd.int .i64))).sz = 1 from rfl, Nat.mul_one] at hv130_0
                         replace hv130_0 := sI (hv130_0.symm.trans hx130_0)
                         rw [hv130_0] at ge130_0
                         have HL130_0 := aM (show Kd.R (Kd.int .i64) 3 _ _ _ _ (rd_L1 x5_3 x7_2) from ge130_0)
                         clear hv130_0 ge130_0
                         have HX130_0 := aM hx130_0
                         clear hcc130 hce130
                         have gQ := aM hi130_0
                         have HC130_0 := aM hl130_0
                         clear hi130_0 hl130_0
                         replace p130 := eq_true p130
                         replace q130 := eq_true q130
                         have ea_ := sI (hx129_0.symm.trans hx130_0)
                         injection ea_ with ea_ en_ ec_
                         subst ea_
                         subst ec_
                         clear en_
                         have p131 : 0 ≤ ((cq) : Int) := oD z2
                         have q131 : (cq) < ((rd_L1 x5_3 x7_2).length : Int) := oD z2
                         obtain ⟨ad131, e131, hx131_0⟩ := Kd.at_int (by repeat (first | (with_reducible exact gQ.out) | (with_reducible refine av ?_ _) | (with_reducible refine aw ?_ _) | (with_reducible refine ay ?_) | exact gQ.out)) (cq) p131 q131
                         cases e131
                         replace p131 := eq_true p131
                         replace q131 := eq_true q131
                         have p59 : 0 ≤ (x8_3 : Int) := oD z2
                         have q59 : (x8_3 : Int) < (((rd_L1 x5_3 x7_2).length : Int) : Int) := oD z2
                         obtain ⟨go59, co59, eo59, mQ, gl59, cl59, HG59⟩ := Kd.R_form HL129_0.out (by omega)
                         (first | cases eo59 | (injection eo59 with ea_ en_ ec_; (first | subst ea_ | (injection ea_ with ea_; subst ea_)); subst ec_; clear en_))
                         have GB59 := aM mQ
                         have GG59 := aM HG59
                         clear mQ gl59 HG59
                         (first | simp only [add_plain] at hx131_0 | skip)
                         obtain ⟨hx59_0, hf59_0⟩ := Kd.R_celln 0 HL129_0.out (x8_3 : Int) p59 q59
                         replace p59 := eq_true p59
                         replace q59 := eq_true q59
                         have hq63 : (x7_2 : Int) < (x5_3.length : Int) := (by have h_ : (x7_2 : Int) < ((x5_3.length : Int) : Int) := oD z2; first | exact h_ | (have e_ := (Kd.S_reads' aW.out).1; omega) | simpa only [List.length_set, List.length_set] using h_)
                         obtain ⟨oki63, ce63, hcl63, hM63, hcc63, hok63, hbk63⟩ := Kd.S_borrow aW.out [] (x7_2 : Int) (oD z2) hq63
                         obtain ⟨ve63_0, rfl, ge63_0⟩ := hM63
                         have hv63 := hcc63 0 _ rfl
                         rw [Nat.add_zero, show ((Kd.slice 3 (Kd.int .i64))).sz = 1 from rfl, Nat.mul_one] at hv63
                         replace hv63 := sI (hv63.symm.trans HX129_0.out)
                         subst hv63
                         clear hcc63 hcl63
                         replace ge63_0 := (show Kd.R (Kd.int .i64) 3 _ _ _ _ (rd_L1 x5_3 x7_2) from ge63_0)
                         have HP63 := Kd.R_putg ge63_0 (x8_3 : Int) (rd (rd_L1 x5_3 x7_2) (cq))
                         rw [← Ny132.out] at HP63
                         have HS63 := hbk63 HP63.2 (fun k_ e_ => by injection e_ with e_; subst e_; exact ge63_0.1 _ rfl) (x' := y132) (Kd.M_row HP63.1)
                         rw [← Ny134.out] at HS63
                         have HQ63 := aM HS63
                         clear HP63 HS63 hbk63 hok63
                         refine start_ (n := 15) (S := fun w' => w'.cell? (ad119.add (x7_2).toNat) = some (.slice (some ⟨go59, 0, none⟩) (rd_L1 x5_3 x7_2).length kK) ∧ w'.cell? (ad119.add (x7_2).toNat) = some (.slice (some ⟨go59, 0, none⟩) (rd_L1 x5_3 x7_2).length kK) ∧ w'.cell? ⟨go59, ((cq)).toNat, none⟩ = some (.int .i64 (rd (rd_L1 x5_3 x7_2) (cq)))) (ds := [14]) #[false, false, false, false, false, false, false, false, false, false, false, false, false, false, false] z0 rfl rfl ⟨hx129_0, hx130_0, hx131_0⟩ (fun hHeld => ?_); refine with_tabW spec_l9Table.tab13 spec_l9Table.bits13 (fun HT_ HW_ => ?_)
                         generalize w61.drew = w62 at aW HL119_0 HL121_0 bX bW HB GG59 HL129_0 HL130_0 HQ63 HR129_0 gQ HX129_0 HX130_0 hf59_0 hx129_0 hx130_0 hx131_0 hx59_0 hHeld ⊢
                         refine pA 0 40 ?_
                         refine pA 1 41 ?_
                         refine pA 2 42 ?_
                         refine pA 4 44 ?_
                         refine pA 5 45 ?_
                         refine pA 6 46 ?_
                         refine pA 7 47 ?_
                         refine pA 9 49 ?_
                         refine pA 10 50 ?_
                         refine tA 3 43 ?_ (hy := by rintro w' ⟨s0, s1, s2⟩; go_simp; with_reducible rfl)
                         refine tA 8 48 ?_ (hy := by rintro w' ⟨s0, s1, s2⟩; go_simp; with_reducible rfl)
                         refine pA 11 51 ?_
                         refine tA 12 52 ?_ (hy := by rintro w' ⟨s0, s1, s2⟩; go_simp; with_reducible rfl)
                         refine pA 13 53 ?_
                         refine last_ (i := 14) (N := none) #[true, true, true, true, true, true, true, true, true, true, true, true, true, true, true] rfl rfl (one_of HT_.out z0) (by decide) (fun K hK => ?_)
                         refine skip_ (w1 := ?_) (by rfl) rfl ?_ ?_
                         rotate_left
                         ·go_simp
                          rfl
                         refine hK.out _ _ ?_
                         clear hK K
                         refine done_ (done_of HT_.out z0) ?_
                         try go_wp2
                         (try simp only [← hl5_3])
                         go_roundg k3
                         case measure => have := HK1.out; have := HK2.out; have := HK3.out; omega
                         case rel => exact ⟨(y134), (wrap64 (x8_3 - 1)), z1, (by first | exact H' | (simp only [cI, e7, e5]; exact H') | (simp only [← cI, ← e7, ← e5]; exact H')), ⟨by have := HK1.out; have := HK2.out; have := HK3.out; omega⟩, ⟨by (try simp only [hl5_1]); (try simp only [hl5_2]); (try simp only [hl5_3]); (with_reducible repeat (first | apply Kd.S_alloc | apply Kd.S_drewN | apply Kd.S_drew)); exact HQ63.out⟩, ⟨by repeat (first | (with_reducible first | exact HB.out | apply bA | apply pD | apply bD | refine ao ?_ GB59.out) | exact HB.out)⟩⟩
                        ·rw [if_neg ld] at H
                         exact absurd H (by simp)
                      ·rw [if_neg nC] at H
                       exact absurd H (by simp)
                     ·rw [if_neg mt] at H
                      exact absurd H (by simp)
                    ·rw [if_neg kH] at H
                     exact absurd H (by simp)
                   ·rw [if_neg kI] at H
                    exact absurd H (by simp)
                  ·rw [if_neg lw] at H
                   exact absurd H (by simp)
                 ·rw [if_neg ik] at H
                  exact absurd H (by simp)
               ·rw [if_neg eD] at H
                exact absurd H (by simp)
              ·rw [if_neg eA] at H
               exact absurd H (by simp)
             ·rw [if_neg dw] at H
              exact absurd H (by simp)
            ·rw [if_neg ec] at H
             exact absurd H (by simp)
           ·rw [if_neg cF] at H
            have c21b0 : decide (0 ≤ x8_3) = false := dF cF
            clear cF
            have H' := aM H
            clear H
            go_wp2
            (try simp only [← hl5_2, ← hl5_3])
            go_roundg k3
            case measure => have := HK1.out; have := HK2.out; have := HK3.out; omega
            case rel => exact ⟨(x5_3), (wrap64 (x7_2 - 1)), z1, (by first | exact H' | (simp only [cI]; exact H') | (simp only [← cI]; exact H')), ⟨by have := HK1.out; have := HK2.out; have := HK3.out; omega⟩, ⟨by (try simp only [hl5_1]); (try simp only [hl5_2]); (try simp only [hl5_3]); (with_reducible repeat (first | apply Kd.S_alloc | apply Kd.S_drewN | apply Kd.S_drew)); exact aW.out⟩, ⟨y5⟩⟩
        ·rw [if_neg dd] at H
         have c20b0 : decide (0 ≤ x7_2) = false := dF dd
         clear dd
         obtain rfl := sI H
         go_wp2
         go_ret
         exact ⟨_, by first | rfl | (simp [errW_none, errW_some] <;> rfl) | (simp only [← cI]; first | rfl | (simp [errW_none, errW_some] <;> rfl)) | (simp [*, errW_none, errW_some] <;> rfl), y6, y5⟩
  ·rw [if_neg c5] at H
   exact absurd H (by simp)
 ·rw [if_neg c4] at H
  exact absurd H (by simp)

end Go.Proofs.Ytifllccpfiobfaa.AFnExactMergeThree
