-- this session's own text: written by wip/tools/ownprint.py over the kit's print
import Derived.Test.YtpbelbckinpinaaAFnDiffx0
namespace Go.Proofs.Ytpbelbckinpinaa.AFnDiff
open Go.RowKit Go.Proofs.YtpbelbckinpinaaW.PrintWords Go.Proofs.YtpbelbckinpinaaW.PrintLast Go.Proofs.YtpbelbckinpinaaW.PrintMore
attribute [local go_sem] max2_int min2_int max_two min_two max_three min_three max_four min_four   -- for this text's walks alone
set_option linter.unusedVariables false
set_option linter.unusedSimpArgs false

/-! ### spec_l9Table: function 98 -/
mutual
def spec_l9Table.l0 : Nat → ByteArray → ByteArray → List (List Int) → Int → Int → Option ((List (List Int)))
 | 0, _, _, _, _, _ => none
 | k + 1, x0, x1, x5, x14, x15 => if x15 < x14 then (if 0 ≤ (wrap64 ((x1.size : Int) + 1)) then (if (wrap64 ((x1.size : Int) + 1) : Int).toNat ≤ 35184372088832 then (if 0 ≤ x15 then (if x15 < (x5.length : Int) then (spec_l9Table.l0 k x0 x1 (x5.set (x15 : Int).toNat (List.replicate (wrap64 ((x1.size : Int) + 1) : Int).toNat 0)) x14 (wrap64 (x15 + 1))) else (none)) else (none)) else (none)) else (none)) else (spec_l9Table.l1 k x0 x1 x5 (wrap64 ((x0.size : Int) - 1)))
def spec_l9Table.l1 : Nat → ByteArray → ByteArray → List (List Int) → Int → Option ((List (List Int)))
 | 0, _, _, _, _ => none
 | k + 1, x0, x1, x5, x7 => if x7 ≥ 0 then (spec_l9Table.l2 k x0 x1 x5 x7 (wrap64 ((x1.size : Int) - 1))) else (some x5)
def spec_l9Table.l2 : Nat → ByteArray → ByteArray → List (List Int) → Int → Int → Option ((List (List Int)))
 | 0, _, _, _, _, _ => none
 | k + 1, x0, x1, x5, x7, x8 => if x8 ≥ 0 then (if 0 ≤ x7 then (if x7 < (x0.size : Int) then (if 0 ≤ x8 then (if x8 < (x1.size : Int) then (if (bt x0 x7) = (bt x1 x8) then (if x7 < (x5.length : Int) then (if 0 ≤ (wrap64 (x7 + 1)) then (if (wrap64 (x7 + 1)) < (x5.length : Int) then (if 0 ≤ (wrap64 (x8 + 1)) then (if (wrap64 (x8 + 1)) < ((rd_L3 x5 (wrap64 (x7 + 1))).length : Int) then (if x8 < ((rd_L3 x5 x7).length : Int) then (spec_l9Table.l2 k x0 x1 (x5.set (x7 : Int).toNat ((rd_L3 x5 x7).set (x8 : Int).toNat (wrap64 ((rd (rd_L3 x5 (wrap64 (x7 + 1))) (wrap64 (x8 + 1))) + 1)))) x7 (wrap64 (x8 - 1))) else (none)) else (none)) else (none)) else (none)) else (none)) else (none)) else (if 0 ≤ (wrap64 (x7 + 1)) then (if (wrap64 (x7 + 1)) < (x5.length : Int) then (if x8 < ((rd_L3 x5 (wrap64 (x7 + 1))).length : Int) then (if x7 < (x5.length : Int) then (if 0 ≤ (wrap64 (x8 + 1)) then (if (wrap64 (x8 + 1)) < ((rd_L3 x5 x7).length : Int) then (if (rd (rd_L3 x5 (wrap64 (x7 + 1))) x8) ≥ (rd (rd_L3 x5 x7) (wrap64 (x8 + 1))) then (if x8 < ((rd_L3 x5 x7).length : Int) then (spec_l9Table.l2 k x0 x1 (x5.set (x7 : Int).toNat ((rd_L3 x5 x7).set (x8 : Int).toNat (rd (rd_L3 x5 (wrap64 (x7 + 1))) x8))) x7 (wrap64 (x8 - 1))) else (none)) else (if x8 < ((rd_L3 x5 x7).length : Int) then (spec_l9Table.l2 k x0 x1 (x5.set (x7 : Int).toNat ((rd_L3 x5 x7).set (x8 : Int).toNat (rd (rd_L3 x5 x7) (wrap64 (x8 + 1))))) x7 (wrap64 (x8 - 1))) else (none))) else (none)) else (none)) else (none)) else (none)) else (none)) else (none))) else (none)) else (none)) else (none)) else (none)) else (spec_l9Table.l1 k x0 x1 x5 (wrap64 (x7 - 1)))
end
def spec_l9Table.f (k : Nat) (a0 : ByteArray) (a1 : ByteArray) : Option ((List (List Int))) := if 0 ≤ (wrap64 ((a0.size : Int) + 1)) then (if (wrap64 ((a0.size : Int) + 1) : Int).toNat ≤ 11728124029610 then ((some (List.replicate (wrap64 ((a0.size : Int) + 1) : Int).toNat [] : List (List Int))).bind fun y139 => (spec_l9Table.l0 k a0 a1 y139 (y139.length : Int) 0)) else (none)) else (none)
theorem spec_l9Table.mono_l : ∀ k, (∀ y0 y1 y2 y3 y4, LeO (spec_l9Table.l0 k y0 y1 y2 y3 y4) (spec_l9Table.l0 (k + 1) y0 y1 y2 y3 y4)) ∧ (∀ y0 y1 y2 y3, LeO (spec_l9Table.l1 k y0 y1 y2 y3) (spec_l9Table.l1 (k + 1) y0 y1 y2 y3)) ∧ (∀ y0 y1 y2 y3 y4, LeO (spec_l9Table.l2 k y0 y1 y2 y3 y4) (spec_l9Table.l2 (k + 1) y0 y1 y2 y3 y4))
 | 0 => ⟨fun _ _ _ _ _ r h => by simp [spec_l9Table.l0] at h, fun _ _ _ _ r h => by simp [spec_l9Table.l1] at h, fun _ _ _ _ _ r h => by simp [spec_l9Table.l2] at h⟩
 | k + 1 => by
  obtain ⟨ih0, ih1, ih2⟩ := spec_l9Table.mono_l k
  refine ⟨?_, ?_, ?_⟩
  ·intro y0 y1 y2 y3 y4
   unfold spec_l9Table.l0
   repeat' first
   | (with_reducible exact ih0 _ _ _ _ _)
   | (with_reducible exact ih1 _ _ _ _)
   | (with_reducible exact ih2 _ _ _ _ _)
   | (with_reducible exact LeO.refl _)
   | (with_reducible exact LeO.none _)
   | (with_reducible refine LeO.ite ?_ ?_)
   | (with_reducible refine LeO.bind ?_ (fun _ => ?_))
   | exact ih0 _ _ _ _ _
   | exact ih1 _ _ _ _
   | exact ih2 _ _ _ _ _
   | exact LeO.none _
   | refine LeO.ite ?_ ?_
   | refine LeO.bind ?_ (fun _ => ?_)
  ·intro y0 y1 y2 y3
   unfold spec_l9Table.l1
   repeat' first
   | (with_reducible exact ih0 _ _ _ _ _)
   | (with_reducible exact ih1 _ _ _ _)
   | (with_reducible exact ih2 _ _ _ _ _)
   | (with_reducible exact LeO.refl _)
   | (with_reducible exact LeO.none _)
   | (with_reducible refine LeO.ite ?_ ?_)
   | (with_reducible refine LeO.bind ?_ (fun _ => ?_))
   | exact ih0 _ _ _ _ _
   | exact ih1 _ _ _ _
   | exact ih2 _ _ _ _ _
   | exact LeO.none _
   | refine LeO.ite ?_ ?_
   | refine LeO.bind ?_ (fun _ => ?_)
  ·intro y0 y1 y2 y3 y4
   unfold spec_l9Table.l2
   repeat' first
   | (with_reducible exact ih0 _ _ _ _ _)
   | (with_reducible exact ih1 _ _ _ _)
   | (with_reducible exact ih2 _ _ _ _ _)
   | (with_reducible exact LeO.refl _)
   | (with_reducible exact LeO.none _)
   | (with_reducible refine LeO.ite ?_ ?_)
   | (with_reducible refine LeO.bind ?_ (fun _ => ?_))
   | exact ih0 _ _ _ _ _
   | exact ih1 _ _ _ _
   | exact ih2 _ _ _ _ _
   | exact LeO.none _
   | refine LeO.ite ?_ ?_
   | refine LeO.bind ?_ (fun _ => ?_)
theorem spec_l9Table.mono : ∀ a0 a1 k, LeO (spec_l9Table.f k a0 a1) (spec_l9Table.f (k + 1) a0 a1) := by
 intro a0 a1 k
 obtain ⟨ih0, ih1, ih2⟩ := spec_l9Table.mono_l k
 unfold spec_l9Table.f
 repeat' first
   | (with_reducible exact ih0 _ _ _ _ _)
   | (with_reducible exact ih1 _ _ _ _)
   | (with_reducible exact ih2 _ _ _ _ _)
   | (with_reducible exact LeO.refl _)
   | (with_reducible exact LeO.none _)
   | (with_reducible refine LeO.ite ?_ ?_)
   | (with_reducible refine LeO.bind ?_ (fun _ => ?_))
   | exact ih0 _ _ _ _ _
   | exact ih1 _ _ _ _
   | exact ih2 _ _ _ _ _
   | exact LeO.none _
   | refine LeO.ite ?_ ?_
   | refine LeO.bind ?_ (fun _ => ?_)
def spec_l9Table.T13 : Bool × List (List Nat × List Nat) := (true, [([], []), ([], []), ([0, 1], [0, 1]), ([2], [2]), ([], []), ([], []), ([], []), ([5, 6], [5, 6]), ([7], [7]), ([], []), ([9], [9]), ([8, 10], [8, 10]), ([11], [11]), ([3, 4, 0, 1, 2, 3, 4, 5, 6, 7, 8, 9, 10, 11, 12], [3, 4]), ([13, 12, 0, 1, 2, 3, 4, 5, 6, 7, 8, 9, 10, 11, 12], [12, 13])])
def spec_l9Table.B13 : List Nat := [0, 0, 3, 7, 0, 0, 0, 96, 224, 0, 512, 2016, 4064, 8191, 16383]
theorem spec_l9Table.tab13 : rtab .any (opsOf Try.f98 13) = spec_l9Table.T13 := by kernel_rfl
theorem spec_l9Table.bits13 : waitsOk spec_l9Table.T13.2 spec_l9Table.B13 = true := by kernel_rfl
def spec_l9Table.T14 : Bool × List (List Nat × List Nat) := (true, [([], []), ([], []), ([0, 1], [0, 1]), ([], []), ([], []), ([3, 4], [3, 4]), ([2, 5], [2, 5]), ([6], [6])])
def spec_l9Table.B14 : List Nat := [0, 0, 3, 0, 0, 24, 63, 127]
theorem spec_l9Table.tab14 : rtab .any (opsOf Try.f98 14) = spec_l9Table.T14 := by kernel_rfl
theorem spec_l9Table.bits14 : waitsOk spec_l9Table.T14.2 spec_l9Table.B14 = true := by kernel_rfl
def spec_l9Table.T15 : Bool × List (List Nat × List Nat) := (true, [([], []), ([], []), ([0, 1], [0, 1]), ([2], [2]), ([], []), ([], []), ([], []), ([6], [6]), ([5, 7], [5, 7]), ([8], [8]), ([], []), ([10], [10]), ([9, 11], [9, 11]), ([12], [12]), ([13], [13]), ([3, 4, 0, 1, 2, 3, 4, 5, 6, 7, 8, 9, 10, 11, 12, 13, 14], [3, 4]), ([15, 14, 0, 1, 2, 3, 4, 5, 6, 7, 8, 9, 10, 11, 12, 13, 14], [14, 15])])
def spec_l9Table.B15 : List Nat := [0, 0, 3, 7, 0, 0, 0, 64, 224, 480, 0, 1024, 4064, 8160, 16352, 32767, 65535]
theorem spec_l9Table.tab15 : rtab .any (opsOf Try.f98 15) = spec_l9Table.T15 := by kernel_rfl
theorem spec_l9Table.bits15 : waitsOk spec_l9Table.T15.2 spec_l9Table.B15 = true := by kernel_rfl
def spec_l9Table.T16 : Bool × List (List Nat × List Nat) := (true, [([], []), ([], []), ([1], [1]), ([0, 2], [0, 2]), ([3], [3]), ([], []), ([4, 5], [4, 5]), ([6], [6]), ([], []), ([], []), ([8, 9], [8, 9]), ([10], [10]), ([], []), ([12], [12]), ([11, 13], [11, 13]), ([14], [14]), ([7, 15], [7, 15]), ([16], [16])])
def spec_l9Table.B16 : List Nat := [0, 0, 2, 7, 15, 0, 63, 127, 0, 0, 768, 1792, 0, 4096, 16128, 32512, 65535, 131071]
theorem spec_l9Table.tab16 : rtab .any (opsOf Try.f98 16) = spec_l9Table.T16 := by kernel_rfl
theorem spec_l9Table.bits16 : waitsOk spec_l9Table.T16.2 spec_l9Table.B16 = true := by kernel_rfl
def spec_l9Table.T17 : Bool × List (List Nat × List Nat) := (true, [([], []), ([], []), ([0, 1], [0, 1]), ([2], [2]), ([], []), ([], []), ([], []), ([6], [6]), ([5, 7], [5, 7]), ([8], [8]), ([], []), ([9, 10], [9, 10]), ([11], [11]), ([3, 4, 0, 1, 2, 3, 4, 5, 6, 7, 8, 9, 10, 11, 12], [3, 4]), ([13, 12, 0, 1, 2, 3, 4, 5, 6, 7, 8, 9, 10, 11, 12], [12, 13])])
def spec_l9Table.B17 : List Nat := [0, 0, 3, 7, 0, 0, 0, 64, 224, 480, 0, 2016, 4064, 8191, 16383]
theorem spec_l9Table.tab17 : rtab .any (opsOf Try.f98 17) = spec_l9Table.T17 := by kernel_rfl
theorem spec_l9Table.bits17 : waitsOk spec_l9Table.T17.2 spec_l9Table.B17 = true := by kernel_rfl
set_option maxHeartbeats 8000000 in
set_option maxRecDepth 100000 in
theorem spec_l9Table.calls (k : Nat) (a0 : ByteArray) (a1 : ByteArray) (r : List (List Int)) (w : World) (h : spec_l9Table.f k a0 a1 = some r) :
  Calls Try.prog 98 #[.string a0, .string a1] w fun e w' => ∃ v0_ : Value, e = .returned (v0_) ∧ Kd.S (Kd.slice 3 (Kd.int .i64)) 83 w' w.heap.size (fun _ => True) v0_ r ∧ Below w.heap.size w w' := by
 have HB := Aside0.mk (Below.refl w.heap.size w)
 have H : (if 0 ≤ (wrap64 ((a0.size : Int) + 1)) then (if (wrap64 ((a0.size : Int) + 1) : Int).toNat ≤ 11728124029610 then ((some (List.replicate (wrap64 ((a0.size : Int) + 1) : Int).toNat [] : List (List Int))).bind fun y139 => (spec_l9Table.l0 k a0 a1 y139 (y139.length : Int) 0)) else (none)) else (none)) = some r := h
 clear h
 obtain ⟨ji3, hji3⟩ : ∃ j_ : Int, (wrap64 ((a0.size : Int) + 1)) = j_ := ⟨_, rfl⟩
 replace H : (if 0 ≤ (ji3) then (if (ji3 : Int).toNat ≤ 11728124029610 then ((some (List.replicate (ji3 : Int).toNat [] : List (List Int))).bind fun y139 => (spec_l9Table.l0 k a0 a1 y139 (y139.length : Int) 0)) else (none)) else (none)) = some r := by first | (rw [hji3] at H; exact H) | (simp only [hji3] at H ⊢; exact H)
 have hji3w : (IntKind.i64.wrap ((a0.size : Int) + 1)) = ji3 := (i64_w _).trans hji3
 by_cases c4 : 0 ≤ (ji3)
 ·rw [if_pos c4] at H
  have c4b0 := eq_true c4
  have c4b1 : decide (0 ≤ (ji3)) = true := decide_eq_true c4
  clear c4
  by_cases c5 : (ji3 : Int).toNat ≤ 11728124029610
  ·rw [if_pos c5] at H
   have c5b0 := eq_true c5
   have c5b1 : decide ((ji3 : Int).toNat ≤ 11728124029610) = true := decide_eq_true c5
   clear c5
   obtain ⟨y139, hy139⟩ : ∃ y_ : List (List Int), y_ = (List.replicate (ji3 : Int).toNat []) := ⟨_, rfl⟩
   replace H : (spec_l9Table.l0 k a0 a1 y139 (y139.length : Int) 0) = some r := by first | (rw [hy139]; with_reducible exact H) | (have H2_ := (Option.bind_some _ _).symm.trans H; rw [hy139]; with_reducible exact H2_) | (have H2_ := (Option.bind_some _ _).symm.trans H; with_reducible exact H2_) | with_reducible exact H | (rw [hy139]; exact H) | exact H
   have Ny139 := Aside0.mk hy139
   clear hy139
   have H' := Aside0.mk H
   clear H
   go_enter Try.func98, Try.ntmps98
   go_wp2_with (first | ((with_reducible refine gate_dst (N := 12) rfl ?_); refine Kd.S_make (Kd.slice 3 (Kd.int .i64)) _ 83 rfl (N := 12) rfl 78 _ _ rfl ji3 rfl rfl Try.underlying78 (.slice none 0 0) 24 info83 rfl (by decide) (by omega) [] (ok := fun _ => True) (okp := fun _ => True) ⟨_, rfl, Kd.R_nil _ _ _ _ _⟩ (fun _ hk => hk) trivial (of_decide_eq_true z2) (Nat.le_trans (Nat.mul_le_mul_right _ (of_decide_eq_true z2 : ji3.toNat ≤ 11728124029610)) (by omega)) (Below.refl _ _) (Nat.le_refl _) ?_; intro v140 w6 ho7 hb hg_ hnew_; clear hg_ hnew_; (first | rw [← Ny139.out] at ho7 | (simp only [Int.reduceToNat] at ho7; rw [← Ny139.out] at ho7)); have n0_ := Aside0.mk (Kd.S_lower ho7 (below_size z6)); have n1_ := Aside0.mk (below_step z6 hb); clear HB; have HO141 := n0_; have HB := n1_; clear n0_ n1_; clear hb ho7; obtain ⟨Ao8, co8, eo8⟩ := Kd.S_slice HO141.out; subst eo8))
   go_loopg [15] k (fun kq v15 w' => ∃ (x5_1 : List (List Int)) (x15_1 : Int), v15 = .int .i64 x15_1 ∧ Aside0 (spec_l9Table.l0 kq a0 a1 x5_1 (y139.length : Int) x15_1 = some r) ∧ Aside0 (kq ≤ k) ∧ Aside0 (Kd.S (Kd.slice 3 (Kd.int .i64)) 83 w' w.heap.size (fun _ => True) (.slice Ao8 y139.length co8) x5_1) ∧ Aside0 (Below w.heap.size w w'))
   case atStart => exact ⟨(y139), (0), z1, H', ⟨Nat.le_refl _⟩, ⟨by (with_reducible repeat (first | apply Kd.S_alloc | apply Kd.S_drewN | apply Kd.S_drew)); exact HO141.out⟩, ⟨by repeat (first | (with_reducible first | exact HB.out | apply below_alloc | apply pw_below_drewN | apply below_drew1) | exact HB.out)⟩⟩
   case round =>
    clear H'
    try clear p2
    try clear c4
    try clear c4b0
    try clear c4b1
    try clear c5
    try clear c5b0
    try clear c5b1
    try clear p6
    obtain ⟨x5_1, x15_1, rfl, HA, HK1, HO_5, HB⟩ := hrel
    have hl5_1 := (Kd.S_reads' HO_5.out).1
    rw [hl5_1] at HO_5
    (try simp only [hl5_1])
    cases gk with
    | zero => exact absurd HA.out (by simp [spec_l9Table.l0])
    | succ k1 =>
     have H := HA.out
     clear HA
     simp only [spec_l9Table.l0] at H
     by_cases c9 : x15_1 < (y139.length : Int)
     ·rw [if_pos c9] at H
      have c9b0 : decide (x15_1 < (y139.length : Int)) = true := decide_eq_true c9
      have c9b0hl5_1 := c9b0
      (try simp only [hl5_1] at c9b0hl5_1)
      clear c9
      obtain ⟨ji10, hji10⟩ : ∃ j_ : Int, (wrap64 ((a1.size : Int) + 1)) = j_ := ⟨_, rfl⟩
      replace H : (if 0 ≤ (ji10) then (if (ji10 : Int).toNat ≤ 35184372088832 then (if 0 ≤ x15_1 then (if x15_1 < (x5_1.length : Int) then (spec_l9Table.l0 k1 a0 a1 (x5_1.set (x15_1 : Int).toNat (List.replicate (ji10 : Int).toNat 0)) (y139.length : Int) (wrap64 (x15_1 + 1))) else (none)) else (none)) else (none)) else (none)) = some r := by first | (rw [hji10] at H; exact H) | (simp only [hji10] at H ⊢; exact H)
      have hji10w : (IntKind.i64.wrap ((a1.size : Int) + 1)) = ji10 := (i64_w _).trans hji10
      by_cases c11 : 0 ≤ (ji10)
      ·rw [if_pos c11] at H
       have c11b0 := eq_true c11
       have c11b1 : decide (0 ≤ (ji10)) = true := decide_eq_true c11
       clear c11
       by_cases c12 : (ji10 : Int).toNat ≤ 35184372088832
       ·rw [if_pos c12] at H
        have c12b0 := eq_true c12
        have c12b1 : decide ((ji10 : Int).toNat ≤ 35184372088832) = true := decide_eq_true c12
        clear c12
        obtain ⟨y142, hy142⟩ : ∃ y_ : List Int, y_ = (List.replicate (ji10 : Int).toNat 0) := ⟨_, rfl⟩
        replace H : (if 0 ≤ x15_1 then (if x15_1 < (x5_1.length : Int) then (spec_l9Table.l0 k1 a0 a1 (x5_1.set (x15_1 : Int).toNat y142) (y139.length : Int) (wrap64 (x15_1 + 1))) else (none)) else (none)) = some r := by first | (rw [hy142]; with_reducible exact H) | (have H2_ := (Option.bind_some _ _).symm.trans H; rw [hy142]; with_reducible exact H2_) | (have H2_ := (Option.bind_some _ _).symm.trans H; with_reducible exact H2_) | with_reducible exact H | (rw [hy142]; exact H) | exact H
        have Ny142 := Aside0.mk hy142
        clear hy142
        by_cases c13 : 0 ≤ x15_1
        ·rw [if_pos c13] at H
         have c13b0 : decide (0 ≤ x15_1) = true := decide_eq_true c13
         clear c13
         by_cases c14 : x15_1 < (x5_1.length : Int)
         ·rw [if_pos c14] at H
          have c14b0 : decide (x15_1 < (x5_1.length : Int)) = true := decide_eq_true c14
          have c14b0hl5_1 := c14b0
          (try simp only [hl5_1] at c14b0hl5_1)
          clear c14
          obtain ⟨y145, hy145⟩ : ∃ y_ : List (List Int), y_ = (x5_1.set (x15_1 : Int).toNat y142) := ⟨_, rfl⟩
          replace H : (spec_l9Table.l0 k1 a0 a1 y145 (y139.length : Int) (wrap64 (x15_1 + 1))) = some r := by first | (rw [hy145]; with_reducible exact H) | (have H2_ := (Option.bind_some _ _).symm.trans H; rw [hy145]; with_reducible exact H2_) | (have H2_ := (Option.bind_some _ _).symm.trans H; with_reducible exact H2_) | with_reducible exact H | (rw [hy145]; exact H) | exact H
          have Ny145 := Aside0.mk hy145
          clear hy145
          have H' := Aside0.mk H
          clear H
          go_wp2_with (first | ((with_reducible refine gate_dst (N := 23) rfl ?_); refine Kd.R_make (Kd.int .i64) _ 3 rfl (N := 23) rfl 83 _ _ rfl ji10 rfl rfl Try.underlying83 (.int .i64 0) 8 info3 rfl (by decide) (by omega) 0 (ok := fun _ => True) (okp := fun _ => True) rfl (fun _ hk => hk) trivial (of_decide_eq_true z2) (Nat.le_trans (Nat.mul_le_mul_right _ (of_decide_eq_true z2 : ji10.toNat ≤ 35184372088832)) (by omega)) (Below.refl _ _) (Nat.le_refl _) ?_; intro v143 w16 ho17 hb hg_ hnew_; clear hg_ hnew_; (first | rw [← Ny142.out] at ho17 | (simp only [Int.reduceToNat] at ho17; rw [← Ny142.out] at ho17)); have n0_ := Aside0.mk (Kd.S_elder' (by (with_reducible repeat (first | apply Kd.S_alloc | apply Kd.S_drewN | apply Kd.S_drew)); exact HO_5.out) (Kd.R_base ho17) hb); have n1_ := Aside0.mk (Kd.R_lower ho17 (below_size z6)); have n2_ := Aside0.mk (below_step z6 hb); clear HO_5; clear HB; have HO_5 := n0_; have HO144 := n1_; have HB := n2_; clear n0_ n1_ n2_; clear hb ho17; have p15 : 0 ≤ (x15_1 : Int) := of_decide_eq_true z2; have q15 : (x15_1 : Int) < ((x5_1.length : Int) : Int) := of_decide_eq_true z2; obtain ⟨go15, co15, eo15, gb15, gl15, cl15, HG15⟩ := Kd.S_form HO_5.out (by omega); (first | cases eo15 | (injection eo15 with ea_ en_ ec_; (first | subst ea_ | (injection ea_ with ea_; subst ea_)); subst ec_; clear en_)); have GB15 := Aside0.mk gb15; have GG15 := Aside0.mk HG15; clear gb15 gl15 HG15; obtain ⟨_, ce15, hcl15, hM15, hcc15, hfr15, _, _⟩ := Kd.S_elem HO_5.out [] (x15_1 : Int) p15 q15; obtain ⟨ve15_0, rfl, ge15_0⟩ := hM15; have hx15_0 := hcc15 0 _ rfl; have hf15_0 := hfr15 0; (try simp only [show ((Kd.slice 3 (Kd.int .i64))).sz = 1 from rfl, Nat.mul_one, Nat.add_zero] at hx15_0); (try simp only [show ((Kd.slice 3 (Kd.int .i64))).sz = 1 from rfl, Nat.mul_one, Nat.add_zero] at hf15_0); clear hcl15 hcc15 hfr15; (try clear hM15); replace p15 := eq_true p15; replace q15 := eq_true q15; have n_ := Aside0.mk (Kd.S_mono (ok' := (fun k_ => some k_ ≠ (v143 : Value).ownBlock)) HO_5.out (fun k_ hk => hk.2)); clear HO_5; have HO_5 := n_; clear n_; have HX18 := Aside0.mk (show Kd.S (Kd.slice 3 (Kd.int .i64)) 83 w16 w.heap.size (fun k_ => ((fun _ => True)) k_ ∧ ¬ ((fun k_ => some k_ = (v143 : Value).ownBlock)) k_) (.slice (some ⟨go15, 0, none⟩) x5_1.length co8) x5_1 from (by (with_reducible repeat (first | apply Kd.S_alloc | apply Kd.S_drewN | apply Kd.S_drew)); exact Kd.S_mono HO_5.out (fun k_ hk => ⟨trivial, fun e_ => hk e_⟩))); obtain ⟨oki18, ce18, hcl18, hM18, hcc18, hfr18, hoki18, hH18⟩ := Kd.S_elem HX18.out [] (x15_1 : Int) (of_decide_eq_true z2) (by have h_ : (x15_1 : Int) < ((x5_1.length : Int) : Int) := of_decide_eq_true z2; first | exact h_ | (have e_ := (Kd.S_reads' HO_5.out).1; omega) | simpa using h_); obtain ⟨ve18_0, rfl, ge18_0⟩ := hM18; have HP18 := Kd.S_seg hH18 (of_decide_eq_true z2) (by have h_ : (x15_1 : Int) < ((x5_1.length : Int) : Int) := of_decide_eq_true z2; first | exact h_ | (have e_ := (Kd.S_reads' HO_5.out).1; omega) | simpa using h_) (seg := [v143]) (j := 0) (show 1 ≤ 1 from by decide) (x' := y142) (Kd.M_row (Kd.R_mono (Kd.R_tight rfl (Kd.R_mono (ok' := fun k_ => ((fun _ => True)) k_ ∧ k_ ≠ go15) (Kd.R_apart' (HO144.out) (Kd.S_typed HO_5.out) (by decide)) (fun k_ hk => ⟨trivial, fun e_ => (hk.2) (by rw [e_]; rfl)⟩))) (fun _ h_ => Or.inr (h_)))) (fun _ hk => hk) (fun k_ hk_ => ((Kd.R_mono (ok' := fun k_ => ((fun _ => True)) k_ ∧ k_ ≠ go15) (Kd.R_apart' (HO144.out) (Kd.S_typed HO_5.out) (by decide)) (fun k_ hk => ⟨trivial, fun e_ => (hk.2) (by rw [e_]; rfl)⟩))).1 k_ hk_.symm); have hx18_0 := hcc18 0 _ rfl; (try simp only [show ((Kd.slice 3 (Kd.int .i64))).sz = 1 from rfl, Nat.mul_one, Nat.add_zero] at hx18_0); have hf18_0 := hfr18 0; (try simp only [show ((Kd.slice 3 (Kd.int .i64))).sz = 1 from rfl, Nat.mul_one, Nat.add_zero] at hf18_0); clear hcl18 hcc18 hfr18 hoki18 hH18; (try clear hM18); (try simp only [show ((Kd.slice 3 (Kd.int .i64))).sz = 1 from rfl, Nat.mul_one, Nat.add_zero] at HP18)) | ((with_reducible refine gate_store (t := 83) (p := 24) rfl ?_); refine store_event (t := 83) (p := 24) (v := ?vo_w19) (w1 := (w16.setCell ⟨go15, (x15_1 : Int).toNat, none⟩ (v143))) ?hg ?ho ?hn ?hr ?_; (case ho => rfl); (case hg => rfl); (case hn => rfl); (case hr => first | (go_simp; done) | (go_simp; rfl) | ((try simp only [Int.toNat_natCast] at *); go_simp; first | done | rfl) | ((try simp only [Int.toNat_natCast] at *); obtain ⟨A_, c_, e_⟩ := Kd.R_slice (Aside0.out ‹Aside0 (Kd.R _ _ _ _ _ v143 _)›); subst e_; go_simp; first | done | rfl) | ((try simp only [Int.toNat_natCast] at *); obtain ⟨A_, c_, e_⟩ := Kd.S_slice (Aside0.out ‹Aside0 (Kd.S _ _ _ _ _ v143 _)›); subst e_; go_simp; first | done | rfl) | ((try simp only [Int.toNat_natCast] at *); obtain ⟨A_, c_, e_⟩ := Kd.N_slice (Aside0.out ‹Aside0 (Kd.N _ _ _ _ _ v143 _)›); subst e_; go_simp; first | done | rfl) | ((try simp only [Int.toNat_natCast] at *); obtain ⟨A_, c_, e_⟩ := Kd.V_slice (Aside0.out ‹Aside0 (Kd.V _ _ _ _ _ v143 _)›); subst e_; go_simp; first | done | rfl)); intro w19 hw; have hg : w16.grownBy w19 (some go15) := (by rw [hw]; exact HP18.2); have hp_ : Kd.S (Kd.slice 3 (Kd.int .i64)) 83 w19 w.heap.size (fun _ => True) (.slice (some ⟨go15, 0, none⟩) x5_1.length co8) y145 := (by rw [hw, Ny145.out]; exact HP18.1); clear HP18; have n0_ := Aside0.mk (hp_); have n1_ := Aside0.mk ((by rw [hw]; exact below_set (HB.out) GB15.out : Below w.heap.size w w19)); clear HO_5; clear HB; clear HO144; have HO_5 := n0_; have HB := n1_; clear n0_ n1_; clear hg hw hp_))
          (try simp only [← hl5_1])
          go_roundg k1
          case measure => have := HK1.out; omega
          case rel => exact ⟨(y145), (wrap64 (x15_1 + 1)), z1, (by first | exact H' | (simp only [hji3, hji10]; exact H') | (simp only [← hji3, ← hji10]; exact H')), ⟨by have := HK1.out; omega⟩, ⟨by (try simp only [hl5_1]); (with_reducible repeat (first | apply Kd.S_alloc | apply Kd.S_drewN | apply Kd.S_drew)); exact HO_5.out⟩, ⟨by repeat (first | (with_reducible first | exact HB.out | apply below_alloc | apply pw_below_drewN | apply below_drew1) | exact HB.out)⟩⟩
         ·rw [if_neg c14] at H
          exact absurd H (by simp)
        ·rw [if_neg c13] at H
         exact absurd H (by simp)
       ·rw [if_neg c12] at H
        exact absurd H (by simp)
      ·rw [if_neg c11] at H
       exact absurd H (by simp)
     ·rw [if_neg c9] at H
      have c9b0 : decide (x15_1 < (y139.length : Int)) = false := decide_eq_false c9
      have c9b0hl5_1 := c9b0
      (try simp only [hl5_1] at c9b0hl5_1)
      clear c9
      have H' := Aside0.mk H
      clear H
      go_wp2
      go_loopg [7] k1 (fun kq v7 w' => ∃ (x5_2 : List (List Int)) (x7_2 : Int), v7 = .int .i64 x7_2 ∧ Aside0 (spec_l9Table.l1 kq a0 a1 x5_2 x7_2 = some r) ∧ Aside0 (kq ≤ k1) ∧ Aside0 (Kd.S (Kd.slice 3 (Kd.int .i64)) 83 w' w.heap.size (fun _ => True) (.slice Ao8 x5_1.length co8) x5_2) ∧ Aside0 (Below w.heap.size w w'))
      case atStart => exact ⟨(x5_1), (wrap64 ((a0.size : Int) - 1)), z1, H', ⟨Nat.le_refl _⟩, ⟨by (try simp only [hl5_1]); (with_reducible repeat (first | apply Kd.S_alloc | apply Kd.S_drewN | apply Kd.S_drew)); exact HO_5.out⟩, ⟨by repeat (first | (with_reducible first | exact HB.out | apply below_alloc | apply pw_below_drewN | apply below_drew1) | exact HB.out)⟩⟩
      case round =>
       clear H'
       try clear c1
       try clear p1
       try clear q1
       try clear hx1
       try clear p2
       try clear c4
       try clear c4b0
       try clear c4b1
       try clear c5
       try clear c5b0
       try clear c5b1
       try clear p6
       try clear c9
       try clear c9b0
       try clear c11
       try clear c11b0
       try clear c11b1
       try clear c12
       try clear c12b0
       try clear c12b1
       try clear c13
       try clear c13b0
       try clear c14
       try clear c14b0
       try clear c15
       try clear p15
       try clear q15
       try clear hx15
       try clear hf15
       try clear c18
       try clear hx18
       try clear hf18
       try clear hx15_0
       try clear hx18_0
       try clear p15
       try clear p2
       try clear p6
       try clear q15
       obtain ⟨x5_2, x7_2, rfl, HA, HK2, HO_5, HB⟩ := hrel
       have hl5_2 := (Kd.S_reads' HO_5.out).1
       rw [hl5_2] at HO_5
       (try simp only [hl5_2])
       cases gk with
       | zero => exact absurd HA.out (by simp [spec_l9Table.l1])
       | succ k2 =>
        have H := HA.out
        clear HA
        simp only [spec_l9Table.l1] at H
        by_cases c20 : x7_2 ≥ 0
        ·rw [if_pos c20] at H
         have c20b0 : decide (0 ≤ x7_2) = true := decide_eq_true c20
         clear c20
         have H' := Aside0.mk H
         clear H
         go_wp2
         go_loopg [8] k2 (fun kq v8 w' => ∃ (x5_3 : List (List Int)) (x8_3 : Int), v8 = .int .i64 x8_3 ∧ Aside0 (spec_l9Table.l2 kq a0 a1 x5_3 x7_2 x8_3 = some r) ∧ Aside0 (kq ≤ k2) ∧ Aside0 (Kd.S (Kd.slice 3 (Kd.int .i64)) 83 w' w.heap.size (fun _ => True) (.slice Ao8 x5_2.length co8) x5_3) ∧ Aside0 (Below w.heap.size w w'))
         case atStart => exact ⟨(x5_2), (wrap64 ((a1.size : Int) - 1)), z1, H', ⟨Nat.le_refl _⟩, ⟨by (try simp only [hl5_1]); (try simp only [hl5_2]); (with_reducible repeat (first | apply Kd.S_alloc | apply Kd.S_drewN | apply Kd.S_drew)); exact HO_5.out⟩, ⟨by repeat (first | (with_reducible first | exact HB.out | apply below_alloc | apply pw_below_drewN | apply below_drew1) | exact HB.out)⟩⟩
         case round =>
          clear H'
          try clear c1
          try clear p1
          try clear q1
          try clear hx1
          try clear c2
          try clear p2
          try clear c4
          try clear c4b0
          try clear c4b1
          try clear c5
          try clear c5b0
          try clear c5b1
          try clear p6
          try clear c9
          try clear c9b0
          try clear c11
          try clear c11b0
          try clear c11b1
          try clear c12
          try clear c12b0
          try clear c12b1
          try clear c13
          try clear c13b0
          try clear c14
          try clear c14b0
          try clear c15
          try clear p15
          try clear q15
          try clear hx15
          try clear hf15
          try clear c18
          try clear hx18
          try clear hf18
          try clear c20
          try clear c20b0
          try clear hx15_0
          try clear hx18_0
          try clear p1
          try clear p15
          try clear p2
          try clear p6
          try clear q1
          try clear q15
          obtain ⟨x5_3, x8_3, rfl, HA, HK3, HO_5, HB⟩ := hrel
          have hl5_3 := (Kd.S_reads' HO_5.out).1
          rw [hl5_3] at HO_5
          (try simp only [hl5_3])
          cases gk with
          | zero => exact absurd HA.out (by simp [spec_l9Table.l2])
          | succ k3 =>
           have H := HA.out
           clear HA
           simp only [spec_l9Table.l2] at H
           by_cases c21 : x8_3 ≥ 0
           ·rw [if_pos c21] at H
            have c21b0 : decide (0 ≤ x8_3) = true := decide_eq_true c21
            clear c21
            by_cases c22 : 0 ≤ x7_2
            ·rw [if_pos c22] at H
             have c22b0 : decide (0 ≤ x7_2) = true := decide_eq_true c22
             clear c22
             by_cases c23 : x7_2 < (a0.size : Int)
             ·rw [if_pos c23] at H
              have c23b0 : decide (x7_2 < (a0.size : Int)) = true := decide_eq_true c23
              clear c23
              by_cases c25 : 0 ≤ x8_3
              ·rw [if_pos c25] at H
               have c25b0 : decide (0 ≤ x8_3) = true := decide_eq_true c25
               clear c25
               by_cases c26 : x8_3 < (a1.size : Int)
               ·rw [if_pos c26] at H
                have c26b0 : decide (x8_3 < (a1.size : Int)) = true := decide_eq_true c26
                clear c26
                by_cases c28 : (bt a0 x7_2) = (bt a1 x8_3)
                ·rw [if_pos c28] at H
                 have c28b0 : ((bt a0 x7_2) == (bt a1 x8_3)) = true := beq_iff_eq.mpr c28
                 have c28b1 : ((bt a0 x7_2) != (bt a1 x8_3)) = false := bne_eq_false_iff_eq.mpr c28
                 clear c28
                 by_cases c29 : x7_2 < (x5_3.length : Int)
                 ·rw [if_pos c29] at H
                  have c29b0 : decide (x7_2 < (x5_3.length : Int)) = true := decide_eq_true c29
                  have c29b0hl5_1 := c29b0
                  (try simp only [hl5_1] at c29b0hl5_1)
                  have c29b0hl5_2 := c29b0
                  (try simp only [hl5_2] at c29b0hl5_2)
                  have c29b0hl5_3 := c29b0
                  (try simp only [hl5_3] at c29b0hl5_3)
                  clear c29
                  obtain ⟨ji30, hji30⟩ : ∃ j_ : Int, (wrap64 (x7_2 + 1)) = j_ := ⟨_, rfl⟩
                  replace H : (if 0 ≤ (ji30) then (if (ji30) < (x5_3.length : Int) then (if 0 ≤ (wrap64 (x8_3 + 1)) then (if (wrap64 (x8_3 + 1)) < ((rd_L3 x5_3 (ji30)).length : Int) then (if x8_3 < ((rd_L3 x5_3 x7_2).length : Int) then (spec_l9Table.l2 k3 a0 a1 (x5_3.set (x7_2 : Int).toNat ((rd_L3 x5_3 x7_2).set (x8_3 : Int).toNat (wrap64 ((rd (rd_L3 x5_3 (ji30)) (wrap64 (x8_3 + 1))) + 1)))) x7_2 (wrap64 (x8_3 - 1))) else (none)) else (none)) else (none)) else (none)) else (none)) = some r := by first | (rw [hji30] at H; exact H) | (simp only [hji30] at H ⊢; exact H)
                  have hji30w : (IntKind.i64.wrap (x7_2 + 1)) = ji30 := (i64_w _).trans hji30
                  by_cases c31 : 0 ≤ (ji30)
                  ·rw [if_pos c31] at H
                   have c31b0 : decide (0 ≤ (ji30)) = true := decide_eq_true c31
                   clear c31
                   by_cases c32 : (ji30) < (x5_3.length : Int)
                   ·rw [if_pos c32] at H
                    have c32b0 : decide ((ji30) < (x5_3.length : Int)) = true := decide_eq_true c32
                    have c32b0hl5_1 := c32b0
                    (try simp only [hl5_1] at c32b0hl5_1)
                    have c32b0hl5_2 := c32b0
                    (try simp only [hl5_2] at c32b0hl5_2)
                    have c32b0hl5_3 := c32b0
                    (try simp only [hl5_3] at c32b0hl5_3)
                    clear c32
                    obtain ⟨ji33, hji33⟩ : ∃ j_ : Int, (wrap64 (x8_3 + 1)) = j_ := ⟨_, rfl⟩
                    replace H : (if 0 ≤ (ji33) then (if (ji33) < ((rd_L3 x5_3 (ji30)).length : Int) then (if x8_3 < ((rd_L3 x5_3 x7_2).length : Int) then (spec_l9Table.l2 k3 a0 a1 (x5_3.set (x7_2 : Int).toNat ((rd_L3 x5_3 x7_2).set (x8_3 : Int).toNat (wrap64 ((rd (rd_L3 x5_3 (ji30)) (ji33)) + 1)))) x7_2 (wrap64 (x8_3 - 1))) else (none)) else (none)) else (none)) = some r := by first | (rw [hji33] at H; exact H) | (simp only [hji33] at H ⊢; exact H)
                    have hji33w : (IntKind.i64.wrap (x8_3 + 1)) = ji33 := (i64_w _).trans hji33
                    by_cases c34 : 0 ≤ (ji33)
                    ·rw [if_pos c34] at H
                     have c34b0 : decide (0 ≤ (ji33)) = true := decide_eq_true c34
                     clear c34
                     by_cases c35 : (ji33) < ((rd_L3 x5_3 (ji30)).length : Int)
                     ·rw [if_pos c35] at H
                      have c35b0 : decide ((ji33) < ((rd_L3 x5_3 (ji30)).length : Int)) = true := decide_eq_true c35
                      have c35b0hl5_1 := c35b0
                      (try simp only [hl5_1] at c35b0hl5_1)
                      have c35b0hl5_2 := c35b0
                      (try simp only [hl5_2] at c35b0hl5_2)
                      have c35b0hl5_3 := c35b0
                      (try simp only [hl5_3] at c35b0hl5_3)
                      clear c35
                      by_cases c36 : x8_3 < ((rd_L3 x5_3 x7_2).length : Int)
                      ·rw [if_pos c36] at H
                       have c36b0 : decide (x8_3 < ((rd_L3 x5_3 x7_2).length : Int)) = true := decide_eq_true c36
                       have c36b0hl5_1 := c36b0
                       (try simp only [hl5_1] at c36b0hl5_1)
                       have c36b0hl5_2 := c36b0
                       (try simp only [hl5_2] at c36b0hl5_2)
                       have c36b0hl5_3 := c36b0
                       (try simp only [hl5_3] at c36b0hl5_3)
                       clear c36
                       obtain ⟨y149, hy149⟩ : ∃ y_ : List Int, y_ = ((rd_L3 x5_3 x7_2).set (x8_3 : Int).toNat (wrap64 ((rd (rd_L3 x5_3 (ji30)) (ji33)) + 1))) := ⟨_, rfl⟩
                       replace H : (spec_l9Table.l2 k3 a0 a1 (x5_3.set (x7_2 : Int).toNat y149) x7_2 (wrap64 (x8_3 - 1))) = some r := by first | (rw [hy149]; with_reducible exact H) | (have H2_ := (Option.bind_some _ _).symm.trans H; rw [hy149]; with_reducible exact H2_) | (have H2_ := (Option.bind_some _ _).symm.trans H; with_reducible exact H2_) | with_reducible exact H | (rw [hy149]; exact H) | exact H
                       have Ny149 := Aside0.mk hy149
                       clear hy149
                       obtain ⟨y151, hy151⟩ : ∃ y_ : List (List Int), y_ = (x5_3.set (x7_2 : Int).toNat y149) := ⟨_, rfl⟩
                       replace H : (spec_l9Table.l2 k3 a0 a1 y151 x7_2 (wrap64 (x8_3 - 1))) = some r := by first | (rw [hy151]; with_reducible exact H) | (have H2_ := (Option.bind_some _ _).symm.trans H; rw [hy151]; with_reducible exact H2_) | (have H2_ := (Option.bind_some _ _).symm.trans H; with_reducible exact H2_) | with_reducible exact H | (rw [hy151]; exact H) | exact H
                       have Ny151 := Aside0.mk hy151
                       clear hy151
                       have H' := Aside0.mk H
                       clear H
                       try go_wp2
                       have n0_ := Aside0.mk (Kd.S_drew HO_5.out)
                       have n1_ := Aside0.mk (below_drew1 HB.out)
                       clear HO_5
                       clear HB
                       have HO_5 := n0_
                       have HB := n1_
                       clear n0_ n1_
                       have p24 : 0 ≤ (x7_2 : Int) := of_decide_eq_true z2
                       have q24 : x7_2 < (a0.size : Int) := of_decide_eq_true z2
                       have hx24 := bt_at a0 x7_2
                       replace p24 := eq_true p24
                       replace q24 := eq_true q24
                       have p27 : 0 ≤ (x8_3 : Int) := of_decide_eq_true z2
                       have q27 : x8_3 < (a1.size : Int) := of_decide_eq_true z2
                       have hx27 := bt_at a1 x8_3
                       replace p27 := eq_true p27
                       replace q27 := eq_true q27
                       refine start_ (n := 8) (S := fun w' => True) (ds := []) #[false, false, false, false, false, false, false, false] z0 rfl rfl trivial (fun hHeld => ?_); refine with_tabW spec_l9Table.tab14 spec_l9Table.bits14 (fun HT_ HW_ => ?_)
                       generalize wr.drew = w38 at HO_5 HB hHeld ⊢
                       refine pA 0 55 ?_
                       refine pA 1 56 ?_
                       refine pA 3 58 ?_
                       refine pA 4 59 ?_
                       refine tA 2 57 ?_ (hy := by intro w' _; go_simp; with_reducible rfl)
                       refine tA 5 60 ?_ (hy := by intro w' _; go_simp; with_reducible rfl)
                       refine pA 6 61 ?_
                       refine pA 7 54 ?_
                       refine done_ (done_of HT_.out z0) ?_
                       try go_wp2
                       have n0_ := Aside0.mk (Kd.S_drew HO_5.out)
                       have n1_ := Aside0.mk (below_drew1 HB.out)
                       clear HO_5
                       clear HB
                       have HO_5 := n0_
                       have HB := n1_
                       clear n0_ n1_
                       have p146 : 0 ≤ (x7_2 : Int) := of_decide_eq_true z2
                       have q146 : x7_2 < (x5_3.length : Int) := of_decide_eq_true z2
                       obtain ⟨ad146, A146_0, c146_0, e146, hx146_0, hl146_0, hi146_0⟩ := at_L3 (Kd.S_reads' HO_5.out).2.2 x7_2 p146 q146
                       cases e146
                       obtain ⟨ce146, hce146, hMe146, hcc146⟩ := Kd.S_get HO_5.out [] x7_2 p146 (by first | exact q146 | exact of_decide_eq_true z2 | (have e_ := (Kd.S_reads' HO_5.out).1; omega))
                       obtain ⟨ve146_0, rfl, ge146_0⟩ := hMe146
                       have hv146_0 := hcc146 0 _ rfl
                       rw [Nat.add_zero, show ((Kd.slice 3 (Kd.int .i64))).sz = 1 from rfl, Nat.mul_one] at hv146_0
                       replace hv146_0 := Option.some.inj (hv146_0.symm.trans hx146_0)
                       rw [hv146_0] at ge146_0
                       have HL146_0 := Aside0.mk (show Kd.R (Kd.int .i64) 3 _ _ _ _ (rd_L3 x5_3 x7_2) from ge146_0)
                       clear hv146_0 ge146_0
                       have HX146_0 := Aside0.mk hx146_0
                       clear hcc146 hce146
                       have HR146_0 := Aside0.mk hi146_0
                       have HC146_0 := Aside0.mk hl146_0
                       clear hi146_0 hl146_0
                       replace p146 := eq_true p146
                       replace q146 := eq_true q146
                       have p147 : 0 ≤ ((ji30) : Int) := of_decide_eq_true z2
                       have q147 : (ji30) < (x5_3.length : Int) := of_decide_eq_true z2
                       obtain ⟨ad147, A147_0, c147_0, e147, hx147_0, hl147_0, hi147_0⟩ := at_L3 (Kd.S_reads' HO_5.out).2.2 (ji30) p147 q147
                       obtain rfl : ad146 = ad147 := (by injection e147)
                       obtain ⟨ce147, hce147, hMe147, hcc147⟩ := Kd.S_get HO_5.out [] (ji30) p147 (by first | exact q147 | exact of_decide_eq_true z2 | (have e_ := (Kd.S_reads' HO_5.out).1; omega))
                       obtain ⟨ve147_0, rfl, ge147_0⟩ := hMe147
                       have hv147_0 := hcc147 0 _ rfl
                       rw [Nat.add_zero, show ((Kd.slice 3 (Kd.int .i64))).sz = 1 from rfl, Nat.mul_one] at hv147_0
                       replace hv147_0 := Option.some.inj (hv147_0.symm.trans hx147_0)
                       rw [hv147_0] at ge147_0
                       have HL147_0 := Aside0.mk (show Kd.R (Kd.int .i64) 3 _ _ _ _ (rd_L3 x5_3 (ji30)) from ge147_0)
                       clear hv147_0 ge147_0
                       have HX147_0 := Aside0.mk hx147_0
                       clear hcc147 hce147
                       have HR147_0 := Aside0.mk hi147_0
                       have HC147_0 := Aside0.mk hl147_0
                       clear hi147_0 hl147_0
                       replace p147 := eq_true p147
                       replace q147 := eq_true q147
                       have p148 : 0 ≤ ((ji33) : Int) := of_decide_eq_true z2
                       have q148 : (ji33) < ((rd_L3 x5_3 (ji30)).length : Int) := of_decide_eq_true z2
                       obtain ⟨ad148, e148, hx148_0⟩ := Kd.at_int (by repeat (first | (with_reducible exact HR147_0.out) | (with_reducible refine Kd.C_alloc ?_ _) | (with_reducible refine Kd.C_drewN ?_ _) | (with_reducible refine Kd.C_drew ?_) | exact HR147_0.out)) (ji33) p148 q148
                       cases e148
                       replace p148 := eq_true p148
                       replace q148 := eq_true q148
                       have p37 : 0 ≤ (x8_3 : Int) := of_decide_eq_true z2
                       have q37 : (x8_3 : Int) < (((rd_L3 x5_3 x7_2).length : Int) : Int) := of_decide_eq_true z2
                       obtain ⟨go37, co37, eo37, gb37, gl37, cl37, HG37⟩ := Kd.R_form HL146_0.out (by omega)
                       (first | cases eo37 | (injection eo37 with ea_ en_ ec_; (first | subst ea_ | (injection ea_ with ea_; subst ea_)); subst ec_; clear en_))
                       have GB37 := Aside0.mk gb37
                       have GG37 := Aside0.mk HG37
                       clear gb37 gl37 HG37
                       obtain ⟨hx37_0, hf37_0⟩ := Kd.R_celln 0 HL146_0.out (x8_3 : Int) p37 q37
                       replace p37 := eq_true p37
                       replace q37 := eq_true q37
                       have hq40 : (x7_2 : Int) < (x5_3.length : Int) := (by have h_ : (x7_2 : Int) < ((x5_3.length : Int) : Int) := of_decide_eq_true z2; first | exact h_ | (have e_ := (Kd.S_reads' HO_5.out).1; omega) | simpa only [List.length_set, List.length_set] using h_)
                       obtain ⟨oki40, ce40, hcl40, hM40, hcc40, hok40, hbk40⟩ := Kd.S_borrow HO_5.out [] (x7_2 : Int) (of_decide_eq_true z2) hq40
                       obtain ⟨ve40_0, rfl, ge40_0⟩ := hM40
                       have hv40 := hcc40 0 _ rfl
                       rw [Nat.add_zero, show ((Kd.slice 3 (Kd.int .i64))).sz = 1 from rfl, Nat.mul_one] at hv40
                       replace hv40 := Option.some.inj (hv40.symm.trans HX146_0.out)
                       subst hv40
                       clear hcc40 hcl40
                       replace ge40_0 := (show Kd.R (Kd.int .i64) 3 _ _ _ _ (rd_L3 x5_3 x7_2) from ge40_0)
                       have HP40 := Kd.R_putg ge40_0 (x8_3 : Int) (wrap64 ((rd (rd_L3 x5_3 (ji30)) (ji33)) + 1))
                       rw [← Ny149.out] at HP40
                       have HS40 := hbk40 HP40.2 (fun k_ e_ => by injection e_ with e_; subst e_; exact ge40_0.1 _ rfl) (x' := y149) (Kd.M_row HP40.1)
                       rw [← Ny151.out] at HS40
                       have HQ40 := Aside0.mk HS40
                       clear HP40 HS40 hbk40 hok40
                       refine start_ (n := 17) (S := fun w' => w'.cell? (ad146.add (x7_2).toNat) = some (.slice (some ⟨go37, 0, none⟩) (rd_L3 x5_3 x7_2).length c146_0) ∧ w'.cell? (ad146.add ((ji30)).toNat) = some (.slice (some ad148) (rd_L3 x5_3 (ji30)).length c147_0) ∧ w'.cell? (ad148.add ((ji33)).toNat) = some (.int .i64 (rd (rd_L3 x5_3 (ji30)) (ji33)))) (ds := [16]) #[false, false, false, false, false, false, false, false, false, false, false, false, false, false, false, false, false] z0 rfl rfl ⟨hx146_0, hx147_0, hx148_0⟩ (fun hHeld => ?_); refine with_tabW spec_l9Table.tab15 spec_l9Table.bits15 (fun HT_ HW_ => ?_)
                       generalize w38.drew = w39 at HO_5 HB GG37 HL146_0 HL147_0 HQ40 HR146_0 HR147_0 HX146_0 HX147_0 hf37_0 hx146_0 hx147_0 hx148_0 hx37_0 hHeld ⊢
                       refine pA 0 62 ?_
                       refine pA 1 63 ?_
                       refine pA 2 64 ?_
                       refine pA 4 66 ?_
                       refine pA 5 67 ?_
                       refine pA 6 68 ?_
                       refine pA 7 69 ?_
                       refine pA 8 70 ?_
                       refine pA 10 72 ?_
                       refine pA 11 73 ?_
                       refine tA 3 65 ?_ (hy := by rintro w' ⟨s0, s1, s2⟩; go_simp; with_reducible rfl)
                       refine tA 9 71 ?_ (hy := by rintro w' ⟨s0, s1, s2⟩; go_simp; with_reducible rfl)
                       refine pA 12 74 ?_
                       refine tA 13 75 ?_ (hy := by rintro w' ⟨s0, s1, s2⟩; go_simp; with_reducible rfl)
                       refine pA 14 76 ?_
                       refine pA 15 77 ?_
                       refine last_ (i := 16) (N := none) #[true, true, true, true, true, true, true, true, true, true, true, true, true, true, true, true, true] rfl rfl (one_of HT_.out z0) (by decide) (fun K hK => ?_)
                       refine skip_ (w1 := ?_) (by rfl) rfl ?_ ?_
                       rotate_left
                       ·go_simp
                        rfl
                       refine hK.out _ _ ?_
                       clear hK K
                       refine done_ (done_of HT_.out z0) ?_
                       try go_wp2
                       (try simp only [← hl5_3])
                       go_roundg k3
                       case measure => have := HK1.out; have := HK2.out; have := HK3.out; omega
                       case rel => exact ⟨(y151), (wrap64 (x8_3 - 1)), z1, (by first | exact H' | (simp only [hji3, hji30, hji33]; exact H') | (simp only [← hji3, ← hji30, ← hji33]; exact H')), ⟨by have := HK1.out; have := HK2.out; have := HK3.out; omega⟩, ⟨by (try simp only [hl5_1]); (try simp only [hl5_2]); (try simp only [hl5_3]); (with_reducible repeat (first | apply Kd.S_alloc | apply Kd.S_drewN | apply Kd.S_drew)); exact HQ40.out⟩, ⟨by repeat (first | (with_reducible first | exact HB.out | apply below_alloc | apply pw_below_drewN | apply below_drew1 | refine below_set ?_ GB37.out) | exact HB.out)⟩⟩
                      ·rw [if_neg c36] at H
                       exact absurd H (by simp)
                     ·rw [if_neg c35] at H
                      exact absurd H (by simp)
                    ·rw [if_neg c34] at H
                     exact absurd H (by simp)
                   ·rw [if_neg c32] at H
                    exact absurd H (by simp)
                  ·rw [if_neg c31] at H
                   exact absurd H (by simp)
                 ·rw [if_neg c29] at H
                  exact absurd H (by simp)
                ·rw [if_neg c28] at H
                 have c28b0 : ((bt a0 x7_2) == (bt a1 x8_3)) = false := beq_eq_false_iff_ne.mpr c28
                 have c28b1 : ((bt a0 x7_2) != (bt a1 x8_3)) = true := bne_iff_ne.mpr c28
                 obtain ⟨ji42, hji42⟩ : ∃ j_ : Int, (wrap64 (x7_2 + 1)) = j_ := ⟨_, rfl⟩
                 replace H : (if 0 ≤ (ji42) then (if (ji42) < (x5_3.length : Int) then (if x8_3 < ((rd_L3 x5_3 (ji42)).length : Int) then (if x7_2 < (x5_3.length : Int) then (if 0 ≤ (wrap64 (x8_3 + 1)) then (if (wrap64 (x8_3 + 1)) < ((rd_L3 x5_3 x7_2).length : Int) then (if (rd (rd_L3 x5_3 (ji42)) x8_3) ≥ (rd (rd_L3 x5_3 x7_2) (wrap64 (x8_3 + 1))) then (if x8_3 < ((rd_L3 x5_3 x7_2).length : Int) then (spec_l9Table.l2 k3 a0 a1 (x5_3.set (x7_2 : Int).toNat ((rd_L3 x5_3 x7_2).set (x8_3 : Int).toNat (rd (rd_L3 x5_3 (ji42)) x8_3))) x7_2 (wrap64 (x8_3 - 1))) else (none)) else (if x8_3 < ((rd_L3 x5_3 x7_2).length : Int) then (spec_l9Table.l2 k3 a0 a1 (x5_3.set (x7_2 : Int).toNat ((rd_L3 x5_3 x7_2).set (x8_3 : Int).toNat (rd (rd_L3 x5_3 x7_2) (wrap64 (x8_3 + 1))))) x7_2 (wrap64 (x8_3 - 1))) else (none))) else (none)) else (none)) else (none)) else (none)) else (none)) else (none)) = some r := by first | (rw [hji42] at H; exact H) | (simp only [hji42] at H ⊢; exact H)
                 have hji42w : (IntKind.i64.wrap (x7_2 + 1)) = ji42 := (i64_w _).trans hji42
                 by_cases c43 : 0 ≤ (ji42)
                 ·rw [if_pos c43] at H
                  have c43b0 : decide (0 ≤ (ji42)) = true := decide_eq_true c43
                  clear c43
                  by_cases c44 : (ji42) < (x5_3.length : Int)
                  ·rw [if_pos c44] at H
                   have c44b0 : decide ((ji42) < (x5_3.length : Int)) = true := decide_eq_true c44
                   have c44b0hl5_1 := c44b0
                   (try simp only [hl5_1] at c44b0hl5_1)
                   have c44b0hl5_2 := c44b0
                   (try simp only [hl5_2] at c44b0hl5_2)
                   have c44b0hl5_3 := c44b0
                   (try simp only [hl5_3] at c44b0hl5_3)
                   clear c44
                   by_cases c45 : x8_3 < ((rd_L3 x5_3 (ji42)).length : Int)
                   ·rw [if_pos c45] at H
                    have c45b0 : decide (x8_3 < ((rd_L3 x5_3 (ji42)).length : Int)) = true := decide_eq_true c45
                    have c45b0hl5_1 := c45b0
                    (try simp only [hl5_1] at c45b0hl5_1)
                    have c45b0hl5_2 := c45b0
                    (try simp only [hl5_2] at c45b0hl5_2)
                    have c45b0hl5_3 := c45b0
                    (try simp only [hl5_3] at c45b0hl5_3)
                    clear c45
                    by_cases c46 : x7_2 < (x5_3.length : Int)
                    ·rw [if_pos c46] at H
                     have c46b0 : decide (x7_2 < (x5_3.length : Int)) = true := decide_eq_true c46
                     have c46b0hl5_1 := c46b0
                     (try simp only [hl5_1] at c46b0hl5_1)
                     have c46b0hl5_2 := c46b0
                     (try simp only [hl5_2] at c46b0hl5_2)
                     have c46b0hl5_3 := c46b0
                     (try simp only [hl5_3] at c46b0hl5_3)
                     clear c46
                     obtain ⟨ji47, hji47⟩ : ∃ j_ : Int, (wrap64 (x8_3 + 1)) = j_ := ⟨_, rfl⟩
                     replace H : (if 0 ≤ (ji47) then (if (ji47) < ((rd_L3 x5_3 x7_2).length : Int) then (if (rd (rd_L3 x5_3 (ji42)) x8_3) ≥ (rd (rd_L3 x5_3 x7_2) (ji47)) then (if x8_3 < ((rd_L3 x5_3 x7_2).length : Int) then (spec_l9Table.l2 k3 a0 a1 (x5_3.set (x7_2 : Int).toNat ((rd_L3 x5_3 x7_2).set (x8_3 : Int).toNat (rd (rd_L3 x5_3 (ji42)) x8_3))) x7_2 (wrap64 (x8_3 - 1))) else (none)) else (if x8_3 < ((rd_L3 x5_3 x7_2).length : Int) then (spec_l9Table.l2 k3 a0 a1 (x5_3.set (x7_2 : Int).toNat ((rd_L3 x5_3 x7_2).set (x8_3 : Int).toNat (rd (rd_L3 x5_3 x7_2) (ji47)))) x7_2 (wrap64 (x8_3 - 1))) else (none))) else (none)) else (none)) = some r := by first | (rw [hji47] at H; exact H) | (simp only [hji47] at H ⊢; exact H)
                     have hji47w : (IntKind.i64.wrap (x8_3 + 1)) = ji47 := (i64_w _).trans hji47
                     by_cases c48 : 0 ≤ (ji47)
                     ·rw [if_pos c48] at H
                      have c48b0 : decide (0 ≤ (ji47)) = true := decide_eq_true c48
                      clear c48
                      by_cases c49 : (ji47) < ((rd_L3 x5_3 x7_2).length : Int)
                      ·rw [if_pos c49] at H
                       have c49b0 : decide ((ji47) < ((rd_L3 x5_3 x7_2).length : Int)) = true := decide_eq_true c49
                       have c49b0hl5_1 := c49b0
                       (try simp only [hl5_1] at c49b0hl5_1)
                       have c49b0hl5_2 := c49b0
                       (try simp only [hl5_2] at c49b0hl5_2)
                       have c49b0hl5_3 := c49b0
                       (try simp only [hl5_3] at c49b0hl5_3)
                       clear c49
                       by_cases c50 : (rd (rd_L3 x5_3 (ji42)) x8_3) ≥ (rd (rd_L3 x5_3 x7_2) (ji47))
                       ·rw [if_pos c50] at H
                        have c50b0 : decide ((rd (rd_L3 x5_3 x7_2) (ji47)) ≤ (rd (rd_L3 x5_3 (ji42)) x8_3)) = true := decide_eq_true c50
                        clear c50
                        by_cases c51 : x8_3 < ((rd_L3 x5_3 x7_2).length : Int)
                        ·rw [if_pos c51] at H
                         have c51b0 : decide (x8_3 < ((rd_L3 x5_3 x7_2).length : Int)) = true := decide_eq_true c51
                         have c51b0hl5_1 := c51b0
                         (try simp only [hl5_1] at c51b0hl5_1)
                         have c51b0hl5_2 := c51b0
                         (try simp only [hl5_2] at c51b0hl5_2)
                         have c51b0hl5_3 := c51b0
                         (try simp only [hl5_3] at c51b0hl5_3)
                         clear c51
                         obtain ⟨y159, hy159⟩ : ∃ y_ : List Int, y_ = ((rd_L3 x5_3 x7_2).set (x8_3 : Int).toNat (rd (rd_L3 x5_3 (ji42)) x8_3)) := ⟨_, rfl⟩
                         replace H : (spec_l9Table.l2 k3 a0 a1 (x5_3.set (x7_2 : Int).toNat y159) x7_2 (wrap64 (x8_3 - 1))) = some r := by first | (rw [hy159]; with_reducible exact H) | (have H2_ := (Option.bind_some _ _).symm.trans H; rw [hy159]; with_reducible exact H2_) | (have H2_ := (Option.bind_some _ _).symm.trans H; with_reducible exact H2_) | with_reducible exact H | (rw [hy159]; exact H) | exact H
                         have Ny159 := Aside0.mk hy159
                         clear hy159
                         obtain ⟨y161, hy161⟩ : ∃ y_ : List (List Int), y_ = (x5_3.set (x7_2 : Int).toNat y159) := ⟨_, rfl⟩
                         replace H : (spec_l9Table.l2 k3 a0 a1 y161 x7_2 (wrap64 (x8_3 - 1))) = some r := by first | (rw [hy161]; with_reducible exact H) | (have H2_ := (Option.bind_some _ _).symm.trans H; rw [hy161]; with_reducible exact H2_) | (have H2_ := (Option.bind_some _ _).symm.trans H; with_reducible exact H2_) | with_reducible exact H | (rw [hy161]; exact H) | exact H
                         have Ny161 := Aside0.mk hy161
                         clear hy161
                         have H' := Aside0.mk H
                         clear H
                         try go_wp2
                         have n0_ := Aside0.mk (Kd.S_drew HO_5.out)
                         have n1_ := Aside0.mk (below_drew1 HB.out)
                         clear HO_5
                         clear HB
                         have HO_5 := n0_
                         have HB := n1_
                         clear n0_ n1_
                         have p24 : 0 ≤ (x7_2 : Int) := of_decide_eq_true z2
                         have q24 : x7_2 < (a0.size : Int) := of_decide_eq_true z2
                         have hx24 := bt_at a0 x7_2
                         replace p24 := eq_true p24
                         replace q24 := eq_true q24
                         have p27 : 0 ≤ (x8_3 : Int) := of_decide_eq_true z2
                         have q27 : x8_3 < (a1.size : Int) := of_decide_eq_true z2
                         have hx27 := bt_at a1 x8_3
                         replace p27 := eq_true p27
                         replace q27 := eq_true q27
                         refine start_ (n := 8) (S := fun w' => True) (ds := []) #[false, false, false, false, false, false, false, false] z0 rfl rfl trivial (fun hHeld => ?_); refine with_tabW spec_l9Table.tab14 spec_l9Table.bits14 (fun HT_ HW_ => ?_)
                         generalize wr.drew = w53 at HO_5 HB hHeld ⊢
                         refine pA 0 55 ?_
                         refine pA 1 56 ?_
                         refine pA 3 58 ?_
                         refine pA 4 59 ?_
                         refine tA 2 57 ?_ (hy := by intro w' _; go_simp; with_reducible rfl)
                         refine tA 5 60 ?_ (hy := by intro w' _; go_simp; with_reducible rfl)
                         refine pA 6 61 ?_
                         refine pA 7 54 ?_
                         refine done_ (done_of HT_.out z0) ?_
                         try go_wp2
                         have n0_ := Aside0.mk (Kd.S_drew HO_5.out)
                         have n1_ := Aside0.mk (below_drew1 HB.out)
                         clear HO_5
                         clear HB
                         have HO_5 := n0_
                         have HB := n1_
                         clear n0_ n1_
                         have p152 : 0 ≤ ((ji42) : Int) := of_decide_eq_true z2
                         have q152 : (ji42) < (x5_3.length : Int) := of_decide_eq_true z2
                         obtain ⟨ad152, A152_0, c152_0, e152, hx152_0, hl152_0, hi152_0⟩ := at_L3 (Kd.S_reads' HO_5.out).2.2 (ji42) p152 q152
                         cases e152
                         obtain ⟨ce152, hce152, hMe152, hcc152⟩ := Kd.S_get HO_5.out [] (ji42) p152 (by first | exact q152 | exact of_decide_eq_true z2 | (have e_ := (Kd.S_reads' HO_5.out).1; omega))
                         obtain ⟨ve152_0, rfl, ge152_0⟩ := hMe152
                         have hv152_0 := hcc152 0 _ rfl
                         rw [Nat.add_zero, show ((Kd.slice 3 (Kd.int .i64))).sz = 1 from rfl, Nat.mul_one] at hv152_0
                         replace hv152_0 := Option.some.inj (hv152_0.symm.trans hx152_0)
                         rw [hv152_0] at ge152_0
                         have HL152_0 := Aside0.mk (show Kd.R (Kd.int .i64) 3 _ _ _ _ (rd_L3 x5_3 (ji42)) from ge152_0)
                         clear hv152_0 ge152_0
                         have HX152_0 := Aside0.mk hx152_0
                         clear hcc152 hce152
                         have HR152_0 := Aside0.mk hi152_0
                         have HC152_0 := Aside0.mk hl152_0
                         clear hi152_0 hl152_0
                         replace p152 := eq_true p152
                         replace q152 := eq_true q152
                         have p153 : 0 ≤ (x8_3 : Int) := of_decide_eq_true z2
                         have q153 : x8_3 < ((rd_L3 x5_3 (ji42)).length : Int) := of_decide_eq_true z2
                         obtain ⟨ad153, e153, hx153_0⟩ := Kd.at_int (by repeat (first | (with_reducible exact HR152_0.out) | (with_reducible refine Kd.C_alloc ?_ _) | (with_reducible refine Kd.C_drewN ?_ _) | (with_reducible refine Kd.C_drew ?_) | exact HR152_0.out)) x8_3 p153 q153
                         cases e153
                         replace p153 := eq_true p153
                         replace q153 := eq_true q153
                         have p154 : 0 ≤ (x7_2 : Int) := of_decide_eq_true z2
                         have q154 : x7_2 < (x5_3.length : Int) := of_decide_eq_true z2
                         obtain ⟨ad154, A154_0, c154_0, e154, hx154_0, hl154_0, hi154_0⟩ := at_L3 (Kd.S_reads' HO_5.out).2.2 x7_2 p154 q154
                         obtain rfl : ad152 = ad154 := (by injection e154)
                         obtain ⟨ce154, hce154, hMe154, hcc154⟩ := Kd.S_get HO_5.out [] x7_2 p154 (by first | exact q154 | exact of_decide_eq_true z2 | (have e_ := (Kd.S_reads' HO_5.out).1; omega))
                         obtain ⟨ve154_0, rfl, ge154_0⟩ := hMe154
                         have hv154_0 := hcc154 0 _ rfl
                         rw [Nat.add_zero, show ((Kd.slice 3 (Kd.int .i64))).sz = 1 from rfl, Nat.mul_one] at hv154_0
                         replace hv154_0 := Option.some.inj (hv154_0.symm.trans hx154_0)
                         rw [hv154_0] at ge154_0
                         have HL154_0 := Aside0.mk (show Kd.R (Kd.int .i64) 3 _ _ _ _ (rd_L3 x5_3 x7_2) from ge154_0)
                         clear hv154_0 ge154_0
                         have HX154_0 := Aside0.mk hx154_0
                         clear hcc154 hce154
                         have HR154_0 := Aside0.mk hi154_0
                         have HC154_0 := Aside0.mk hl154_0
                         clear hi154_0 hl154_0
                         replace p154 := eq_true p154
                         replace q154 := eq_true q154
                         have p155 : 0 ≤ ((ji47) : Int) := of_decide_eq_true z2
                         have q155 : (ji47) < ((rd_L3 x5_3 x7_2).length : Int) := of_decide_eq_true z2
                         obtain ⟨ad155, e155, hx155_0⟩ := Kd.at_int (by repeat (first | (with_reducible exact HR154_0.out) | (with_reducible refine Kd.C_alloc ?_ _) | (with_reducible refine Kd.C_drewN ?_ _) | (with_reducible refine Kd.C_drew ?_) | exact HR154_0.out)) (ji47) p155 q155
                         cases e155
                         replace p155 := eq_true p155
                         replace q155 := eq_true q155
                         refine start_ (n := 18) (S := fun w' => w'.cell? (ad152.add ((ji42)).toNat) = some (.slice (some ad153) (rd_L3 x5_3 (ji42)).length c152_0) ∧ w'.cell? (ad153.add (x8_3).toNat) = some (.int .i64 (rd (rd_L3 x5_3 (ji42)) x8_3)) ∧ w'.cell? (ad152.add (x7_2).toNat) = some (.slice (some ad155) (rd_L3 x5_3 x7_2).length c154_0) ∧ w'.cell? (ad155.add ((ji47)).toNat) = some (.int .i64 (rd (rd_L3 x5_3 x7_2) (ji47)))) (ds := []) #[false, false, false, false, false, false, false, false, false, false, false, false, false, false, false, false, false, false] z0 rfl rfl ⟨hx152_0, hx153_0, hx154_0, hx155_0⟩ (fun hHeld => ?_); refine with_tabW spec_l9Table.tab16 spec_l9Table.bits16 (fun HT_ HW_ => ?_)
                         generalize w53.drew = w54 at HO_5 HB HL152_0 HL154_0 HR152_0 HR154_0 HX152_0 HX154_0 hx152_0 hx153_0 hx154_0 hx155_0 hHeld ⊢
                         refine pA 0 79 ?_
                         refine pA 1 80 ?_
                         refine pA 2 81 ?_
                         refine pA 3 82 ?_
                         refine pA 5 84 ?_
                         refine pA 8 87 ?_
                         refine pA 9 88 ?_
                         refine pA 10 89 ?_
                         refine pA 12 91 ?_
                         refine pA 13 92 ?_
                         refine tA 4 83 ?_ (hy := by rintro w' ⟨s0, s1, s2, s3⟩; go_simp; with_reducible rfl)
                         refine pA 6 85 ?_
                         refine tA 7 86 ?_ (hy := by rintro w' ⟨s0, s1, s2, s3⟩; go_simp; with_reducible rfl)
                         refine tA 11 90 ?_ (hy := by rintro w' ⟨s0, s1, s2, s3⟩; go_simp; with_reducible rfl)
                         refine pA 14 93 ?_
                         refine tA 15 94 ?_ (hy := by rintro w' ⟨s0, s1, s2, s3⟩; go_simp; with_reducible rfl)
                         refine pA 16 95 ?_
                         refine pA 17 78 ?_
                         refine done_ (done_of HT_.out z0) ?_
                         try go_wp2
                         have n0_ := Aside0.mk (Kd.S_drew HO_5.out)
                         have n1_ := Aside0.mk (Kd.R_drew HL152_0.out)
                         have n2_ := Aside0.mk (Kd.R_drew HL154_0.out)
                         have n3_ := Aside0.mk (Kd.C_drew HR152_0.out)
                         have n4_ := Aside0.mk (Kd.C_drew HR154_0.out)
                         have n5_ := Aside0.mk (below_drew1 HB.out)
                         clear HO_5
                         clear HL152_0
                         clear HL154_0
                         clear HR152_0
                         clear HR154_0
                         clear HB
                         have HO_5 := n0_
                         have HL152_0 := n1_
                         have HL154_0 := n2_
                         have HR152_0 := n3_
                         have HR154_0 := n4_
                         have HB := n5_
                         clear n0_ n1_ n2_ n3_ n4_ n5_
                         have p156 : 0 ≤ (x7_2 : Int) := of_decide_eq_true z2
                         have q156 : x7_2 < (x5_3.length : Int) := of_decide_eq_true z2
                         obtain ⟨ad156, A156_0, c156_0, e156, hx156_0, hl156_0, hi156_0⟩ := at_L3 (Kd.S_reads' HO_5.out).2.2 x7_2 p156 q156
                         obtain rfl : ad152 = ad156 := (by injection e156)
                         obtain ⟨ce156, hce156, hMe156, hcc156⟩ := Kd.S_get HO_5.out [] x7_2 p156 (by first | exact q156 | exact of_decide_eq_true z2 | (have e_ := (Kd.S_reads' HO_5.out).1; omega))
                         obtain ⟨ve156_0, rfl, ge156_0⟩ := hMe156
                         have hv156_0 := hcc156 0 _ rfl
                         rw [Nat.add_zero, show ((Kd.slice 3 (Kd.int .i64))).sz = 1 from rfl, Nat.mul_one] at hv156_0
                         replace hv156_0 := Option.some.inj (hv156_0.symm.trans hx156_0)
                         rw [hv156_0] at ge156_0
                         have HL156_0 := Aside0.mk (show Kd.R (Kd.int .i64) 3 _ _ _ _ (rd_L3 x5_3 x7_2) from ge156_0)
                         clear hv156_0 ge156_0
                         have HX156_0 := Aside0.mk hx156_0
                         clear hcc156 hce156
                         have HR156_0 := Aside0.mk hi156_0
                         have HC156_0 := Aside0.mk hl156_0
                         clear hi156_0 hl156_0
                         replace p156 := eq_true p156
                         replace q156 := eq_true q156
                         have p157 : 0 ≤ ((ji42) : Int) := of_decide_eq_true z2
                         have q157 : (ji42) < (x5_3.length : Int) := of_decide_eq_true z2
                         obtain ⟨ad157, A157_0, c157_0, e157, hx157_0, hl157_0, hi157_0⟩ := at_L3 (Kd.S_reads' HO_5.out).2.2 (ji42) p157 q157
                         obtain rfl : ad152 = ad157 := (by injection e157)
                         obtain ⟨ce157, hce157, hMe157, hcc157⟩ := Kd.S_get HO_5.out [] (ji42) p157 (by first | exact q157 | exact of_decide_eq_true z2 | (have e_ := (Kd.S_reads' HO_5.out).1; omega))
                         obtain ⟨ve157_0, rfl, ge157_0⟩ := hMe157
                         have hv157_0 := hcc157 0 _ rfl
                         rw [Nat.add_zero, show ((Kd.slice 3 (Kd.int .i64))).sz = 1 from rfl, Nat.mul_one] at hv157_0
                         replace hv157_0 := Option.some.inj (hv157_0.symm.trans hx157_0)
                         rw [hv157_0] at ge157_0
                         have HL157_0 := Aside0.mk (show Kd.R (Kd.int .i64) 3 _ _ _ _ (rd_L3 x5_3 (ji42)) from ge157_0)
                         clear hv157_0 ge157_0
                         have HX157_0 := Aside0.mk hx157_0
                         clear hcc157 hce157
                         have HR157_0 := Aside0.mk hi157_0
                         have HC157_0 := Aside0.mk hl157_0
                         clear hi157_0 hl157_0
                         replace p157 := eq_true p157
                         replace q157 := eq_true q157
                         have p158 : 0 ≤ (x8_3 : Int) := of_decide_eq_true z2
                         have q158 : x8_3 < ((rd_L3 x5_3 (ji42)).length : Int) := of_decide_eq_true z2
                         obtain ⟨ad158, e158, hx158_0⟩ := Kd.at_int (by repeat (first | (with_reducible exact HR157_0.out) | (with_reducible refine Kd.C_alloc ?_ _) | (with_reducible refine Kd.C_drewN ?_ _) | (with_reducible refine Kd.C_drew ?_) | exact HR157_0.out)) x8_3 p158 q158
                         cases e158
                         replace p158 := eq_true p158
                         replace q158 := eq_true q158
                         have p52 : 0 ≤ (x8_3 : Int) := of_decide_eq_true z2
                         have q52 : (x8_3 : Int) < (((rd_L3 x5_3 x7_2).length : Int) : Int) := of_decide_eq_true z2
                         obtain ⟨go52, co52, eo52, gb52, gl52, cl52, HG52⟩ := Kd.R_form HL156_0.out (by omega)
                         (first | cases eo52 | (injection eo52 with ea_ en_ ec_; (first | subst ea_ | (injection ea_ with ea_; subst ea_)); subst ec_; clear en_))
                         have GB52 := Aside0.mk gb52
                         have GG52 := Aside0.mk HG52
                         clear gb52 gl52 HG52
                         obtain ⟨hx52_0, hf52_0⟩ := Kd.R_celln 0 HL156_0.out (x8_3 : Int) p52 q52
                         replace p52 := eq_true p52
                         replace q52 := eq_true q52
                         have hq56 : (x7_2 : Int) < (x5_3.length : Int) := (by have h_ : (x7_2 : Int) < ((x5_3.length : Int) : Int) := of_decide_eq_true z2; first | exact h_ | (have e_ := (Kd.S_reads' HO_5.out).1; omega) | simpa only [List.length_set, List.length_set] using h_)
                         obtain ⟨oki56, ce56, hcl56, hM56, hcc56, hok56, hbk56⟩ := Kd.S_borrow HO_5.out [] (x7_2 : Int) (of_decide_eq_true z2) hq56
                         obtain ⟨ve56_0, rfl, ge56_0⟩ := hM56
                         have hv56 := hcc56 0 _ rfl
                         rw [Nat.add_zero, show ((Kd.slice 3 (Kd.int .i64))).sz = 1 from rfl, Nat.mul_one] at hv56
                         replace hv56 := Option.some.inj (hv56.symm.trans HX156_0.out)
                         subst hv56
                         clear hcc56 hcl56
                         replace ge56_0 := (show Kd.R (Kd.int .i64) 3 _ _ _ _ (rd_L3 x5_3 x7_2) from ge56_0)
                         have HP56 := Kd.R_putg ge56_0 (x8_3 : Int) (rd (rd_L3 x5_3 (ji42)) x8_3)
                         rw [← Ny159.out] at HP56
                         have HS56 := hbk56 HP56.2 (fun k_ e_ => by injection e_ with e_; subst e_; exact ge56_0.1 _ rfl) (x' := y159) (Kd.M_row HP56.1)
                         rw [← Ny161.out] at HS56
                         have HQ56 := Aside0.mk HS56
                         clear HP56 HS56 hbk56 hok56
                         refine start_ (n := 15) (S := fun w' => w'.cell? (ad152.add (x7_2).toNat) = some (.slice (some ⟨go52, 0, none⟩) (rd_L3 x5_3 x7_2).length c156_0) ∧ w'.cell? (ad152.add ((ji42)).toNat) = some (.slice (some ad158) (rd_L3 x5_3 (ji42)).length c157_0) ∧ w'.cell? (ad158.add (x8_3).toNat) = some (.int .i64 (rd (rd_L3 x5_3 (ji42)) x8_3))) (ds := [14]) #[false, false, false, false, false, false, false, false, false, false, false, false, false, false, false] z0 rfl rfl ⟨hx156_0, hx157_0, hx158_0⟩ (fun hHeld => ?_); refine with_tabW spec_l9Table.tab17 spec_l9Table.bits17 (fun HT_ HW_ => ?_)
                         generalize w54.drew = w55 at HO_5 HL152_0 HL154_0 HR152_0 HR154_0 HB GG52 HL156_0 HL157_0 HQ56 HR156_0 HR157_0 HX156_0 HX157_0 hf52_0 hx156_0 hx157_0 hx158_0 hx52_0 hHeld ⊢
                         refine pA 0 96 ?_
                         refine pA 1 97 ?_
                         refine pA 2 98 ?_
                         refine pA 4 100 ?_
                         refine pA 5 101 ?_
                         refine pA 6 102 ?_
                         refine pA 7 103 ?_
                         refine pA 8 104 ?_
                         refine pA 10 106 ?_
                         refine tA 3 99 ?_ (hy := by rintro w' ⟨s0, s1, s2⟩; go_simp; with_reducible rfl)
                         refine tA 9 105 ?_ (hy := by rintro w' ⟨s0, s1, s2⟩; go_simp; with_reducible rfl)
                         refine pA 11 107 ?_
                         refine tA 12 108 ?_ (hy := by rintro w' ⟨s0, s1, s2⟩; go_simp; with_reducible rfl)
                         refine pA 13 109 ?_
                         refine last_ (i := 14) (N := none) #[true, true, true, true, true, true, true, true, true, true, true, true, true, true, true] rfl rfl (one_of HT_.out z0) (by decide) (fun K hK => ?_)
                         refine skip_ (w1 := ?_) (by rfl) rfl ?_ ?_
                         rotate_left
                         ·go_simp
                          rfl
                         refine hK.out _ _ ?_
                         clear hK K
                         refine done_ (done_of HT_.out z0) ?_
                         try go_wp2
                         (try simp only [← hl5_3])
                         go_roundg k3
                         case measure => have := HK1.out; have := HK2.out; have := HK3.out; omega
                         case rel => exact ⟨(y161), (wrap64 (x8_3 - 1)), z1, (by first | exact H' | (simp only [hji3, hji42, hji47]; exact H') | (simp only [← hji3, ← hji42, ← hji47]; exact H')), ⟨by have := HK1.out; have := HK2.out; have := HK3.out; omega⟩, ⟨by (try simp only [hl5_1]); (try simp only [hl5_2]); (try simp only [hl5_3]); (with_reducible repeat (first | apply Kd.S_alloc | apply Kd.S_drewN | apply Kd.S_drew)); exact HQ56.out⟩, ⟨by repeat (first | (with_reducible first | exact HB.out | apply below_alloc | apply pw_below_drewN | apply below_drew1 | refine below_set ?_ GB52.out) | exact HB.out)⟩⟩
                        ·rw [if_neg c51] at H
                         exact absurd H (by simp)
                       ·rw [if_neg c50] at H
                        have c50b0 : decide ((rd (rd_L3 x5_3 x7_2) (ji47)) ≤ (rd (rd_L3 x5_3 (ji42)) x8_3)) = false := decide_eq_false c50
                        clear c50
                        by_cases c58 : x8_3 < ((rd_L3 x5_3 x7_2).length : Int)
                        ·rw [if_pos c58] at H
                         have c58b0 : decide (x8_3 < ((rd_L3 x5_3 x7_2).length : Int)) = true := decide_eq_true c58
                         have c58b0hl5_1 := c58b0
                         (try simp only [hl5_1] at c58b0hl5_1)
                         have c58b0hl5_2 := c58b0
                         (try simp only [hl5_2] at c58b0hl5_2)
                         have c58b0hl5_3 := c58b0
                         (try simp only [hl5_3] at c58b0hl5_3)
                         clear c58
                         obtain ⟨y165, hy165⟩ : ∃ y_ : List Int, y_ = ((rd_L3 x5_3 x7_2).set (x8_3 : Int).toNat (rd (rd_L3 x5_3 x7_2) (ji47))) := ⟨_, rfl⟩
                         replace H : (spec_l9Table.l2 k3 a0 a1 (x5_3.set (x7_2 : Int).toNat y165) x7_2 (wrap64 (x8_3 - 1))) = some r := by first | (rw [hy165]; with_reducible exact H) | (have H2_ := (Option.bind_some _ _).symm.trans H; rw [hy165]; with_reducible exact H2_) | (have H2_ := (Option.bind_some _ _).symm.trans H; with_reducible exact H2_) | with_reducible exact H | (rw [hy165]; exact H) | exact H
                         have Ny165 := Aside0.mk hy165
                         clear hy165
                         obtain ⟨y167, hy167⟩ : ∃ y_ : List (List Int), y_ = (x5_3.set (x7_2 : Int).toNat y165) := ⟨_, rfl⟩
                         replace H : (spec_l9Table.l2 k3 a0 a1 y167 x7_2 (wrap64 (x8_3 - 1))) = some r := by first | (rw [hy167]; with_reducible exact H) | (have H2_ := (Option.bind_some _ _).symm.trans H; rw [hy167]; with_reducible exact H2_) | (have H2_ := (Option.bind_some _ _).symm.trans H; with_reducible exact H2_) | with_reducible exact H | (rw [hy167]; exact H) | exact H
                         have Ny167 := Aside0.mk hy167
                         clear hy167
                         have H' := Aside0.mk H
                         clear H
                         try go_wp2
                         have n0_ := Aside0.mk (Kd.S_drew HO_5.out)
                         have n1_ := Aside0.mk (below_drew1 HB.out)
                         clear HO_5
                         clear HB
                         have HO_5 := n0_
                         have HB := n1_
                         clear n0_ n1_
                         have p24 : 0 ≤ (x7_2 : Int) := of_decide_eq_true z2
                         have q24 : x7_2 < (a0.size : Int) := of_decide_eq_true z2
                         have hx24 := bt_at a0 x7_2
                         replace p24 := eq_true p24
                         replace q24 := eq_true q24
                         have p27 : 0 ≤ (x8_3 : Int) := of_decide_eq_true z2
                         have q27 : x8_3 < (a1.size : Int) := of_decide_eq_true z2
                         have hx27 := bt_at a1 x8_3
                         replace p27 := eq_true p27
                         replace q27 := eq_true q27
                         refine start_ (n := 8) (S := fun w' => True) (ds := []) #[false, false, false, false, false, false, false, false] z0 rfl rfl trivial (fun hHeld => ?_); refine with_tabW spec_l9Table.tab14 spec_l9Table.bits14 (fun HT_ HW_ => ?_)
                         generalize wr.drew = w60 at HO_5 HB hHeld ⊢
                         refine pA 0 55 ?_
                         refine pA 1 56 ?_
                         refine pA 3 58 ?_
                         refine pA 4 59 ?_
                         refine tA 2 57 ?_ (hy := by intro w' _; go_simp; with_reducible rfl)
                         refine tA 5 60 ?_ (hy := by intro w' _; go_simp; with_reducible rfl)
                         refine pA 6 61 ?_
                         refine pA 7 54 ?_
                         refine done_ (done_of HT_.out z0) ?_
                         try go_wp2
                         have n0_ := Aside0.mk (Kd.S_drew HO_5.out)
                         have n1_ := Aside0.mk (below_drew1 HB.out)
                         clear HO_5
                         clear HB
                         have HO_5 := n0_
                         have HB := n1_
                         clear n0_ n1_
                         have p152 : 0 ≤ ((ji42) : Int) := of_decide_eq_true z2
                         have q152 : (ji42) < (x5_3.length : Int) := of_decide_eq_true z2
                         obtain ⟨ad152, A152_0, c152_0, e152, hx152_0, hl152_0, hi152_0⟩ := at_L3 (Kd.S_reads' HO_5.out).2.2 (ji42) p152 q152
                         cases e152
                         obtain ⟨ce152, hce152, hMe152, hcc152⟩ := Kd.S_get HO_5.out [] (ji42) p152 (by first | exact q152 | exact of_decide_eq_true z2 | (have e_ := (Kd.S_reads' HO_5.out).1; omega))
                         obtain ⟨ve152_0, rfl, ge152_0⟩ := hMe152
                         have hv152_0 := hcc152 0 _ rfl
                         rw [Nat.add_zero, show ((Kd.slice 3 (Kd.int .i64))).sz = 1 from rfl, Nat.mul_one] at hv152_0
                         replace hv152_0 := Option.some.inj (hv152_0.symm.trans hx152_0)
                         rw [hv152_0] at ge152_0
                         have HL152_0 := Aside0.mk (show Kd.R (Kd.int .i64) 3 _ _ _ _ (rd_L3 x5_3 (ji42)) from ge152_0)
                         clear hv152_0 ge152_0
                         have HX152_0 := Aside0.mk hx152_0
                         clear hcc152 hce152
                         have HR152_0 := Aside0.mk hi152_0
                         have HC152_0 := Aside0.mk hl152_0
                         clear hi152_0 hl152_0
                         replace p152 := eq_true p152
                         replace q152 := eq_true q152
                         have p153 : 0 ≤ (x8_3 : Int) := of_decide_eq_true z2
                         have q153 : x8_3 < ((rd_L3 x5_3 (ji42)).length : Int) := of_decide_eq_true z2
                         obtain ⟨ad153, e153, hx153_0⟩ := Kd.at_int (by repeat (first | (with_reducible exact HR152_0.out) | (with_reducible refine Kd.C_alloc ?_ _) | (with_reducible refine Kd.C_drewN ?_ _) | (with_reducible refine Kd.C_drew ?_) | exact HR152_0.out)) x8_3 p153 q153
                         cases e153
                         replace p153 := eq_true p153
                         replace q153 := eq_true q153
                         have p154 : 0 ≤ (x7_2 : Int) := of_decide_eq_true z2
                         have q154 : x7_2 < (x5_3.length : Int) := of_decide_eq_true z2
                         obtain ⟨ad154, A154_0, c154_0, e154, hx154_0, hl154_0, hi154_0⟩ := at_L3 (Kd.S_reads' HO_5.out).2.2 x7_2 p154 q154
                         obtain rfl : ad152 = ad154 := (by injection e154)
                         obtain ⟨ce154, hce154, hMe154, hcc154⟩ := Kd.S_get HO_5.out [] x7_2 p154 (by first | exact q154 | exact of_decide_eq_true z2 | (have e_ := (Kd.S_reads' HO_5.out).1; omega))
                         obtain ⟨ve154_0, rfl, ge154_0⟩ := hMe154
                         have hv154_0 := hcc154 0 _ rfl
                         rw [Nat.add_zero, show ((Kd.slice 3 (Kd.int .i64))).sz = 1 from rfl, Nat.mul_one] at hv154_0
                         replace hv154_0 := Option.some.inj (hv154_0.symm.trans hx154_0)
                         rw [hv154_0] at ge154_0
                         have HL154_0 := Aside0.mk (show Kd.R (Kd.int .i64) 3 _ _ _ _ (rd_L3 x5_3 x7_2) from ge154_0)
                         clear hv154_0 ge154_0
                         have HX154_0 := Aside0.mk hx154_0
                         clear hcc154 hce154
                         have HR154_0 := Aside0.mk hi154_0
                         have HC154_0 := Aside0.mk hl154_0
                         clear hi154_0 hl154_0
                         replace p154 := eq_true p154
                         replace q154 := eq_true q154
                         have p155 : 0 ≤ ((ji47) : Int) := of_decide_eq_true z2
                         have q155 : (ji47) < ((rd_L3 x5_3 x7_2).length : Int) := of_decide_eq_true z2
                         obtain ⟨ad155, e155, hx155_0⟩ := Kd.at_int (by repeat (first | (with_reducible exact HR154_0.out) | (with_reducible refine Kd.C_alloc ?_ _) | (with_reducible refine Kd.C_drewN ?_ _) | (with_reducible refine Kd.C_drew ?_) | exact HR154_0.out)) (ji47) p155 q155
                         cases e155
                         replace p155 := eq_true p155
                         replace q155 := eq_true q155
                         refine start_ (n := 18) (S := fun w' => w'.cell? (ad152.add ((ji42)).toNat) = some (.slice (some ad153) (rd_L3 x5_3 (ji42)).length c152_0) ∧ w'.cell? (ad153.add (x8_3).toNat) = some (.int .i64 (rd (rd_L3 x5_3 (ji42)) x8_3)) ∧ w'.cell? (ad152.add (x7_2).toNat) = some (.slice (some ad155) (rd_L3 x5_3 x7_2).length c154_0) ∧ w'.cell? (ad155.add ((ji47)).toNat) = some (.int .i64 (rd (rd_L3 x5_3 x7_2) (ji47)))) (ds := []) #[false, false, false, false, false, false, false, false, false, false, false, false, false, false, false, false, false, false] z0 rfl rfl ⟨hx152_0, hx153_0, hx154_0, hx155_0⟩ (fun hHeld => ?_); refine with_tabW spec_l9Table.tab16 spec_l9Table.bits16 (fun HT_ HW_ => ?_)
                         generalize w60.drew = w61 at HO_5 HB HL152_0 HL154_0 HR152_0 HR154_0 HX152_0 HX154_0 hx152_0 hx153_0 hx154_0 hx155_0 hHeld ⊢
                         refine pA 0 79 ?_
                         refine pA 1 80 ?_
                         refine pA 2 81 ?_
                         refine pA 3 82 ?_
                         refine pA 5 84 ?_
                         refine pA 8 87 ?_
                         refine pA 9 88 ?_
                         refine pA 10 89 ?_
                         refine pA 12 91 ?_
                         refine pA 13 92 ?_
                         refine tA 4 83 ?_ (hy := by rintro w' ⟨s0, s1, s2, s3⟩; go_simp; with_reducible rfl)
                         refine pA 6 85 ?_
                         refine tA 7 86 ?_ (hy := by rintro w' ⟨s0, s1, s2, s3⟩; go_simp; with_reducible rfl)
                         refine tA 11 90 ?_ (hy := by rintro w' ⟨s0, s1, s2, s3⟩; go_simp; with_reducible rfl)
                         refine pA 14 93 ?_
                         refine tA 15 94 ?_ (hy := by rintro w' ⟨s0, s1, s2, s3⟩; go_simp; with_reducible rfl)
                         refine pA 16 95 ?_
                         refine pA 17 78 ?_
                         refine done_ (done_of HT_.out z0) ?_
                         try go_wp2
                         have n0_ := Aside0.mk (Kd.S_drew HO_5.out)
                         have n1_ := Aside0.mk (Kd.R_drew HL152_0.out)
                         have n2_ := Aside0.mk (Kd.R_drew HL154_0.out)
                         have n3_ := Aside0.mk (Kd.C_drew HR152_0.out)
                         have n4_ := Aside0.mk (Kd.C_drew HR154_0.out)
                         have n5_ := Aside0.mk (below_drew1 HB.out)
                         clear HO_5
                         clear HL152_0
                         clear HL154_0
                         clear HR152_0
                         clear HR154_0
                         clear HB
                         have HO_5 := n0_
                         have HL152_0 := n1_
                         have HL154_0 := n2_
                         have HR152_0 := n3_
                         have HR154_0 := n4_
                         have HB := n5_
                         clear n0_ n1_ n2_ n3_ n4_ n5_
                         have p162 : 0 ≤ (x7_2 : Int) := of_decide_eq_true z2
                         have q162 : x7_2 < (x5_3.length : Int) := of_decide_eq_true z2
                         obtain ⟨ad162, A162_0, c162_0, e162, hx162_0, hl162_0, hi162_0⟩ := at_L3 (Kd.S_reads' HO_5.out).2.2 x7_2 p162 q162
                         obtain rfl : ad152 = ad162 := (by injection e162)
                         obtain ⟨ce162, hce162, hMe162, hcc162⟩ := Kd.S_get HO_5.out [] x7_2 p162 (by first | exact q162 | exact of_decide_eq_true z2 | (have e_ := (Kd.S_reads' HO_5.out).1; omega))
                         obtain ⟨ve162_0, rfl, ge162_0⟩ := hMe162
                         have hv162_0 := hcc162 0 _ rfl
                         rw [Nat.add_zero, show ((Kd.slice 3 (Kd.int .i64))).sz = 1 from rfl, Nat.mul_one] at hv162_0
                         replace hv162_0 := Option.some.inj (hv162_0.symm.trans hx162_0)
                         rw [hv162_0] at ge162_0
                         have HL162_0 := Aside0.mk (show Kd.R (Kd.int .i64) 3 _ _ _ _ (rd_L3 x5_3 x7_2) from ge162_0)
                         clear hv162_0 ge162_0
                         have HX162_0 := Aside0.mk hx162_0
                         clear hcc162 hce162
                         have HR162_0 := Aside0.mk hi162_0
                         have HC162_0 := Aside0.mk hl162_0
                         clear hi162_0 hl162_0
                         replace p162 := eq_true p162
                         replace q162 := eq_true q162
                         have p163 : 0 ≤ (x7_2 : Int) := of_decide_eq_true z2
                         have q163 : x7_2 < (x5_3.length : Int) := of_decide_eq_true z2
                         obtain ⟨ad163, A163_0, c163_0, e163, hx163_0, hl163_0, hi163_0⟩ := at_L3 (Kd.S_reads' HO_5.out).2.2 x7_2 p163 q163
                         obtain rfl : ad152 = ad163 := (by injection e163)
                         obtain ⟨ce163, hce163, hMe163, hcc163⟩ := Kd.S_get HO_5.out [] x7_2 p163 (by first | exact q163 | exact of_decide_eq_true z2 | (have e_ := (Kd.S_reads' HO_5.out).1; omega))
                         obtain ⟨ve163_0, rfl, ge163_0⟩ := hMe163
                         have hv163_0 := hcc163 0 _ rfl
                         rw [Nat.add_zero, show ((Kd.slice 3 (Kd.int .i64))).sz = 1 from rfl, Nat.mul_one] at hv163_0
                         replace hv163_0 := Option.some.inj (hv163_0.symm.trans hx163_0)
                         rw [hv163_0] at ge163_0
                         have HL163_0 := Aside0.mk (show Kd.R (Kd.int .i64) 3 _ _ _ _ (rd_L3 x5_3 x7_2) from ge163_0)
                         clear hv163_0 ge163_0
                         have HX163_0 := Aside0.mk hx163_0
                         clear hcc163 hce163
                         have HR163_0 := Aside0.mk hi163_0
                         have HC163_0 := Aside0.mk hl163_0
                         clear hi163_0 hl163_0
                         replace p163 := eq_true p163
                         replace q163 := eq_true q163
                         have ea_ := Option.some.inj (hx162_0.symm.trans hx163_0)
                         injection ea_ with ea_ en_ ec_
                         subst ea_
                         subst ec_
                         clear en_
                         have p164 : 0 ≤ ((ji47) : Int) := of_decide_eq_true z2
                         have q164 : (ji47) < ((rd_L3 x5_3 x7_2).length : Int) := of_decide_eq_true z2
                         obtain ⟨ad164, e164, hx164_0⟩ := Kd.at_int (by repeat (first | (with_reducible exact HR163_0.out) | (with_reducible refine Kd.C_alloc ?_ _) | (with_reducible refine Kd.C_drewN ?_ _) | (with_reducible refine Kd.C_drew ?_) | exact HR163_0.out)) (ji47) p164 q164
                         cases e164
                         replace p164 := eq_true p164
                         replace q164 := eq_true q164
                         have p59 : 0 ≤ (x8_3 : Int) := of_decide_eq_true z2
                         have q59 : (x8_3 : Int) < (((rd_L3 x5_3 x7_2).length : Int) : Int) := of_decide_eq_true z2
                         obtain ⟨go59, co59, eo59, gb59, gl59, cl59, HG59⟩ := Kd.R_form HL162_0.out (by omega)
                         (first | cases eo59 | (injection eo59 with ea_ en_ ec_; (first | subst ea_ | (injection ea_ with ea_; subst ea_)); subst ec_; clear en_))
                         have GB59 := Aside0.mk gb59
                         have GG59 := Aside0.mk HG59
                         clear gb59 gl59 HG59
                         (first | simp only [add_plain] at hx164_0 | skip)
                         obtain ⟨hx59_0, hf59_0⟩ := Kd.R_celln 0 HL162_0.out (x8_3 : Int) p59 q59
                         replace p59 := eq_true p59
                         replace q59 := eq_true q59
                         have hq63 : (x7_2 : Int) < (x5_3.length : Int) := (by have h_ : (x7_2 : Int) < ((x5_3.length : Int) : Int) := of_decide_eq_true z2; first | exact h_ | (have e_ := (Kd.S_reads' HO_5.out).1; omega) | simpa only [List.length_set, List.length_set] using h_)
                         obtain ⟨oki63, ce63, hcl63, hM63, hcc63, hok63, hbk63⟩ := Kd.S_borrow HO_5.out [] (x7_2 : Int) (of_decide_eq_true z2) hq63
                         obtain ⟨ve63_0, rfl, ge63_0⟩ := hM63
                         have hv63 := hcc63 0 _ rfl
                         rw [Nat.add_zero, show ((Kd.slice 3 (Kd.int .i64))).sz = 1 from rfl, Nat.mul_one] at hv63
                         replace hv63 := Option.some.inj (hv63.symm.trans HX162_0.out)
                         subst hv63
                         clear hcc63 hcl63
                         replace ge63_0 := (show Kd.R (Kd.int .i64) 3 _ _ _ _ (rd_L3 x5_3 x7_2) from ge63_0)
                         have HP63 := Kd.R_putg ge63_0 (x8_3 : Int) (rd (rd_L3 x5_3 x7_2) (ji47))
                         rw [← Ny165.out] at HP63
                         have HS63 := hbk63 HP63.2 (fun k_ e_ => by injection e_ with e_; subst e_; exact ge63_0.1 _ rfl) (x' := y165) (Kd.M_row HP63.1)
                         rw [← Ny167.out] at HS63
                         have HQ63 := Aside0.mk HS63
                         clear HP63 HS63 hbk63 hok63
                         refine start_ (n := 15) (S := fun w' => w'.cell? (ad152.add (x7_2).toNat) = some (.slice (some ⟨go59, 0, none⟩) (rd_L3 x5_3 x7_2).length c162_0) ∧ w'.cell? (ad152.add (x7_2).toNat) = some (.slice (some ⟨go59, 0, none⟩) (rd_L3 x5_3 x7_2).length c162_0) ∧ w'.cell? ⟨go59, ((ji47)).toNat, none⟩ = some (.int .i64 (rd (rd_L3 x5_3 x7_2) (ji47)))) (ds := [14]) #[false, false, false, false, false, false, false, false, false, false, false, false, false, false, false] z0 rfl rfl ⟨hx162_0, hx163_0, hx164_0⟩ (fun hHeld => ?_); refine with_tabW spec_l9Table.tab13 spec_l9Table.bits13 (fun HT_ HW_ => ?_)
                         generalize w61.drew = w62 at HO_5 HL152_0 HL154_0 HR152_0 HR154_0 HB GG59 HL162_0 HL163_0 HQ63 HR162_0 HR163_0 HX162_0 HX163_0 hf59_0 hx162_0 hx163_0 hx164_0 hx59_0 hHeld ⊢
                         refine pA 0 40 ?_
                         refine pA 1 41 ?_
                         refine pA 2 42 ?_
                         refine pA 4 44 ?_
                         refine pA 5 45 ?_
                         refine pA 6 46 ?_
                         refine pA 7 47 ?_
                         refine pA 9 49 ?_
                         refine pA 10 50 ?_
                         refine tA 3 43 ?_ (hy := by rintro w' ⟨s0, s1, s2⟩; go_simp; with_reducible rfl)
                         refine tA 8 48 ?_ (hy := by rintro w' ⟨s0, s1, s2⟩; go_simp; with_reducible rfl)
                         refine pA 11 51 ?_
                         refine tA 12 52 ?_ (hy := by rintro w' ⟨s0, s1, s2⟩; go_simp; with_reducible rfl)
                         refine pA 13 53 ?_
                         refine last_ (i := 14) (N := none) #[true, true, true, true, true, true, true, true, true, true, true, true, true, true, true] rfl rfl (one_of HT_.out z0) (by decide) (fun K hK => ?_)
                         refine skip_ (w1 := ?_) (by rfl) rfl ?_ ?_
                         rotate_left
                         ·go_simp
                          rfl
                         refine hK.out _ _ ?_
                         clear hK K
                         refine done_ (done_of HT_.out z0) ?_
                         try go_wp2
                         (try simp only [← hl5_3])
                         go_roundg k3
                         case measure => have := HK1.out; have := HK2.out; have := HK3.out; omega
                         case rel => exact ⟨(y167), (wrap64 (x8_3 - 1)), z1, (by first | exact H' | (simp only [hji3, hji42, hji47]; exact H') | (simp only [← hji3, ← hji42, ← hji47]; exact H')), ⟨by have := HK1.out; have := HK2.out; have := HK3.out; omega⟩, ⟨by (try simp only [hl5_1]); (try simp only [hl5_2]); (try simp only [hl5_3]); (with_reducible repeat (first | apply Kd.S_alloc | apply Kd.S_drewN | apply Kd.S_drew)); exact HQ63.out⟩, ⟨by repeat (first | (with_reducible first | exact HB.out | apply below_alloc | apply pw_below_drewN | apply below_drew1 | refine below_set ?_ GB59.out) | exact HB.out)⟩⟩
                        ·rw [if_neg c58] at H
                         exact absurd H (by simp)
                      ·rw [if_neg c49] at H
                       exact absurd H (by simp)
                     ·rw [if_neg c48] at H
                      exact absurd H (by simp)
                    ·rw [if_neg c46] at H
                     exact absurd H (by simp)
                   ·rw [if_neg c45] at H
                    exact absurd H (by simp)
                  ·rw [if_neg c44] at H
                   exact absurd H (by simp)
                 ·rw [if_neg c43] at H
                  exact absurd H (by simp)
               ·rw [if_neg c26] at H
                exact absurd H (by simp)
              ·rw [if_neg c25] at H
               exact absurd H (by simp)
             ·rw [if_neg c23] at H
              exact absurd H (by simp)
            ·rw [if_neg c22] at H
             exact absurd H (by simp)
           ·rw [if_neg c21] at H
            have c21b0 : decide (0 ≤ x8_3) = false := decide_eq_false c21
            clear c21
            have H' := Aside0.mk H
            clear H
            go_wp2
            (try simp only [← hl5_2, ← hl5_3])
            go_roundg k3
            case measure => have := HK1.out; have := HK2.out; have := HK3.out; omega
            case rel => exact ⟨(x5_3), (wrap64 (x7_2 - 1)), z1, (by first | exact H' | (simp only [hji3]; exact H') | (simp only [← hji3]; exact H')), ⟨by have := HK1.out; have := HK2.out; have := HK3.out; omega⟩, ⟨by (try simp only [hl5_1]); (try simp only [hl5_2]); (try simp only [hl5_3]); (with_reducible repeat (first | apply Kd.S_alloc | apply Kd.S_drewN | apply Kd.S_drew)); exact HO_5.out⟩, ⟨by repeat (first | (with_reducible first | exact HB.out | apply below_alloc | apply pw_below_drewN | apply below_drew1) | exact HB.out)⟩⟩
        ·rw [if_neg c20] at H
         have c20b0 : decide (0 ≤ x7_2) = false := decide_eq_false c20
         clear c20
         obtain rfl := Option.some.inj H
         go_wp2
         go_ret
         exact ⟨_, by first | rfl | (simp [errW_none, errW_some] <;> rfl) | (simp only [← hji3]; first | rfl | (simp [errW_none, errW_some] <;> rfl)) | (simp [*, errW_none, errW_some] <;> rfl), by (with_reducible repeat (first | apply Kd.S_alloc | apply Kd.S_drewN | apply Kd.S_drew)); exact HO_5.out, by repeat (first | (with_reducible first | exact HB.out | apply below_alloc | apply pw_below_drewN | apply below_drew1) | exact HB.out)⟩
  ·rw [if_neg c5] at H
   exact absurd H (by simp)
 ·rw [if_neg c4] at H
  exact absurd H (by simp)

end Go.Proofs.Ytpbelbckinpinaa.AFnDiff
