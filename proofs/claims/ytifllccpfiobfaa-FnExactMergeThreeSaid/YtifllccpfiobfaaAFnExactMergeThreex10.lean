-- this session's own text: written by wip/tools/ownprint.py over the kit's print
import Derived.Test.YtifllccpfiobfaaAFnExactMergeThreex0
namespace Go.Proofs.Ytifllccpfiobfaa.AFnExactMergeThree
open Go.RowKit Go.Proofs.YtifllccpfiobfaaW.PrintWords Go.Proofs.YtifllccpfiobfaaW.PrintLast Go.Proofs.YtifllccpfiobfaaW.PrintMore
attribute [local go_sem] max2_int min2_int max_two min_two max_three min_three max_four min_four   -- for this text's walks alone
set_option linter.unusedVariables false
set_option linter.unusedSimpArgs false

/-! ### impl_common: function 20 -/
mutual
def impl_common.l0 : Nat → ByteArray → ByteArray → List (List Int) → Int → Option ((List (List Int)))
 | 0, _, _, _, _ => none
 | k + 1, x0, x1, x5, x6 => if x6 ≥ 0 then (if 0 ≤ (wrap64 ((x1.size : Int) + 1)) then (if (wrap64 ((x1.size : Int) + 1) : Int).toNat ≤ 35184372088832 then (if 0 ≤ x6 then (if x6 < (x5.length : Int) then (impl_common.l1 k x0 x1 (x5.set (x6 : Int).toNat (List.replicate (wrap64 ((x1.size : Int) + 1) : Int).toNat 0)) x6 (wrap64 ((x1.size : Int) - 1))) else (none)) else (none)) else (none)) else (none)) else (some x5)
def impl_common.l1 : Nat → ByteArray → ByteArray → List (List Int) → Int → Int → Option ((List (List Int)))
 | 0, _, _, _, _, _ => none
 | k + 1, x0, x1, x5, x6, x7 => if x7 ≥ 0 then (if 0 ≤ x6 then (if x6 < (x0.size : Int) then (if 0 ≤ x7 then (if x7 < (x1.size : Int) then (if (bt x0 x6) = (bt x1 x7) then (if x6 < (x5.length : Int) then (if 0 ≤ (wrap64 (x6 + 1)) then (if (wrap64 (x6 + 1)) < (x5.length : Int) then (if 0 ≤ (wrap64 (x7 + 1)) then (if (wrap64 (x7 + 1)) < ((rd_L1 x5 (wrap64 (x6 + 1))).length : Int) then (if x7 < ((rd_L1 x5 x6).length : Int) then (impl_common.l1 k x0 x1 (x5.set (x6 : Int).toNat ((rd_L1 x5 x6).set (x7 : Int).toNat (wrap64 ((rd (rd_L1 x5 (wrap64 (x6 + 1))) (wrap64 (x7 + 1))) + 1)))) x6 (wrap64 (x7 - 1))) else (none)) else (none)) else (none)) else (none)) else (none)) else (none)) else (if x6 < (x5.length : Int) then (if 0 ≤ (wrap64 (x6 + 1)) then (if (wrap64 (x6 + 1)) < (x5.length : Int) then (if x7 < ((rd_L1 x5 (wrap64 (x6 + 1))).length : Int) then (if 0 ≤ (wrap64 (x7 + 1)) then (if (wrap64 (x7 + 1)) < ((rd_L1 x5 x6).length : Int) then (if x7 < ((rd_L1 x5 x6).length : Int) then (impl_common.l1 k x0 x1 (x5.set (x6 : Int).toNat ((rd_L1 x5 x6).set (x7 : Int).toNat (mx (rd (rd_L1 x5 (wrap64 (x6 + 1))) x7) (rd (rd_L1 x5 x6) (wrap64 (x7 + 1)))))) x6 (wrap64 (x7 - 1))) else (none)) else (none)) else (none)) else (none)) else (none)) else (none)) else (none))) else (none)) else (none)) else (none)) else (none)) else (impl_common.l0 k x0 x1 x5 (wrap64 (x6 - 1)))
end
def impl_common.f (k : Nat) (a0 : ByteArray) (a1 : ByteArray) : Option ((List (List Int))) := if 0 ≤ (wrap64 ((a0.size : Int) + 1)) then (if (wrap64 ((a0.size : Int) + 1) : Int).toNat ≤ 11728124029610 then ((some (List.replicate (wrap64 ((a0.size : Int) + 1) : Int).toNat [] : List (List Int))).bind fun y297 => (if 0 ≤ (wrap64 ((a1.size : Int) + 1)) then (if (wrap64 ((a1.size : Int) + 1) : Int).toNat ≤ 35184372088832 then (if 0 ≤ (a0.size : Int) then (if (a0.size : Int) < (y297.length : Int) then (impl_common.l0 k a0 a1 (y297.set ((a0.size : Int) : Int).toNat (List.replicate (wrap64 ((a1.size : Int) + 1) : Int).toNat 0)) (wrap64 ((a0.size : Int) - 1))) else (none)) else (none)) else (none)) else (none))) else (none)) else (none)
theorem impl_common.mono_l : ∀ k, (∀ y0 y1 y2 y3, LeO (impl_common.l0 k y0 y1 y2 y3) (impl_common.l0 (k + 1) y0 y1 y2 y3)) ∧ (∀ y0 y1 y2 y3 y4, LeO (impl_common.l1 k y0 y1 y2 y3 y4) (impl_common.l1 (k + 1) y0 y1 y2 y3 y4))
 | 0 => ⟨fun _ _ _ _ r h => by simp [impl_common.l0] at h, fun _ _ _ _ _ r h => by simp [impl_common.l1] at h⟩
 | k + 1 => by
  obtain ⟨ih0, ih1⟩ := impl_common.mono_l k
  refine ⟨?_, ?_⟩
  ·intro y0 y1 y2 y3
   unfold impl_common.l0
   repeat' first
   | (with_reducible exact ih0 _ _ _ _)
   | (with_reducible exact ih1 _ _ _ _ _)
   | (with_reducible exact LeO.refl _)
   | (with_reducible exact LeO.none _)
   | (with_reducible refine LeO.ite ?_ ?_)
   | (with_reducible refine LeO.bind ?_ (fun _ => ?_))
   | exact ih0 _ _ _ _
   | exact ih1 _ _ _ _ _
   | exact LeO.none _
   | refine LeO.ite ?_ ?_
   | refine LeO.bind ?_ (fun _ => ?_)
  ·intro y0 y1 y2 y3 y4
   unfold impl_common.l1
   repeat' first
   | (with_reducible exact ih0 _ _ _ _)
   | (with_reducible exact ih1 _ _ _ _ _)
   | (with_reducible exact LeO.refl _)
   | (with_reducible exact LeO.none _)
   | (with_reducible refine LeO.ite ?_ ?_)
   | (with_reducible refine LeO.bind ?_ (fun _ => ?_))
   | exact ih0 _ _ _ _
   | exact ih1 _ _ _ _ _
   | exact LeO.none _
   | refine LeO.ite ?_ ?_
   | refine LeO.bind ?_ (fun _ => ?_)
theorem impl_common.mono : ∀ a0 a1 k, LeO (impl_common.f k a0 a1) (impl_common.f (k + 1) a0 a1) := by
 intro a0 a1 k
 obtain ⟨ih0, ih1⟩ := impl_common.mono_l k
 unfold impl_common.f
 repeat' first
   | (with_reducible exact ih0 _ _ _ _)
   | (with_reducible exact ih1 _ _ _ _ _)
   | (with_reducible exact LeO.refl _)
   | (with_reducible exact LeO.none _)
   | (with_reducible refine LeO.ite ?_ ?_)
   | (with_reducible refine LeO.bind ?_ (fun _ => ?_))
   | exact ih0 _ _ _ _
   | exact ih1 _ _ _ _ _
   | exact LeO.none _
   | refine LeO.ite ?_ ?_
   | refine LeO.bind ?_ (fun _ => ?_)
def impl_common.T11 : Bool × List (List Nat × List Nat) := (true, [([], []), ([], []), ([0, 1], [0, 1]), ([2], [2]), ([], []), ([], []), ([], []), ([6], [6]), ([5, 7], [5, 7]), ([8], [8]), ([], []), ([10], [10]), ([9, 11], [9, 11]), ([12], [12]), ([13], [13]), ([3, 4, 0, 1, 2, 3, 4, 5, 6, 7, 8, 9, 10, 11, 12, 13, 14], [3, 4]), ([15, 14, 0, 1, 2, 3, 4, 5, 6, 7, 8, 9, 10, 11, 12, 13, 14], [14, 15])])
def impl_common.B11 : List Nat := [0, 0, 3, 7, 0, 0, 0, 64, 224, 480, 0, 1024, 4064, 8160, 16352, 32767, 65535]
theorem impl_common.tab11 : rtab .any (opsOf Try.f20 11) = impl_common.T11 := by kernel_rfl
theorem impl_common.bits11 : waitsOk impl_common.T11.2 impl_common.B11 = true := by kernel_rfl
def impl_common.T12 : Bool × List (List Nat × List Nat) := (true, [([], []), ([], []), ([0, 1], [0, 1]), ([2], [2]), ([], []), ([], []), ([], []), ([6], [6]), ([5, 7], [5, 7]), ([8], [8]), ([], []), ([9, 10], [9, 10]), ([11], [11]), ([], []), ([], []), ([13, 14], [13, 14]), ([15], [15]), ([], []), ([17], [17]), ([16, 18], [16, 18]), ([19], [19]), ([12, 20], [12, 20]), ([3, 4, 0, 1, 2, 3, 4, 5, 6, 7, 8, 9, 10, 11, 12, 13, 14, 15, 16, 17, 18, 19, 20, 21], [3, 4]), ([22, 21, 0, 1, 2, 3, 4, 5, 6, 7, 8, 9, 10, 11, 12, 13, 14, 15, 16, 17, 18, 19, 20, 21], [21, 22])])
def impl_common.B12 : List Nat := [0, 0, 3, 7, 0, 0, 0, 64, 224, 480, 0, 2016, 4064, 0, 0, 24576, 57344, 0, 131072, 516096, 1040384, 2097120, 4194303, 8388607]
theorem impl_common.tab12 : rtab .any (opsOf Try.f20 12) = impl_common.T12 := by kernel_rfl
theorem impl_common.bits12 : waitsOk impl_common.T12.2 impl_common.B12 = true := by kernel_rfl
set_option maxHeartbeats 8000000 in
set_option maxRecDepth 100000 in
theorem impl_common.calls (k : Nat) (a0 : ByteArray) (a1 : ByteArray) (r : List (List Int)) (w : World) (h : impl_common.f k a0 a1 = some r) :
  Calls Try.prog 20 #[.string a0, .string a1] w fun e w' => ∃ v0_ : Value, e = .returned (v0_) ∧ Kd.S (Kd.slice 3 (Kd.int .i64)) 41 w' w.heap.size (fun _ => True) v0_ r ∧ Below w.heap.size w w' := by
 have HB := aM (Below.refl w.heap.size w)
 have H : (if 0 ≤ (wrap64 ((a0.size : Int) + 1)) then (if (wrap64 ((a0.size : Int) + 1) : Int).toNat ≤ 11728124029610 then ((some (List.replicate (wrap64 ((a0.size : Int) + 1) : Int).toNat [] : List (List Int))).bind fun y297 => (if 0 ≤ (wrap64 ((a1.size : Int) + 1)) then (if (wrap64 ((a1.size : Int) + 1) : Int).toNat ≤ 35184372088832 then (if 0 ≤ (a0.size : Int) then (if (a0.size : Int) < (y297.length : Int) then (impl_common.l0 k a0 a1 (y297.set ((a0.size : Int) : Int).toNat (List.replicate (wrap64 ((a1.size : Int) + 1) : Int).toNat 0)) (wrap64 ((a0.size : Int) - 1))) else (none)) else (none)) else (none)) else (none))) else (none)) else (none)) = some r := h
 clear h
 obtain ⟨eX, cI⟩ : ∃ j_ : Int, (wrap64 ((a0.size : Int) + 1)) = j_ := ⟨_, rfl⟩
 replace H : (if 0 ≤ (eX) then (if (eX : Int).toNat ≤ 11728124029610 then ((some (List.replicate (eX : Int).toNat [] : List (List Int))).bind fun y297 => (if 0 ≤ (wrap64 ((a1.size : Int) + 1)) then (if (wrap64 ((a1.size : Int) + 1) : Int).toNat ≤ 35184372088832 then (if 0 ≤ (a0.size : Int) then (if (a0.size : Int) < (y297.length : Int) then (impl_common.l0 k a0 a1 (y297.set ((a0.size : Int) : Int).toNat (List.replicate (wrap64 ((a1.size : Int) + 1) : Int).toNat 0)) (wrap64 ((a0.size : Int) - 1))) else (none)) else (none)) else (none)) else (none))) else (none)) else (none)) = some r := by first | (rw [cI] at H; exact H) | (simp only [cI] at H ⊢; exact H)
 have hji3w : (IntKind.i64.wrap ((a0.size : Int) + 1)) = eX := (i64_w _).trans cI
 by_cases c4 : 0 ≤ (eX)
 ·rw [if_pos c4] at H
  have c4b0 := eq_true c4
  have c4b1 : decide (0 ≤ (eX)) = true := dT c4
  clear c4
  by_cases c5 : (eX : Int).toNat ≤ 11728124029610
  ·rw [if_pos c5] at H
   have c5b0 := eq_true c5
   have c5b1 : decide ((eX : Int).toNat ≤ 11728124029610) = true := dT c5
   clear c5
   obtain ⟨y297, hy297⟩ : ∃ y_ : List (List Int), y_ = (List.replicate (eX : Int).toNat []) := ⟨_, rfl⟩
   replace H : (if 0 ≤ (wrap64 ((a1.size : Int) + 1)) then (if (wrap64 ((a1.size : Int) + 1) : Int).toNat ≤ 35184372088832 then (if 0 ≤ (a0.size : Int) then (if (a0.size : Int) < (y297.length : Int) then (impl_common.l0 k a0 a1 (y297.set ((a0.size : Int) : Int).toNat (List.replicate (wrap64 ((a1.size : Int) + 1) : Int).toNat 0)) (wrap64 ((a0.size : Int) - 1))) else (none)) else (none)) else (none)) else (none)) = some r := by first | (rw [hy297]; with_reducible exact H) | (have H2_ := (Option.bind_some _ _).symm.trans H; rw [hy297]; with_reducible exact H2_) | (have H2_ := (Option.bind_some _ _).symm.trans H; with_reducible exact H2_) | with_reducible exact H | (rw [hy297]; exact H) | exact H
   have Ny297 := aM hy297
   clear hy297
   obtain ⟨kE, e4⟩ : ∃ j_ : Int, (wrap64 ((a1.size : Int) + 1)) = j_ := ⟨_, rfl⟩
   replace H : (if 0 ≤ (kE) then (if (kE : Int).toNat ≤ 35184372088832 then (if 0 ≤ (a0.size : Int) then (if (a0.size : Int) < (y297.length : Int) then (impl_common.l0 k a0 a1 (y297.set ((a0.size : Int) : Int).toNat (List.replicate (kE : Int).toNat 0)) (wrap64 ((a0.size : Int) - 1))) else (none)) else (none)) else (none)) else (none)) = some r := by first | (rw [e4] at H; exact H) | (simp only [e4] at H ⊢; exact H)
   have hji6w : (IntKind.i64.wrap ((a1.size : Int) + 1)) = kE := (i64_w _).trans e4
   by_cases c7 : 0 ≤ (kE)
   ·rw [if_pos c7] at H
    have c7b0 := eq_true c7
    have c7b1 : decide (0 ≤ (kE)) = true := dT c7
    clear c7
    by_cases c8 : (kE : Int).toNat ≤ 35184372088832
    ·rw [if_pos c8] at H
     have c8b0 := eq_true c8
     have c8b1 : decide ((kE : Int).toNat ≤ 35184372088832) = true := dT c8
     clear c8
     obtain ⟨y300, hy300⟩ : ∃ y_ : List Int, y_ = (List.replicate (kE : Int).toNat 0) := ⟨_, rfl⟩
     replace H : (if 0 ≤ (a0.size : Int) then (if (a0.size : Int) < (y297.length : Int) then (impl_common.l0 k a0 a1 (y297.set ((a0.size : Int) : Int).toNat y300) (wrap64 ((a0.size : Int) - 1))) else (none)) else (none)) = some r := by first | (rw [hy300]; with_reducible exact H) | (have H2_ := (Option.bind_some _ _).symm.trans H; rw [hy300]; with_reducible exact H2_) | (have H2_ := (Option.bind_some _ _).symm.trans H; with_reducible exact H2_) | with_reducible exact H | (rw [hy300]; exact H) | exact H
     have Ny300 := aM hy300
     clear hy300
     by_cases c9 : 0 ≤ (a0.size : Int)
     ·rw [if_pos c9] at H
      have c9b0 : decide (0 ≤ (a0.size : Int)) = true := dT c9
      have c9b1 : decide (0 ≤ a0.size) = true := dT (by omega)
      clear c9
      by_cases bz : (a0.size : Int) < (y297.length : Int)
      ·rw [if_pos bz] at H
       have c10b0 : decide ((a0.size : Int) < (y297.length : Int)) = true := dT bz
       have c10b1 : decide (a0.size < y297.length) = true := dT (Int.ofNat_lt.mp bz)
       clear bz
       obtain ⟨y303, hy303⟩ : ∃ y_ : List (List Int), y_ = (y297.set ((a0.size : Int) : Int).toNat y300) := ⟨_, rfl⟩
       replace H : (impl_common.l0 k a0 a1 y303 (wrap64 ((a0.size : Int) - 1))) = some r := by first | (rw [hy303]; with_reducible exact H) | (have H2_ := (Option.bind_some _ _).symm.trans H; rw [hy303]; with_reducible exact H2_) | (have H2_ := (Option.bind_some _ _).symm.trans H; with_reducible exact H2_) | with_reducible exact H | (rw [hy303]; exact H) | exact H
       have Ny303 := aM hy303
       clear hy303
       have H' := aM H
       clear H
       go_enter Try.func20, Try.ntmps20
       go_wp2_with (first | ((with_reducible refine aD (N := 11) rfl ?_); refine Kd.S_make (Kd.slice 3 (Kd.int .i64)) _ 41 rfl (N := 11) rfl 36 _ _ rfl eX rfl rfl Try.underlying36 (.slice none 0 0) 24 info41 rfl (by decide) (by omega) [] (ok := fun _ => True) (okp := fun _ => True) ⟨_, rfl, Kd.R_nil _ _ _ _ _⟩ (fun _ hk => hk) trivial (oD z2) (Nat.le_trans (Nat.mul_le_mul_right _ (oD z2 : eX.toNat ≤ 11728124029610)) (by omega)) (Below.refl _ _) (Nat.le_refl _) ?_; intro v298 w12 ho13 hb hg_ hnew_; clear hg_ hnew_; (first | rw [← Ny297.out] at ho13 | (simp only [Int.reduceToNat] at ho13; rw [← Ny297.out] at ho13)); have aT := aM (Kd.S_lower ho13 (aq z9)); have aU := aM (ap z9 hb); clear HB; have cK := aT; have HB := aU; clear aT aU; clear hb ho13) | ((with_reducible refine aD (N := 18) rfl ?_); refine Kd.R_make (Kd.int .i64) _ 3 rfl (N := 18) rfl 41 _ _ rfl kE rfl rfl Try.underlying41 (.int .i64 0) 8 info3 rfl (by decide) (by omega) 0 (ok := fun _ => True) (okp := fun _ => True) rfl (fun _ hk => hk) trivial (oD z2) (Nat.le_trans (Nat.mul_le_mul_right _ (oD z2 : kE.toNat ≤ 35184372088832)) (by omega)) (Below.refl _ _) (Nat.le_refl _) ?_; intro v301 w14 ho15 hb hg_ hnew_; clear hg_ hnew_; (first | rw [← Ny300.out] at ho15 | (simp only [Int.reduceToNat] at ho15; rw [← Ny300.out] at ho15)); have aT := aM (Kd.S_elder' (by (with_reducible repeat (first | apply Kd.S_alloc | apply Kd.S_drewN | apply Kd.S_drew)); exact cK.out) (ai ho15) hb); have aU := aM (aH ho15 (aq z9)); have aX := aM (ap z9 hb); clear cK; clear HB; have cK := aT; have kQ := aU; have HB := aX; clear aT aU aX; clear hb ho15; have p11 : 0 ≤ ((a0.size : Int) : Int) := oD z2; have q11 : ((a0.size : Int) : Int) < ((y297.length : Int) : Int) := oD z2; obtain ⟨go11, jS, eo11, mY, gl11, cl11, HG11⟩ := Kd.S_form cK.out (by omega); (first | cases eo11 | (injection eo11 with ea_ en_ ec_; (first | subst ea_ | (injection ea_ with ea_; subst ea_)); subst ec_; clear en_)); have GB11 := aM mY; have GG11 := aM HG11; clear mY gl11 HG11; obtain ⟨_, ce11, hcl11, hM11, hcc11, hfr11, _, _⟩ := Kd.S_elem cK.out [] ((a0.size : Int) : Int) p11 q11; obtain ⟨ve11_0, rfl, ge11_0⟩ := hM11; have hx11_0 := hcc11 0 _ rfl; have hf11_0 := hfr11 0; (try simp only [show ((Kd.slice 3 (Kd.int .i64))).sz = 1 from rfl, Nat.mul_one, Nat.add_zero] at hx11_0); (try simp only [show ((Kd.slice 3 (Kd.int .i64))).sz = 1 from rfl, Nat.mul_one, Nat.add_zero] at hf11_0); clear hcl11 hcc11 hfr11; (try clear hM11); replace p11 := eq_true p11; replace q11 := eq_true q11; have n_ := aM (Kd.S_mono (ok' := (fun k_ => some k_ ≠ (v301 : Value).ownBlock)) cK.out (fun k_ hk => hk.2)); clear cK; have cK := n_; clear n_; have HX16 := aM (show Kd.S (Kd.slice 3 (Kd.int .i64)) 41 w14 w.heap.size (fun k_ => ((fun _ => True)) k_ ∧ ¬ ((fun k_ => some k_ = (v301 : Value).ownBlock)) k_) (.slice (some ⟨go11, 0, none⟩) y297.length jS) y297 from (by (with_reducible repeat (first | apply Kd.S_alloc | apply Kd.S_drewN | apply Kd.S_drew)); exact Kd.S_mono cK.out (fun k_ hk => ⟨trivial, fun e_ => hk e_⟩))); obtain ⟨oki16, ce16, hcl16, hM16, hcc16, hfr16, hoki16, hH16⟩ := Kd.S_elem HX16.out [] ((a0.size : Int) : Int) (oD z2) (by have h_ : ((a0.size : Int) : Int) < ((y297.length : Int) : Int) := oD z2; first | exact h_ | (have e_ := (Kd.S_reads' cK.out).1; omega) | simpa using h_); obtain ⟨ve16_0, rfl, ge16_0⟩ := hM16; have HP16 := Kd.S_seg hH16 (oD z2) (by have h_ : ((a0.size : Int) : Int) < ((y297.length : Int) : Int) := oD z2; first | exact h_ | (have e_ := (Kd.S_reads' cK.out).1; omega) | simpa using h_) (seg := [v301]) (j := 0) (show 1 ≤ 1 from by decide) (x' := y300) (Kd.M_row (af (Kd.R_tight rfl (af (ok' := fun k_ => ((fun _ => True)) k_ ∧ k_ ≠ go11) (Kd.R_apart' (kQ.out) (Kd.S_typed cK.out) (by decide)) (fun k_ hk => ⟨trivial, fun e_ => (hk.2) (by rw [e_]; rfl)⟩))) (fun _ h_ => Or.inr (h_)))) (fun _ hk => hk) (fun k_ hk_ => ((af (ok' := fun k_ => ((fun _ => True)) k_ ∧ k_ ≠ go11) (Kd.R_apart' (kQ.out) (Kd.S_typed cK.out) (by decide)) (fun k_ hk => ⟨trivial, fun e_ => (hk.2) (by rw [e_]; rfl)⟩))).1 k_ hk_.symm); have hx16_0 := hcc16 0 _ rfl; (try simp only [show ((Kd.slice 3 (Kd.int .i64))).sz = 1 from rfl, Nat.mul_one, Nat.add_zero] at hx16_0); have hf16_0 := hfr16 0; (try simp only [show ((Kd.slice 3 (Kd.int .i64))).sz = 1 from rfl, Nat.mul_one, Nat.add_zero] at hf16_0); clear hcl16 hcc16 hfr16 hoki16 hH16; (try clear hM16); (try simp only [show ((Kd.slice 3 (Kd.int .i64))).sz = 1 from rfl, Nat.mul_one, Nat.add_zero] at HP16)) | ((with_reducible refine gate_store (t := 41) (p := 19) rfl ?_); refine store_event (t := 41) (p := 19) (v := ?vo_w17) (w1 := (w14.setCell ⟨go11, ((a0.size : Int) : Int).toNat, none⟩ (v301))) ?hg ?ho ?hn ?hr ?_; (case ho => rfl); (case hg => rfl); (case hn => rfl); (case hr => first | (go_simp; done) | (go_simp; rfl) | ((try simp only [aI] at *); go_simp; first | done | rfl) | ((try simp only [aI] at *); obtain ⟨A_, c_, e_⟩ := Kd.R_slice (Aside0.out ‹Aside0 (Kd.R _ _ _ _ _ v301 _)›); subst e_; go_simp; first | done | rfl) | ((try simp only [aI] at *); obtain ⟨A_, c_, e_⟩ := Kd.S_slice (Aside0.out ‹Aside0 (Kd.S _ _ _ _ _ v301 _)›); subst e_; go_simp; first | done | rfl) | ((try simp only [aI] at *); obtain ⟨A_, c_, e_⟩ := Kd.N_slice (Aside0.out ‹Aside0 (Kd.N _ _ _ _ _ v301 _)›); subst e_; go_simp; first | done | rfl) | ((try simp only [aI] at *); obtain ⟨A_, c_, e_⟩ := Kd.V_slice (Aside0.out ‹Aside0 (Kd.V _ _ _ _ _ v301 _)›); subst e_; go_simp; first | done | rfl)); intro w17 hw; have hg : w14.grownBy w17 (some go11) := (by rw [hw]; exact HP16.2); have hp_ : Kd.S (Kd.slice 3 (Kd.int .i64)) 41 w17 w.heap.size (fun _ => True) (.slice (some ⟨go11, 0, none⟩) y297.length jS) y303 := (by rw [hw, Ny303.out]; exact HP16.1); clear HP16; have aT := aM (hp_); have aU := aM ((by rw [hw]; exact ao (HB.out) GB11.out : Below w.heap.size w w17)); clear cK; clear HB; clear kQ; have cK := aT; have HB := aU; clear aT aU; clear hg hw hp_))
       go_loopg [6] k (fun kq v6 w' => ∃ (x5_1 : List (List Int)) (x6_1 : Int), v6 = .int .i64 x6_1 ∧ Aside0 (impl_common.l0 kq a0 a1 x5_1 x6_1 = some r) ∧ Aside0 (kq ≤ k) ∧ Aside0 (Kd.S (Kd.slice 3 (Kd.int .i64)) 41 w' w.heap.size (fun _ => True) (.slice (some ⟨go11, 0, none⟩) y297.length jS) x5_1) ∧ Aside0 (Below w.heap.size w w'))
       case atStart => exact ⟨(y303), (wrap64 ((a0.size : Int) - 1)), z1, H', ⟨Nat.le_refl _⟩, ⟨by (with_reducible repeat (first | apply Kd.S_alloc | apply Kd.S_drewN | apply Kd.S_drew)); exact cK.out⟩, ⟨y5⟩⟩
       case round =>
        clear H'
        try clear c1
        try clear p1
        try clear q1
        try clear hx1
        try clear c2
        try clear p2
        try clear c4
        try clear c4b0
        try clear c4b1
        try clear c5
        try clear c5b0
        try clear c5b1
        try clear p6
        try clear c7
        try clear c7b0
        try clear c7b1
        try clear c8
        try clear c8b0
        try clear c8b1
        try clear c9
        try clear c9b0
        try clear c9b1
        try clear bz
        try clear c10b0
        try clear c10b1
        try clear bV
        try clear p11
        try clear q11
        try clear hx11
        try clear hf11
        try clear cG
        try clear hx16
        try clear hf16
        try clear hx11_0
        try clear hx16_0
        try clear p11
        try clear q11
        obtain ⟨x5_1, x6_1, rfl, HA, HK1, aW, HB⟩ := hrel
        have hl5_1 := (Kd.S_reads' aW.out).1
        rw [hl5_1] at aW
        (try simp only [hl5_1])
        cases gk with
        | zero => exact absurd HA.out (by simp [impl_common.l0])
        | succ k1 =>
         have H := HA.out
         clear HA
         simp only [impl_common.l0] at H
         by_cases cn : x6_1 ≥ 0
         ·rw [if_pos cn] at H
          have c18b0 : decide (0 ≤ x6_1) = true := dT cn
          clear cn
          obtain ⟨eY, ei⟩ : ∃ j_ : Int, (wrap64 ((a1.size : Int) + 1)) = j_ := ⟨_, rfl⟩
          (try clear hji6w); (try clear e4)
          replace H : (if 0 ≤ (eY) then (if (eY : Int).toNat ≤ 35184372088832 then (if 0 ≤ x6_1 then (if x6_1 < (x5_1.length : Int) then (impl_common.l1 k1 a0 a1 (x5_1.set (x6_1 : Int).toNat (List.replicate (eY : Int).toNat 0)) x6_1 (wrap64 ((a1.size : Int) - 1))) else (none)) else (none)) else (none)) else (none)) = some r := by first | (rw [ei] at H; exact H) | (simp only [ei] at H ⊢; exact H)
          have hji19w : (IntKind.i64.wrap ((a1.size : Int) + 1)) = eY := (i64_w _).trans ei
          by_cases dd : 0 ≤ (eY)
          ·rw [if_pos dd] at H
           have c20b0 := eq_true dd
           have c20b1 : decide (0 ≤ (eY)) = true := dT dd
           clear dd
           by_cases cF : (eY : Int).toNat ≤ 35184372088832
           ·rw [if_pos cF] at H
            have c21b0 := eq_true cF
            have c21b1 : decide ((eY : Int).toNat ≤ 35184372088832) = true := dT cF
            clear cF
            obtain ⟨y304, hy304⟩ : ∃ y_ : List Int, y_ = (List.replicate (eY : Int).toNat 0) := ⟨_, rfl⟩
            replace H : (if 0 ≤ x6_1 then (if x6_1 < (x5_1.length : Int) then (impl_common.l1 k1 a0 a1 (x5_1.set (x6_1 : Int).toNat y304) x6_1 (wrap64 ((a1.size : Int) - 1))) else (none)) else (none)) = some r := by first | (rw [hy304]; with_reducible exact H) | (have H2_ := (Option.bind_some _ _).symm.trans H; rw [hy304]; with_reducible exact H2_) | (have H2_ := (Option.bind_some _ _).symm.trans H; with_reducible exact H2_) | with_reducible exact H | (rw [hy304]; exact H) | exact H
            have Ny304 := aM hy304
            clear hy304
            by_cases ec : 0 ≤ x6_1
            ·rw [if_pos ec] at H
             have c22b0 : decide (0 ≤ x6_1) = true := dT ec
             clear ec
             by_cases dw : x6_1 < (x5_1.length : Int)
             ·rw [if_pos dw] at H
              have c23b0 : decide (x6_1 < (x5_1.length : Int)) = true := dT dw
              have c23b0hl5_1 := c23b0
              (try simp only [hl5_1] at c23b0hl5_1)
              clear dw
              obtain ⟨y307, hy307⟩ : ∃ y_ : List (List Int), y_ = (x5_1.set (x6_1 : Int).toNat y304) := ⟨_, rfl⟩
              replace H : (impl_common.l1 k1 a0 a1 y307 x6_1 (wrap64 ((a1.size : Int) - 1))) = some r := by first | (rw [hy307]; with_reducible exact H) | (have H2_ := (Option.bind_some _ _).symm.trans H; rw [hy307]; with_reducible exact H2_) | (have H2_ := (Option.bind_some _ _).symm.trans H; with_reducible exact H2_) | with_reducible exact H | (rw [hy307]; exact H) | exact H
              have Ny307 := aM hy307
              clear hy307
              have H' := aM H
              clear H
              go_wp2_with (first | ((with_reducible refine aD (N := 32) rfl ?_); refine Kd.R_make (Kd.int .i64) _ 3 rfl (N := 32) rfl 41 _ _ rfl eY rfl rfl Try.underlying41 (.int .i64 0) 8 info3 rfl (by decide) (by omega) 0 (ok := fun _ => True) (okp := fun _ => True) rfl (fun _ hk => hk) trivial (oD z2) (Nat.le_trans (Nat.mul_le_mul_right _ (oD z2 : eY.toNat ≤ 35184372088832)) (by omega)) (Below.refl _ _) (Nat.le_refl _) ?_; intro v305 w25 ho26 hb hg_ hnew_; clear hg_ hnew_; (first | rw [← Ny304.out] at ho26 | (simp only [Int.reduceToNat] at ho26; rw [← Ny304.out] at ho26)); have aT := aM (Kd.S_elder' (by (with_reducible repeat (first | apply Kd.S_alloc | apply Kd.S_drewN | apply Kd.S_drew)); exact aW.out) (ai ho26) hb); have aU := aM (aH ho26 (aq z9)); have aX := aM (ap z9 hb); clear aW; clear HB; have aW := aT; have kP := aU; have HB := aX; clear aT aU aX; clear hb ho26; have p24 : 0 ≤ (x6_1 : Int) := oD z2; have q24 : (x6_1 : Int) < ((x5_1.length : Int) : Int) := oD z2; obtain ⟨_, ce24, hcl24, hM24, hcc24, hfr24, _, _⟩ := Kd.S_elem aW.out [] (x6_1 : Int) p24 q24; obtain ⟨ve24_0, rfl, ge24_0⟩ := hM24; have hx24_0 := hcc24 0 _ rfl; have hf24_0 := hfr24 0; (try simp only [show ((Kd.slice 3 (Kd.int .i64))).sz = 1 from rfl, Nat.mul_one, Nat.add_zero] at hx24_0); (try simp only [show ((Kd.slice 3 (Kd.int .i64))).sz = 1 from rfl, Nat.mul_one, Nat.add_zero] at hf24_0); clear hcl24 hcc24 hfr24; (try clear hM24); replace p24 := eq_true p24; replace q24 := eq_true q24; have n_ := aM (Kd.S_mono (ok' := (fun k_ => some k_ ≠ (v305 : Value).ownBlock)) aW.out (fun k_ hk => hk.2)); clear aW; have aW := n_; clear n_; have HX27 := aM (show Kd.S (Kd.slice 3 (Kd.int .i64)) 41 w25 w.heap.size (fun k_ => ((fun _ => True)) k_ ∧ ¬ ((fun k_ => some k_ = (v305 : Value).ownBlock)) k_) (.slice (some ⟨go11, 0, none⟩) x5_1.length jS) x5_1 from (by (with_reducible repeat (first | apply Kd.S_alloc | apply Kd.S_drewN | apply Kd.S_drew)); exact Kd.S_mono aW.out (fun k_ hk => ⟨trivial, fun e_ => hk e_⟩))); obtain ⟨oki27, ce27, hcl27, hM27, hcc27, hfr27, hoki27, hH27⟩ := Kd.S_elem HX27.out [] (x6_1 : Int) (oD z2) (by have h_ : (x6_1 : Int) < ((x5_1.length : Int) : Int) := oD z2; first | exact h_ | (have e_ := (Kd.S_reads' aW.out).1; omega) | simpa using h_); obtain ⟨ve27_0, rfl, ge27_0⟩ := hM27; have HP27 := Kd.S_seg hH27 (oD z2) (by have h_ : (x6_1 : Int) < ((x5_1.length : Int) : Int) := oD z2; first | exact h_ | (have e_ := (Kd.S_reads' aW.out).1; omega) | simpa using h_) (seg := [v305]) (j := 0) (show 1 ≤ 1 from by decide) (x' := y304) (Kd.M_row (af (Kd.R_tight rfl (af (ok' := fun k_ => ((fun _ => True)) k_ ∧ k_ ≠ go11) (Kd.R_apart' (kP.out) (Kd.S_typed aW.out) (by decide)) (fun k_ hk => ⟨trivial, fun e_ => (hk.2) (by rw [e_]; rfl)⟩))) (fun _ h_ => Or.inr (h_)))) (fun _ hk => hk) (fun k_ hk_ => ((af (ok' := fun k_ => ((fun _ => True)) k_ ∧ k_ ≠ go11) (Kd.R_apart' (kP.out) (Kd.S_typed aW.out) (by decide)) (fun k_ hk => ⟨trivial, fun e_ => (hk.2) (by rw [e_]; rfl)⟩))).1 k_ hk_.symm); have hx27_0 := hcc27 0 _ rfl; (try simp only [show ((Kd.slice 3 (Kd.int .i64))).sz = 1 from rfl, Nat.mul_one, Nat.add_zero] at hx27_0); have hf27_0 := hfr27 0; (try simp only [show ((Kd.slice 3 (Kd.int .i64))).sz = 1 from rfl, Nat.mul_one, Nat.add_zero] at hf27_0); clear hcl27 hcc27 hfr27 hoki27 hH27; (try clear hM27); (try simp only [show ((Kd.slice 3 (Kd.int .i64))).sz = 1 from rfl, Nat.mul_one, Nat.add_zero] at HP27)) | ((with_reducible refine gate_store (t := 41) (p := 33) rfl ?_); refine store_event (t := 41) (p := 33) (v := ?vo_w28) (w1 := (w25.setCell ⟨go11, (x6_1 : Int).toNat, none⟩ (v305))) ?hg ?ho ?hn ?hr ?_; (case ho => rfl); (case hg => rfl); (case hn => rfl); (case hr => first | (go_simp; done) | (go_simp; rfl) | ((try simp only [aI] at *); go_simp; first | done | rfl) | ((try simp only [aI] at *); obtain ⟨A_, c_, e_⟩ := Kd.R_slice (Aside0.out ‹Aside0 (Kd.R _ _ _ _ _ v305 _)›); subst e_; go_simp; first | done | rfl) | ((try simp only [aI] at *); obtain ⟨A_, c_, e_⟩ := Kd.S_slice (Aside0.out ‹Aside0 (Kd.S _ _ _ _ _ v305 _)›); subst e_; go_simp; first | done | rfl) | ((try simp only [aI] at *); obtain ⟨A_, c_, e_⟩ := Kd.N_slice (Aside0.out ‹Aside0 (Kd.N _ _ _ _ _ v305 _)›); subst e_; go_simp; first | done | rfl) | ((try simp only [aI] at *); obtain ⟨A_, c_, e_⟩ := Kd.V_slice (Aside0.out ‹Aside0 (Kd.V _ _ _ _ _ v305 _)›); subst e_; go_simp; first | done | rfl)); intro w28 hw; have hg : w25.grownBy w28 (some go11) := (by rw [hw]; exact HP27.2); have hp_ : Kd.S (Kd.slice 3 (Kd.int .i64)) 41 w28 w.heap.size (fun _ => True) (.slice (some ⟨go11, 0, none⟩) x5_1.length jS) y307 := (by rw [hw, Ny307.out]; exact HP27.1); clear HP27; have aT := aM (hp_); have aU := aM ((by rw [hw]; exact ao (HB.out) GB11.out : Below w.heap.size w w28)); clear aW; clear HB; clear kP; have aW := aT; have HB := aU; clear aT aU; clear hg hw hp_))
              go_loopg [7] k1 (fun kq v7 w' => ∃ (x5_2 : List (List Int)) (x7_2 : Int), v7 = .int .i64 x7_2 ∧ Aside0 (impl_common.l1 kq a0 a1 x5_2 x6_1 x7_2 = some r) ∧ Aside0 (kq ≤ k1) ∧ Aside0 (Kd.S (Kd.slice 3 (Kd.int .i64)) 41 w' w.heap.size (fun _ => True) (.slice (some ⟨go11, 0, none⟩) x5_1.length jS) x5_2) ∧ Aside0 (Below w.heap.size w w'))
              case atStart => exact ⟨(y307), (wrap64 ((a1.size : Int) - 1)), z1, H', ⟨Nat.le_refl _⟩, ⟨by (try simp only [hl5_1]); (with_reducible repeat (first | apply Kd.S_alloc | apply Kd.S_drewN | apply Kd.S_drew)); exact aW.out⟩, ⟨y5⟩⟩
              case round =>
               clear H'
               try clear c1
               try clear p1
               try clear q1
               try clear hx1
               try clear c2
               try clear p2
               try clear q2
               try clear hx2
               try clear hf2
               try clear c4
               try clear c4b0
               try clear c4b1
               try clear c5
               try clear c5b0
               try clear c5b1
               try clear p6
               try clear c7
               try clear c7b0
               try clear c7b1
               try clear c8
               try clear c8b0
               try clear c8b1
               try clear c9
               try clear c9b0
               try clear c9b1
               try clear bz
               try clear c10b0
               try clear c10b1
               try clear bV
               try clear p11
               try clear q11
               try clear hx11
               try clear hf11
               try clear cG
               try clear hx16
               try clear hf16
               try clear cn
               try clear c18b0
               try clear dd
               try clear c20b0
               try clear c20b1
               try clear cF
               try clear c21b0
               try clear c21b1
               try clear ec
               try clear c22b0
               try clear dw
               try clear c23b0
               try clear dN
               try clear p24
               try clear q24
               try clear hx24
               try clear hf24
               try clear fa
               try clear hx27
               try clear hf27
               try clear hx11_0
               try clear hx16_0
               try clear hx24_0
               try clear hx27_0
               try clear p1
               try clear p11
               try clear p2
               try clear p24
               try clear p6
               try clear q1
               try clear q11
               try clear q24
               obtain ⟨x5_2, x7_2, rfl, HA, HK2, aW, HB⟩ := hrel
               have hl5_2 := (Kd.S_reads' aW.out).1
               rw [hl5_2] at aW
               (try simp only [hl5_2])
               cases gk with
               | zero => exact absurd HA.out (by simp [impl_common.l1])
               | succ k2 =>
                have H := HA.out
                clear HA
                simp only [impl_common.l1] at H
                by_cases de : x7_2 ≥ 0
                ·rw [if_pos de] at H
                 have c29b0 : decide (0 ≤ x7_2) = true := dT de
                 clear de
                 by_cases j7 : 0 ≤ x6_1
                 ·rw [if_pos j7] at H
                  have c30b0 : decide (0 ≤ x6_1) = true := dT j7
                  clear j7
                  by_cases fw : x6_1 < (a0.size : Int)
                  ·rw [if_pos fw] at H
                   have c31b0 : decide (x6_1 < (a0.size : Int)) = true := dT fw
                   clear fw
                   by_cases j6 : 0 ≤ x7_2
                   ·rw [if_pos j6] at H
                    have c33b0 : decide (0 ≤ x7_2) = true := dT j6
                    clear j6
                    by_cases jy : x7_2 < (a1.size : Int)
                    ·rw [if_pos jy] at H
                     have c34b0 : decide (x7_2 < (a1.size : Int)) = true := dT jy
                     clear jy
                     by_cases j5 : (bt a0 x6_1) = (bt a1 x7_2)
                     ·rw [if_pos j5] at H
                      have c36b0 : ((bt a0 x6_1) == (bt a1 x7_2)) = true := qT j5
                      have c36b1 : ((bt a0 x6_1) != (bt a1 x7_2)) = false := nF j5
                      clear j5
                      by_cases iz : x6_1 < (x5_2.length : Int)
                      ·rw [if_pos iz] at H
                       have c37b0 : decide (x6_1 < (x5_2.length : Int)) = true := dT iz
                       have c37b0hl5_1 := c37b0
                       (try simp only [hl5_1] at c37b0hl5_1)
                       have c37b0hl5_2 := c37b0
                       (try simp only [hl5_2] at c37b0hl5_2)
                       clear iz
                       obtain ⟨cN, g5⟩ : ∃ j_ : Int, (wrap64 (x6_1 + 1)) = j_ := ⟨_, rfl⟩
                       replace H : (if 0 ≤ (cN) then (if (cN) < (x5_2.length : Int) then (if 0 ≤ (wrap64 (x7_2 + 1)) then (if (wrap64 (x7_2 + 1)) < ((rd_L1 x5_2 (cN)).length : Int) then (if x7_2 < ((rd_L1 x5_2 x6_1).length : Int) then (impl_common.l1 k2 a0 a1 (x5_2.set (x6_1 : Int).toNat ((rd_L1 x5_2 x6_1).set (x7_2 : Int).toNat (wrap64 ((rd (rd_L1 x5_2 (cN)) (wrap64 (x7_2 + 1))) + 1)))) x6_1 (wrap64 (x7_2 - 1))) else (none)) else (none)) else (none)) else (none)) else (none)) = some r := by first | (rw [g5] at H; exact H) | (simp only [g5] at H ⊢; exact H)
                       have hji38w : (IntKind.i64.wrap (x6_1 + 1)) = cN := (i64_w _).trans g5
                       by_cases lx : 0 ≤ (cN)
                       ·rw [if_pos lx] at H
                        have c39b0 : decide (0 ≤ (cN)) = true := dT lx
                        clear lx
                        by_cases jZ : (cN) < (x5_2.length : Int)
                        ·rw [if_pos jZ] at H
                         have c40b0 : decide ((cN) < (x5_2.length : Int)) = true := dT jZ
                         have c40b0hl5_1 := c40b0
                         (try simp only [hl5_1] at c40b0hl5_1)
                         have c40b0hl5_2 := c40b0
                         (try simp only [hl5_2] at c40b0hl5_2)
                         clear jZ
                         obtain ⟨ef, g4⟩ : ∃ j_ : Int, (wrap64 (x7_2 + 1)) = j_ := ⟨_, rfl⟩
                         replace H : (if 0 ≤ (ef) then (if (ef) < ((rd_L1 x5_2 (cN)).length : Int) then (if x7_2 < ((rd_L1 x5_2 x6_1).length : Int) then (impl_common.l1 k2 a0 a1 (x5_2.set (x6_1 : Int).toNat ((rd_L1 x5_2 x6_1).set (x7_2 : Int).toNat (wrap64 ((rd (rd_L1 x5_2 (cN)) (ef)) + 1)))) x6_1 (wrap64 (x7_2 - 1))) else (none)) else (none)) else (none)) = some r := by first | (rw [g4] at H; exact H) | (simp only [g4] at H ⊢; exact H)
                         have hji41w : (IntKind.i64.wrap (x7_2 + 1)) = ef := (i64_w _).trans g4
                         by_cases nD : 0 ≤ (ef)
                         ·rw [if_pos nD] at H
                          have c42b0 : decide (0 ≤ (ef)) = true := dT nD
                          clear nD
                          by_cases ik : (ef) < ((rd_L1 x5_2 (cN)).length : Int)
                          ·rw [if_pos ik] at H
                           have c43b0 : decide ((ef) < ((rd_L1 x5_2 (cN)).length : Int)) = true := dT ik
                           have c43b0hl5_1 := c43b0
                           (try simp only [hl5_1] at c43b0hl5_1)
                           have c43b0hl5_2 := c43b0
                           (try simp only [hl5_2] at c43b0hl5_2)
                           clear ik
                           by_cases lw : x7_2 < ((rd_L1 x5_2 x6_1).length : Int)
                           ·rw [if_pos lw] at H
                            have c44b0 : decide (x7_2 < ((rd_L1 x5_2 x6_1).length : Int)) = true := dT lw
                            have c44b0hl5_1 := c44b0
                            (try simp only [hl5_1] at c44b0hl5_1)
                            have c44b0hl5_2 := c44b0
                            (try simp only [hl5_2] at c44b0hl5_2)
                            clear lw
                            obtain ⟨y311, hy311⟩ : ∃ y_ : List Int, y_ = ((rd_L1 x5_2 x6_1).set (x7_2 : Int).toNat (wrap64 ((rd (rd_L1 x5_2 (cN)) (ef)) + 1))) := ⟨_, rfl⟩
                            replace H : (impl_common.l1 k2 a0 a1 (x5_2.set (x6_1 : Int).toNat y311) x6_1 (wrap64 (x7_2 - 1))) = some r := by first | (rw [hy311]; with_reducible exact H) | (have H2_ := (Option.bind_some _ _).symm.trans H; rw [hy311]; with_reducible exact H2_) | (have H2_ := (Option.bind_some _ _).symm.trans H; with_reducible exact H2_) | with_reducible exact H | (rw [hy311]; exact H) | exact H
                            have Ny311 := aM hy311
                            clear hy311
                            obtain ⟨y313, hy313⟩ : ∃ y_ : List (List Int), y_ = (x5_2.set (x6_1 : Int).toNat y311) := ⟨_, rfl⟩
                            replace H : (impl_common.l1 k2 a0 a1 y313 x6_1 (wrap64 (x7_2 - 1))) = some r := by first | (rw [hy313]; with_reducible exact H) | (have H2_ := (Option.bind_some _ _).symm.trans H; rw [hy313]; with_reducible exact H2_) | (have H2_ := (Option.bind_some _ _).symm.trans H; with_reducible exact H2_) | with_reducible exact H | (rw [hy313]; exact H) | exact H
                            have Ny313 := aM hy313
                            clear hy313
                            have H' := aM H
                            clear H
                            try go_wp2
                            have aT := aM (Kd.S_drew aW.out)
                            have aU := aM (bD HB.out)
                            clear aW
                            clear HB
                            have aW := aT
                            have HB := aU
                            clear aT aU
                            have p32 : 0 ≤ (x6_1 : Int) := oD z2
                            have q32 : x6_1 < (a0.size : Int) := oD z2
                            have hx32 := bt_at a0 x6_1
                            replace p32 := eq_true p32
                            replace q32 := eq_true q32
                            have p35 : 0 ≤ (x7_2 : Int) := oD z2
                            have q35 : x7_2 < (a1.size : Int) := oD z2
                            have hx35 := bt_at a1 x7_2
                            replace p35 := eq_true p35
                            replace q35 := eq_true q35
                            refine start_ (n := 7) (S := fun w' => True) (ds := []) #[false, false, false, false, false, false, false] z0 rfl rfl trivial (fun hHeld => ?_)
                            generalize wr.drew = w46 at aW HB hHeld ⊢
                            refine pA 0 41 ?_
                            refine pA 1 42 ?_
                            refine pA 3 44 ?_
                            refine pA 4 45 ?_
                            refine tA 2 43 ?_ (hy := by intro w' _; go_simp; with_reducible rfl)
                            refine tA 5 46 ?_ (hy := by intro w' _; go_simp; with_reducible rfl)
                            refine pA 6 47 ?_
                            refine done_ z0 ?_
                            try go_wp2
                            have aT := aM (Kd.S_drew aW.out)
                            have aU := aM (bD HB.out)
                            clear aW
                            clear HB
                            have aW := aT
                            have HB := aU
                            clear aT aU
                            have p308 : 0 ≤ (x6_1 : Int) := oD z2
                            have q308 : x6_1 < (x5_2.length : Int) := oD z2
                            obtain ⟨ad308, A308_0, c308_0, e308, hx308_0, hl308_0, hi308_0⟩ := at_L1 (Kd.S_reads' aW.out).2.2 x6_1 p308 q308
                            obtain rfl : (⟨go11, 0, none⟩ : Addr) = ad308 := (by injection e308)
                            obtain ⟨ce308, hce308, hMe308, hcc308⟩ := Kd.S_get aW.out [] x6_1 p308 (by first | exact q308 | exact oD z2 | (have e_ := (Kd.S_reads' aW.out).1; omega))
                            obtain ⟨ve308_0, rfl, ge308_0⟩ := hMe308
                            have hv308_0 := hcc308 0 _ rfl
                            rw [Nat.add_zero, show ((Kd.slice 3 (Kd.int .i64))).sz = 1 from rfl, Nat.mul_one] at hv308_0
                            replace hv308_0 := sI (hv308_0.symm.trans hx308_0)
                            rw [hv308_0] at ge308_0
                            have HL308_0 := aM (show Kd.R (Kd.int .i64) 3 _ _ _ _ (rd_L1 x5_2 x6_1) from ge308_0)
                            clear hv308_0 ge308_0
                            have HX308_0 := aM hx308_0
                            clear hcc308 hce308
                            (first | simp only [add_plain] at hx308_0 | simp only [add_at] at hx308_0 | simp only [Addr.add, Nat.zero_add] at hx308_0 | skip)
                            have HR308_0 := aM hi308_0
                            have HC308_0 := aM hl308_0
                            clear hi308_0 hl308_0
                            replace p308 := eq_true p308
                            replace q308 := eq_true q308
                            have p309 : 0 ≤ ((cN) : Int) := oD z2
                            have q309 : (cN) < (x5_2.length : Int) := oD z2
                            obtain ⟨ad309, A309_0, c309_0, e309, hx309_0, hl309_0, hi309_0⟩ := at_L1 (Kd.S_reads' aW.out).2.2 (cN) p309 q309
                            obtain rfl : (⟨go11, 0, none⟩ : Addr) = ad309 := (by injection e309)
                            obtain ⟨ce309, hce309, hMe309, hcc309⟩ := Kd.S_get aW.out [] (cN) p309 (by first | exact q309 | exact oD z2 | (have e_ := (Kd.S_reads' aW.out).1; omega))
                            obtain ⟨ve309_0, rfl, ge309_0⟩ := hMe309
                            have hv309_0 := hcc309 0 _ rfl
                            rw [Nat.add_zero, show ((Kd.slice 3 (Kd.int .i64))).sz = 1 from rfl, Nat.mul_one] at hv309_0
                            replace hv309_0 := sI (hv309_0.symm.trans hx309_0)
                            rw [hv309_0] at ge309_0
                            have HL309_0 := aM (show Kd.R (Kd.int .i64) 3 _ _ _ _ (rd_L1 x5_2 (cN)) from ge309_0)
                            clear hv309_0 ge309_0
                            have HX309_0 := aM hx309_0
                            clear hcc309 hce309
                            (first | simp only [add_plain] at hx309_0 | simp only [add_at] at hx309_0 | simp only [Addr.add, Nat.zero_add] at hx309_0 | skip)
                            have gP := aM hi309_0
                            have HC309_0 := aM hl309_0
                            clear hi309_0 hl309_0
                            replace p309 := eq_true p309
                            replace q309 := eq_true q309
                            have p310 : 0 ≤ ((ef) : Int) := oD z2
                            have q310 : (ef) < ((rd_L1 x5_2 (cN)).length : Int) := oD z2
                            obtain ⟨ad310, e310, hx310_0⟩ := Kd.at_int (by repeat (first | (with_reducible exact gP.out) | (with_reducible refine av ?_ _) | (with_reducible refine aw ?_ _) | (with_reducible refine ay ?_) | exact gP.out)) (ef) p310 q310
                            cases e310
                            replace p310 := eq_true p310
                            replace q310 := eq_true q310
                            have p45 : 0 ≤ (x7_2 : Int) := oD z2
                            have q45 : (x7_2 : Int) < (((rd_L1 x5_2 x6_1).length : Int) : Int) := oD z2
                            obtain ⟨go45, co45, eo45, mU, gl45, cl45, HG45⟩ := Kd.R_form HL308_0.out (by omega)
                            (first | cases eo45 | (injection eo45 with ea_ en_ ec_; (first | subst ea_ | (injection ea_ with ea_; subst ea_)); subst ec_; clear en_))
                            have GB45 := aM mU
                            have GG45 := aM HG45
                            clear mU gl45 HG45
                            obtain ⟨hx45_0, hf45_0⟩ := Kd.R_celln 0 HL308_0.out (x7_2 : Int) p45 q45
                            replace p45 := eq_true p45
                            replace q45 := eq_true q45
                            have hq48 : (x6_1 : Int) < (x5_2.length : Int) := (by have h_ : (x6_1 : Int) < ((x5_2.length : Int) : Int) := oD z2; first | exact h_ | (have e_ := (Kd.S_reads' aW.out).1; omega) | simpa only [List.length_set, List.length_set] using h_)
                            obtain ⟨oki48, ce48, hcl48, hM48, hcc48, hok48, hbk48⟩ := Kd.S_borrow aW.out [] (x6_1 : Int) (oD z2) hq48
                            obtain ⟨ve48_0, rfl, ge48_0⟩ := hM48
                            have hv48 := hcc48 0 _ rfl
                            rw [Nat.add_zero, show ((Kd.slice 3 (Kd.int .i64))).sz = 1 from rfl, Nat.mul_one] at hv48
                            replace hv48 := sI (hv48.symm.trans HX308_0.out)
                            subst hv48
                            clear hcc48 hcl48
                            replace ge48_0 := (show Kd.R (Kd.int .i64) 3 _ _ _ _ (rd_L1 x5_2 x6_1) from ge48_0)
                            have HP48 := Kd.R_putg ge48_0 (x7_2 : Int) (wrap64 ((rd (rd_L1 x5_2 (cN)) (ef)) + 1))
                            rw [← Ny311.out] at HP48
                            have HS48 := hbk48 HP48.2 (fun k_ e_ => by injection e_ with e_; subst e_; exact ge48_0.1 _ rfl) (x' := y311) (Kd.M_row HP48.1)
                            rw [← Ny313.out] at HS48
                            have HQ48 := aM HS48
                            clear HP48 HS48 hbk48 hok48
                            refine start_ (n := 17) (S := fun w' => w'.cell? ⟨go11, (x6_1).toNat, none⟩ = some (.slice (some ⟨go45, 0, none⟩) (rd_L1 x5_2 x6_1).length c308_0) ∧ w'.cell? ⟨go11, ((cN)).toNat, none⟩ = some (.slice (some ad310) (rd_L1 x5_2 (cN)).length c309_0) ∧ w'.cell? (ad310.add ((ef)).toNat) = some (.int .i64 (rd (rd_L1 x5_2 (cN)) (ef)))) (ds := [16]) #[false, false, false, false, false, false, false, false, false, false, false, false, false, false, false, false, false] z0 rfl rfl ⟨hx308_0, hx309_0, hx310_0⟩ (fun hHeld => ?_); refine with_tabW impl_common.tab11 impl_common.bits11 (fun HT_ HW_ => ?_)
                            generalize w46.drew = w47 at aW HB GG45 HL308_0 HL309_0 HQ48 HR308_0 gP HX308_0 HX309_0 hf45_0 hx308_0 hx309_0 hx310_0 hx45_0 hHeld ⊢
                            refine pA 0 48 ?_
                            refine pA 1 49 ?_
                            refine pA 2 50 ?_
                            refine pA 4 52 ?_
                            refine pA 5 53 ?_
                            refine pA 6 54 ?_
                            refine pA 7 55 ?_
                            refine pA 8 56 ?_
                            refine pA 10 58 ?_
                            refine pA 11 59 ?_
                            refine tA 3 51 ?_ (hy := by rintro w' ⟨s0, s1, s2⟩; go_simp; with_reducible rfl)
                            refine tA 9 57 ?_ (hy := by rintro w' ⟨s0, s1, s2⟩; go_simp; with_reducible rfl)
                            refine pA 12 60 ?_
                            refine tA 13 61 ?_ (hy := by rintro w' ⟨s0, s1, s2⟩; go_simp; with_reducible rfl)
                            refine pA 14 62 ?_
                            refine pA 15 63 ?_
                            refine last_ (i := 16) (N := none) #[true, true, true, true, true, true, true, true, true, true, true, true, true, true, true, true, true] rfl rfl (one_of HT_.out z0) (by decide) (fun K hK => ?_)
                            refine skip_ (w1 := ?_) (by rfl) rfl ?_ ?_
                            rotate_left
                            ·go_simp
                             rfl
                            refine hK.out _ _ ?_
                            clear hK K
                            refine done_ (done_of HT_.out z0) ?_
                            try go_wp2
                            (try simp only [← hl5_2])
                            go_roundg k2
                            case measure => have := HK1.out; have := HK2.out; omega
                            case rel => exact ⟨(y313), (wrap64 (x7_2 - 1)), z1, (by first | exact H' | (simp only [cI, e4, ei, g5, g4]; exact H') | (simp only [← cI, ← e4, ← ei, ← g5, ← g4]; exact H')), ⟨by have := HK1.out; have := HK2.out; omega⟩, ⟨by (try simp only [hl5_1]); (try simp only [hl5_2]); (with_reducible repeat (first | apply Kd.S_alloc | apply Kd.S_drewN | apply Kd.S_drew)); exact HQ48.out⟩, ⟨by repeat (first | (with_reducible first | exact HB.out | apply bA | apply pD | apply bD | refine ao ?_ GB45.out) | exact HB.out)⟩⟩
                           ·rw [if_neg lw] at H
                            exact absurd H (by simp)
                          ·rw [if_neg ik] at H
                           exact absurd H (by simp)
                         ·rw [if_neg nD] at H
                          exact absurd H (by simp)
                        ·rw [if_neg jZ] at H
                         exact absurd H (by simp)
                       ·rw [if_neg lx] at H
                        exact absurd H (by simp)
                      ·rw [if_neg iz] at H
                       exact absurd H (by simp)
                     ·rw [if_neg j5] at H
                      have c36b0 : ((bt a0 x6_1) == (bt a1 x7_2)) = false := qF j5
                      have c36b1 : ((bt a0 x6_1) != (bt a1 x7_2)) = true := nT j5
                      by_cases jT : x6_1 < (x5_2.length : Int)
                      ·rw [if_pos jT] at H
                       have c50b0 : decide (x6_1 < (x5_2.length : Int)) = true := dT jT
                       have c50b0hl5_1 := c50b0
                       (try simp only [hl5_1] at c50b0hl5_1)
                       have c50b0hl5_2 := c50b0
                       (try simp only [hl5_2] at c50b0hl5_2)
                       clear jT
                       obtain ⟨cM, g3⟩ : ∃ j_ : Int, (wrap64 (x6_1 + 1)) = j_ := ⟨_, rfl⟩
                       replace H : (if 0 ≤ (cM) then (if (cM) < (x5_2.length : Int) then (if x7_2 < ((rd_L1 x5_2 (cM)).length : Int) then (if 0 ≤ (wrap64 (x7_2 + 1)) then (if (wrap64 (x7_2 + 1)) < ((rd_L1 x5_2 x6_1).length : Int) then (if x7_2 < ((rd_L1 x5_2 x6_1).length : Int) then (impl_common.l1 k2 a0 a1 (x5_2.set (x6_1 : Int).toNat ((rd_L1 x5_2 x6_1).set (x7_2 : Int).toNat (mx (rd (rd_L1 x5_2 (cM)) x7_2) (rd (rd_L1 x5_2 x6_1) (wrap64 (x7_2 + 1)))))) x6_1 (wrap64 (x7_2 - 1))) else (none)) else (none)) else (none)) else (none)) else (none)) else (none)) = some r := by first | (rw [g3] at H; exact H) | (simp only [g3] at H ⊢; exact H)
                       have hji51w : (IntKind.i64.wrap (x6_1 + 1)) = cM := (i64_w _).trans g3
                       by_cases jx : 0 ≤ (cM)
                       ·rw [if_pos jx] at H
                        have c52b0 : decide (0 ≤ (cM)) = true := dT jx
                        clear jx
                        by_cases ms : (cM) < (x5_2.length : Int)
                        ·rw [if_pos ms] at H
                         have c53b0 : decide ((cM) < (x5_2.length : Int)) = true := dT ms
                         have c53b0hl5_1 := c53b0
                         (try simp only [hl5_1] at c53b0hl5_1)
                         have c53b0hl5_2 := c53b0
                         (try simp only [hl5_2] at c53b0hl5_2)
                         clear ms
                         by_cases nA : x7_2 < ((rd_L1 x5_2 (cM)).length : Int)
                         ·rw [if_pos nA] at H
                          have c54b0 : decide (x7_2 < ((rd_L1 x5_2 (cM)).length : Int)) = true := dT nA
                          have c54b0hl5_1 := c54b0
                          (try simp only [hl5_1] at c54b0hl5_1)
                          have c54b0hl5_2 := c54b0
                          (try simp only [hl5_2] at c54b0hl5_2)
                          clear nA
                          obtain ⟨d7, gZ⟩ : ∃ j_ : Int, (wrap64 (x7_2 + 1)) = j_ := ⟨_, rfl⟩
                          replace H : (if 0 ≤ (d7) then (if (d7) < ((rd_L1 x5_2 x6_1).length : Int) then (if x7_2 < ((rd_L1 x5_2 x6_1).length : Int) then (impl_common.l1 k2 a0 a1 (x5_2.set (x6_1 : Int).toNat ((rd_L1 x5_2 x6_1).set (x7_2 : Int).toNat (mx (rd (rd_L1 x5_2 (cM)) x7_2) (rd (rd_L1 x5_2 x6_1) (d7))))) x6_1 (wrap64 (x7_2 - 1))) else (none)) else (none)) else (none)) = some r := by first | (rw [gZ] at H; exact H) | (simp only [gZ] at H ⊢; exact H)
                          have hji55w : (IntKind.i64.wrap (x7_2 + 1)) = d7 := (i64_w _).trans gZ
                          by_cases nz : 0 ≤ (d7)
                          ·rw [if_pos nz] at H
                           have c56b0 : decide (0 ≤ (d7)) = true := dT nz
                           clear nz
                           by_cases ny : (d7) < ((rd_L1 x5_2 x6_1).length : Int)
                           ·rw [if_pos ny] at H
                            have c57b0 : decide ((d7) < ((rd_L1 x5_2 x6_1).length : Int)) = true := dT ny
                            have c57b0hl5_1 := c57b0
                            (try simp only [hl5_1] at c57b0hl5_1)
                            have c57b0hl5_2 := c57b0
                            (try simp only [hl5_2] at c57b0hl5_2)
                            clear ny
                            obtain ⟨lu, gY⟩ : ∃ j_ : Int, (mx (rd (rd_L1 x5_2 (cM)) x7_2) (rd (rd_L1 x5_2 x6_1) (d7))) = j_ := ⟨_, rfl⟩
                            replace H : (if x7_2 < ((rd_L1 x5_2 x6_1).length : Int) then (impl_common.l1 k2 a0 a1 (x5_2.set (x6_1 : Int).toNat ((rd_L1 x5_2 x6_1).set (x7_2 : Int).toNat (lu))) x6_1 (wrap64 (x7_2 - 1))) else (none)) = some r := by first | (rw [gY] at H; exact H) | (simp only [gY] at H ⊢; exact H)
                            have hji58_ : (if (rd (rd_L1 x5_2 (cM)) x7_2) < (rd (rd_L1 x5_2 x6_1) (d7)) then (rd (rd_L1 x5_2 x6_1) (d7)) else (rd (rd_L1 x5_2 (cM)) x7_2)) = lu := gY
                            by_cases nx : x7_2 < ((rd_L1 x5_2 x6_1).length : Int)
                            ·rw [if_pos nx] at H
                             have c59b0 : decide (x7_2 < ((rd_L1 x5_2 x6_1).length : Int)) = true := dT nx
                             have c59b0hl5_1 := c59b0
                             (try simp only [hl5_1] at c59b0hl5_1)
                             have c59b0hl5_2 := c59b0
                             (try simp only [hl5_2] at c59b0hl5_2)
                             clear nx
                             obtain ⟨y319, hy319⟩ : ∃ y_ : List Int, y_ = ((rd_L1 x5_2 x6_1).set (x7_2 : Int).toNat (lu)) := ⟨_, rfl⟩
                             replace H : (impl_common.l1 k2 a0 a1 (x5_2.set (x6_1 : Int).toNat y319) x6_1 (wrap64 (x7_2 - 1))) = some r := by first | (rw [hy319]; with_reducible exact H) | (have H2_ := (Option.bind_some _ _).symm.trans H; rw [hy319]; with_reducible exact H2_) | (have H2_ := (Option.bind_some _ _).symm.trans H; with_reducible exact H2_) | with_reducible exact H | (rw [hy319]; exact H) | exact H
                             have Ny319 := aM hy319
                             clear hy319
                             obtain ⟨y321, hy321⟩ : ∃ y_ : List (List Int), y_ = (x5_2.set (x6_1 : Int).toNat y319) := ⟨_, rfl⟩
                             replace H : (impl_common.l1 k2 a0 a1 y321 x6_1 (wrap64 (x7_2 - 1))) = some r := by first | (rw [hy321]; with_reducible exact H) | (have H2_ := (Option.bind_some _ _).symm.trans H; rw [hy321]; with_reducible exact H2_) | (have H2_ := (Option.bind_some _ _).symm.trans H; with_reducible exact H2_) | with_reducible exact H | (rw [hy321]; exact H) | exact H
                             have Ny321 := aM hy321
                             clear hy321
                             have H' := aM H
                             clear H
                             try go_wp2
                             have aT := aM (Kd.S_drew aW.out)
                             have aU := aM (bD HB.out)
                             clear aW
                             clear HB
                             have aW := aT
                             have HB := aU
                             clear aT aU
                             have p32 : 0 ≤ (x6_1 : Int) := oD z2
                             have q32 : x6_1 < (a0.size : Int) := oD z2
                             have hx32 := bt_at a0 x6_1
                             replace p32 := eq_true p32
                             replace q32 := eq_true q32
                             have p35 : 0 ≤ (x7_2 : Int) := oD z2
                             have q35 : x7_2 < (a1.size : Int) := oD z2
                             have hx35 := bt_at a1 x7_2
                             replace p35 := eq_true p35
                             replace q35 := eq_true q35
                             refine start_ (n := 7) (S := fun w' => True) (ds := []) #[false, false, false, false, false, false, false] z0 rfl rfl trivial (fun hHeld => ?_)
                             generalize wr.drew = w61 at aW HB hHeld ⊢
                             refine pA 0 41 ?_
                             refine pA 1 42 ?_
                             refine pA 3 44 ?_
                             refine pA 4 45 ?_
                             refine tA 2 43 ?_ (hy := by intro w' _; go_simp; with_reducible rfl)
                             refine tA 5 46 ?_ (hy := by intro w' _; go_simp; with_reducible rfl)
                             refine pA 6 47 ?_
                             refine done_ z0 ?_
                             try go_wp2
                             have aT := aM (Kd.S_drew aW.out)
                             have aU := aM (bD HB.out)
                             clear aW
                             clear HB
                             have aW := aT
                             have HB := aU
                             clear aT aU
                             have p314 : 0 ≤ (x6_1 : Int) := oD z2
                             have q314 : x6_1 < (x5_2.length : Int) := oD z2
                             obtain ⟨ad314, A314_0, kJ, e314, hx314_0, hl314_0, hi314_0⟩ := at_L1 (Kd.S_reads' aW.out).2.2 x6_1 p314 q314
                             obtain rfl : (⟨go11, 0, none⟩ : Addr) = ad314 := (by injection e314)
                             obtain ⟨ce314, hce314, hMe314, hcc314⟩ := Kd.S_get aW.out [] x6_1 p314 (by first | exact q314 | exact oD z2 | (have e_ := (Kd.S_reads' aW.out).1; omega))
                             obtain ⟨ve314_0, rfl, ge314_0⟩ := hMe314
                             have hv314_0 := hcc314 0 _ rfl
                             rw [Nat.add_zero, show ((Kd.slice 3 (Kd.int .i64))).sz = 1 from rfl, Nat.mul_one] at hv314_0
                             replace hv314_0 := sI (hv314_0.symm.trans hx314_0)
                             rw [hv314_0] at ge314_0
                             have HL314_0 := aM (show Kd.R (Kd.int .i64) 3 _ _ _ _ (rd_L1 x5_2 x6_1) from ge314_0)
                             clear hv314_0 ge314_0
                             have HX314_0 := aM hx314_0
                             clear hcc314 hce314
                             (first | simp only [add_plain] at hx314_0 | simp only [add_at] at hx314_0 | simp only [Addr.add, Nat.zero_add] at hx314_0 | skip)
                             have HR314_0 := aM hi314_0
                             have HC314_0 := aM hl314_0
                             clear hi314_0 hl314_0
                             replace p314 := eq_true p314
                             replace q314 := eq_true q314
                             have p315 : 0 ≤ ((cM) : Int) := oD z2
                             have q315 : (cM) < (x5_2.length : Int) := oD z2
                             obtain ⟨ad315, A315_0, c315_0, e315, hx315_0, hl315_0, hi315_0⟩ := at_L1 (Kd.S_reads' aW.out).2.2 (cM) p315 q315
                             obtain rfl : (⟨go11, 0, none⟩ : Addr) = ad315 := (by injection e315)
                             obtain ⟨ce315, hce315, hMe315, hcc315⟩ := Kd.S_get aW.out [] (cM) p315 (by first | exact q315 | exact oD z2 | (have e_ := (Kd.S_reads' aW.out).1; omega))
                             obtain ⟨ve315_0, rfl, ge315_0⟩ := hMe315
                             have hv315_0 := hcc315 0 _ rfl
                             rw [Nat.add_zero, show ((Kd.slice 3 (Kd.int .i64))).sz = 1 from rfl, Nat.mul_one] at hv315_0
                             replace hv315_0 := sI (hv315_0.symm.trans hx315_0)
                             rw [hv315_0] at ge315_0
                             have HL315_0 := aM (show Kd.R (Kd.int .i64) 3 _ _ _ _ (rd_L1 x5_2 (cM)) from ge315_0)
                             clear hv315_0 ge315_0
                             have HX315_0 := aM hx315_0
                             clear hcc315 hce315
                             (first | simp only [add_plain] at hx315_0 | simp only [add_at] at hx315_0 | simp only [Addr.add, Nat.zero_add] at hx315_0 | skip)
                             have gO := aM hi315_0
                             have HC315_0 := aM hl315_0
                             clear hi315_0 hl315_0
                             replace p315 := eq_true p315
                             replace q315 := eq_true q315
                             have p316 : 0 ≤ (x7_2 : Int) := oD z2
                             have q316 : x7_2 < ((rd_L1 x5_2 (cM)).length : Int) := oD z2
                             obtain ⟨ad316, e316, hx316_0⟩ := Kd.at_int (by repeat (first | (with_reducible exact gO.out) | (with_reducible refine av ?_ _) | (with_reducible refine aw ?_ _) | (with_reducible refine ay ?_) | exact gO.out)) x7_2 p316 q316
                             cases e316
                             replace p316 := eq_true p316
                             replace q316 := eq_true q316
                             have p317 : 0 ≤ (x6_1 : Int) := oD z2
                             have q317 : x6_1 < (x5_2.length : Int) := oD z2
                             obtain ⟨ad317, A317_0, c317_0, e317, hx317_0, hl317_0, hi317_0⟩ := at_L1 (Kd.S_reads' aW.out).2.2 x6_1 p317 q317
                             obtain rfl : (⟨go11, 0, none⟩ : Addr) = ad317 := (by injection e317)
                             obtain ⟨ce317, hce317, hMe317, hcc317⟩ := Kd.S_get aW.out [] x6_1 p317 (by first | exact q317 | exact oD z2 | (have e_ := (Kd.S_reads' aW.out).1; omega))
                             obtain ⟨ve317_0, rfl, ge317_0⟩ := hMe317
                             have hv317_0 := hcc317 0 _ rfl
                             rw [Nat.add_zero, show ((Kd.slice 3 (Kd.int .i64))).sz = 1 from rfl, Nat.mul_one] at hv317_0
                             replace hv317_0 := sI (hv317_0.symm.trans hx317_0)
                             rw [hv317_0] at ge317_0
                             have HL317_0 := aM (show Kd.R (Kd.int .i64) 3 _ _ _ _ (rd_L1 x5_2 x6_1) from ge317_0)
                             clear hv317_0 ge317_0
                             have HX317_0 := aM hx317_0
                             clear hcc317 hce317
                             (first | simp only [add_plain] at hx317_0 | simp only [add_at] at hx317_0 | simp only [Addr.add, Nat.zero_add] at hx317_0 | skip)
                             have gN := aM hi317_0
                             have HC317_0 := aM hl317_0
                             clear hi317_0 hl317_0
                             replace p317 := eq_true p317
                             replace q317 := eq_true q317
                             have ea_ := sI (hx314_0.symm.trans hx317_0)
                             injection ea_ with ea_ en_ ec_
                             subst ea_
                             subst ec_
                             clear en_
                             have p318 : 0 ≤ ((d7) : Int) := oD z2
                             have q318 : (d7) < ((rd_L1 x5_2 x6_1).length : Int) := oD z2
                             obtain ⟨ad318, e318, hx318_0⟩ := Kd.at_int (by repeat (first | (with_reducible exact gN.out) | (with_reducible refine av ?_ _) | (with_reducible refine aw ?_ _) | (with_reducible refine ay ?_) | exact gN.out)) (d7) p318 q318
                             cases e318
                             replace p318 := eq_true p318
                             replace q318 := eq_true q318
                             have p60 : 0 ≤ (x7_2 : Int) := oD z2
                             have q60 : (x7_2 : Int) < (((rd_L1 x5_2 x6_1).length : Int) : Int) := oD z2
                             obtain ⟨go60, co60, eo60, mP, gl60, cl60, HG60⟩ := Kd.R_form HL314_0.out (by omega)
                             (first | cases eo60 | (injection eo60 with ea_ en_ ec_; (first | subst ea_ | (injection ea_ with ea_; subst ea_)); subst ec_; clear en_))
                             have GB60 := aM mP
                             have GG60 := aM HG60
                             clear mP gl60 HG60
                             (first | simp only [add_plain] at hx318_0 | skip)
                             obtain ⟨hx60_0, hf60_0⟩ := Kd.R_celln 0 HL314_0.out (x7_2 : Int) p60 q60
                             replace p60 := eq_true p60
                             replace q60 := eq_true q60
                             have hq63 : (x6_1 : Int) < (x5_2.length : Int) := (by have h_ : (x6_1 : Int) < ((x5_2.length : Int) : Int) := oD z2; first | exact h_ | (have e_ := (Kd.S_reads' aW.out).1; omega) | simpa only [List.length_set, List.length_set] using h_)
                             obtain ⟨oki63, ce63, hcl63, hM63, hcc63, hok63, hbk63⟩ := Kd.S_borrow aW.out [] (x6_1 : Int) (oD z2) hq63
                             obtain ⟨ve63_0, rfl, ge63_0⟩ := hM63
                             have hv63 := hcc63 0 _ rfl
                             rw [Nat.add_zero, show ((Kd.slice 3 (Kd.int .i64))).sz = 1 from rfl, Nat.mul_one] at hv63
                             replace hv63 := sI (hv63.symm.trans HX314_0.out)
                             subst hv63
                             clear hcc63 hcl63
                             replace ge63_0 := (show Kd.R (Kd.int .i64) 3 _ _ _ _ (rd_L1 x5_2 x6_1) from ge63_0)
                             have HP63 := Kd.R_putg ge63_0 (x7_2 : Int) lu
                             rw [← Ny319.out] at HP63
                             have HS63 := hbk63 HP63.2 (fun k_ e_ => by injection e_ with e_; subst e_; exact ge63_0.1 _ rfl) (x' := y319) (Kd.M_row HP63.1)
                             rw [← Ny321.out] at HS63
                             have HQ63 := aM HS63
                             clear HP63 HS63 hbk63 hok63
                             refine start_ (n := 24) (S := fun w' => w'.cell? ⟨go11, (x6_1).toNat, none⟩ = some (.slice (some ⟨go60, 0, none⟩) (rd_L1 x5_2 x6_1).length kJ) ∧ w'.cell? ⟨go11, ((cM)).toNat, none⟩ = some (.slice (some ad316) (rd_L1 x5_2 (cM)).length c315_0) ∧ w'.cell? (ad316.add (x7_2).toNat) = some (.int .i64 (rd (rd_L1 x5_2 (cM)) x7_2)) ∧ w'.cell? ⟨go11, (x6_1).toNat, none⟩ = some (.slice (some ⟨go60, 0, none⟩) (rd_L1 x5_2 x6_1).length kJ) ∧ w'.cell? ⟨go60, ((d7)).toNat, none⟩ = some (.int .i64 (rd (rd_L1 x5_2 x6_1) (d7)))) (ds := [23]) #[false, false, false, false, false, false, false, false, false, false, false, false, false, false, false, false, false, false, false, false, false, false, false, false] z0 rfl rfl ⟨hx314_0, hx315_0, hx316_0, hx317_0, hx318_0⟩ (fun hHeld => ?_); refine with_tabW impl_common.tab12 impl_common.bits12 (fun HT_ HW_ => ?_)
                             generalize w61.drew = w62 at aW HB GG60 HL314_0 HL315_0 HL317_0 HQ63 HR314_0 gO gN HX314_0 HX315_0 HX317_0 hf60_0 hx314_0 hx315_0 hx316_0 hx317_0 hx318_0 hx60_0 hHeld ⊢
                             refine pA 0 64 ?_
                             refine pA 1 65 ?_
                             refine pA 2 66 ?_
                             refine pA 4 68 ?_
                             refine pA 5 69 ?_
                             refine pA 6 70 ?_
                             refine pA 7 71 ?_
                             refine pA 8 72 ?_
                             refine pA 10 74 ?_
                             refine pA 13 77 ?_
                             refine pA 14 78 ?_
                             refine pA 15 79 ?_
                             refine pA 17 81 ?_
                             refine pA 18 82 ?_
                             refine tA 3 67 ?_ (hy := by rintro w' ⟨s0, s1, s2, s3, s4⟩; go_simp; with_reducible rfl)
                             refine tA 9 73 ?_ (hy := by rintro w' ⟨s0, s1, s2, s3, s4⟩; go_simp; with_reducible rfl)
                             refine pA 11 75 ?_
                             refine tA 12 76 ?_ (hy := by rintro w' ⟨s0, s1, s2, s3, s4⟩; go_simp; with_reducible rfl)
                             refine tA 16 80 ?_ (hy := by rintro w' ⟨s0, s1, s2, s3, s4⟩; go_simp; with_reducible rfl)
                             refine pA 19 83 ?_
                             refine tA 20 84 ?_ (hy := by rintro w' ⟨s0, s1, s2, s3, s4⟩; go_simp; with_reducible rfl)
                             refine pA 21 85 ?_
                             refine pA 22 86 ?_
                             refine last_ (i := 23) (N := none) #[true, true, true, true, true, true, true, true, true, true, true, true, true, true, true, true, true, true, true, true, true, true, true, true] rfl rfl (one_of HT_.out z0) (by decide) (fun K hK => ?_)
                             refine skip_ (w1 := ?_) (by rfl) rfl ?_ ?_
                             rotate_left
                             ·go_simp
                              rfl
                             refine hK.out _ _ ?_
                             clear hK K
                             refine done_ (done_of HT_.out z0) ?_
                             try go_wp2
                             (try simp only [← hl5_2])
                             go_roundg k2
                             case measure => have := HK1.out; have := HK2.out; omega
                             case rel => exact ⟨(y321), (wrap64 (x7_2 - 1)), z1, (by first | exact H' | (simp only [cI, e4, ei, g3, gZ, gY]; exact H') | (simp only [← cI, ← e4, ← ei, ← g3, ← gZ, ← gY]; exact H')), ⟨by have := HK1.out; have := HK2.out; omega⟩, ⟨by (try simp only [hl5_1]); (try simp only [hl5_2]); (with_reducible repeat (first | apply Kd.S_alloc | apply Kd.S_drewN | apply Kd.S_drew)); exact HQ63.out⟩, ⟨by repeat (first | (with_reducible first | exact HB.out | apply bA | apply pD | apply bD | refine ao ?_ GB60.out) | exact HB.out)⟩⟩
                            ·rw [if_neg nx] at H
                             exact absurd H (by simp)
                           ·rw [if_neg ny] at H
                            exact absurd H (by simp)
                          ·rw [if_neg nz] at H
                           exact absurd H (by simp)
                         ·rw [if_neg nA] at H
                          exact absurd H (by simp)
                        ·rw [if_neg ms] at H
                         exact absurd H (by simp)
                       ·rw [if_neg jx] at H
                        exact absurd H (by simp)
                      ·rw [if_neg jT] at H
                       exact absurd H (by simp)
                    ·rw [if_neg jy] at H
                     exact absurd H (by simp)
                   ·rw [if_neg j6] at H
                    exact absurd H (by simp)
                  ·rw [if_neg fw] at H
                   exact absurd H (by simp)
                 ·rw [if_neg j7] at H
                  exact absurd H (by simp)
                ·rw [if_neg de] at H
                 have c29b0 : decide (0 ≤ x7_2) = false := dF de
                 clear de
                 have H' := aM H
                 clear H
                 go_wp2
                 (try simp only [← hl5_1, ← hl5_2])
                 go_roundg k2
                 case measure => have := HK1.out; have := HK2.out; omega
                 case rel => exact ⟨(x5_2), (wrap64 (x6_1 - 1)), z1, (by first | exact H' | (simp only [cI, e4, ei]; exact H') | (simp only [← cI, ← e4, ← ei]; exact H')), ⟨by have := HK1.out; have := HK2.out; omega⟩, ⟨by (try simp only [hl5_1]); (try simp only [hl5_2]); (with_reducible repeat (first | apply Kd.S_alloc | apply Kd.S_drewN | apply Kd.S_drew)); exact aW.out⟩, ⟨y5⟩⟩
             ·rw [if_neg dw] at H
              exact absurd H (by simp)
            ·rw [if_neg ec] at H
             exact absurd H (by simp)
           ·rw [if_neg cF] at H
            exact absurd H (by simp)
          ·rw [if_neg dd] at H
           exact absurd H (by simp)
         ·rw [if_neg cn] at H
          have c18b0 : decide (0 ≤ x6_1) = false := dF cn
          clear cn
          obtain rfl := sI H
          go_wp2
          go_ret
          exact ⟨_, by first | rfl | (simp [errW_none, errW_some] <;> rfl) | (simp only [← cI, ← e4]; first | rfl | (simp [errW_none, errW_some] <;> rfl)) | (simp [*, errW_none, errW_some] <;> rfl), y6, y5⟩
      ·rw [if_neg bz] at H
       exact absurd H (by simp)
     ·rw [if_neg c9] at H
      exact absurd H (by simp)
    ·rw [if_neg c8] at H
     exact absurd H (by simp)
   ·rw [if_neg c7] at H
    exact absurd H (by simp)
  ·rw [if_neg c5] at H
   exact absurd H (by simp)
 ·rw [if_neg c4] at H
  exact absurd H (by simp)

end Go.Proofs.Ytifllccpfiobfaa.AFnExactMergeThree
