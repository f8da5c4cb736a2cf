-- this session's own text: written by wip/tools/ownprint.py over the kit's print
import Derived.Test.YtpbelbckinpinaaAFnDiffx0
namespace Go.Proofs.Ytpbelbckinpinaa.AFnDiff
open Go.RowKit Go.Proofs.YtpbelbckinpinaaW.PrintWords Go.Proofs.YtpbelbckinpinaaW.PrintLast Go.Proofs.YtpbelbckinpinaaW.PrintMore
attribute [local go_sem] max2_int min2_int max_two min_two max_three min_three max_four min_four   -- for this text's walks alone
set_option linter.unusedVariables false
set_option linter.unusedSimpArgs false

/-! ### impl_common: function 53 -/
mutual
def impl_common.l0 : Nat → ByteArray → ByteArray → List (List Int) → Int → Option ((List (List Int)))
 | 0, _, _, _, _ => none
 | k + 1, x0, x1, x5, x6 => if x6 ≥ 0 then (if 0 ≤ (wrap64 ((x1.size : Int) + 1)) then (if (wrap64 ((x1.size : Int) + 1) : Int).toNat ≤ 35184372088832 then (if 0 ≤ x6 then (if x6 < (x5.length : Int) then (impl_common.l1 k x0 x1 (x5.set (x6 : Int).toNat (List.replicate (wrap64 ((x1.size : Int) + 1) : Int).toNat 0)) x6 (wrap64 ((x1.size : Int) - 1))) else (none)) else (none)) else (none)) else (none)) else (some x5)
def impl_common.l1 : Nat → ByteArray → ByteArray → List (List Int) → Int → Int → Option ((List (List Int)))
 | 0, _, _, _, _, _ => none
 | k + 1, x0, x1, x5, x6, x7 => if x7 ≥ 0 then (if 0 ≤ x6 then (if x6 < (x0.size : Int) then (if 0 ≤ x7 then (if x7 < (x1.size : Int) then (if (bt x0 x6) = (bt x1 x7) then (if x6 < (x5.length : Int) then (if 0 ≤ (wrap64 (x6 + 1)) then (if (wrap64 (x6 + 1)) < (x5.length : Int) then (if 0 ≤ (wrap64 (x7 + 1)) then (if (wrap64 (x7 + 1)) < ((rd_L3 x5 (wrap64 (x6 + 1))).length : Int) then (if x7 < ((rd_L3 x5 x6).length : Int) then (impl_common.l1 k x0 x1 (x5.set (x6 : Int).toNat ((rd_L3 x5 x6).set (x7 : Int).toNat (wrap64 ((rd (rd_L3 x5 (wrap64 (x6 + 1))) (wrap64 (x7 + 1))) + 1)))) x6 (wrap64 (x7 - 1))) else (none)) else (none)) else (none)) else (none)) else (none)) else (none)) else (if x6 < (x5.length : Int) then (if 0 ≤ (wrap64 (x6 + 1)) then (if (wrap64 (x6 + 1)) < (x5.length : Int) then (if x7 < ((rd_L3 x5 (wrap64 (x6 + 1))).length : Int) then (if 0 ≤ (wrap64 (x7 + 1)) then (if (wrap64 (x7 + 1)) < ((rd_L3 x5 x6).length : Int) then (if x7 < ((rd_L3 x5 x6).length : Int) then (impl_common.l1 k x0 x1 (x5.set (x6 : Int).toNat ((rd_L3 x5 x6).set (x7 : Int).toNat (mx (rd (rd_L3 x5 (wrap64 (x6 + 1))) x7) (rd (rd_L3 x5 x6) (wrap64 (x7 + 1)))))) x6 (wrap64 (x7 - 1))) else (none)) else (none)) else (none)) else (none)) else (none)) else (none)) else (none))) else (none)) else (none)) else (none)) else (none)) else (impl_common.l0 k x0 x1 x5 (wrap64 (x6 - 1)))
end
def impl_common.f (k : Nat) (a0 : ByteArray) (a1 : ByteArray) : Option ((List (List Int))) := if 0 ≤ (wrap64 ((a0.size : Int) + 1)) then (if (wrap64 ((a0.size : Int) + 1) : Int).toNat ≤ 11728124029610 then ((some (List.replicate (wrap64 ((a0.size : Int) + 1) : Int).toNat [] : List (List Int))).bind fun y217 => (if 0 ≤ (wrap64 ((a1.size : Int) + 1)) then (if (wrap64 ((a1.size : Int) + 1) : Int).toNat ≤ 35184372088832 then (if 0 ≤ (a0.size : Int) then (if (a0.size : Int) < (y217.length : Int) then (impl_common.l0 k a0 a1 (y217.set ((a0.size : Int) : Int).toNat (List.replicate (wrap64 ((a1.size : Int) + 1) : Int).toNat 0)) (wrap64 ((a0.size : Int) - 1))) else (none)) else (none)) else (none)) else (none))) else (none)) else (none)
theorem impl_common.mono_l : ∀ k, (∀ y0 y1 y2 y3, LeO (impl_common.l0 k y0 y1 y2 y3) (impl_common.l0 (k + 1) y0 y1 y2 y3)) ∧ (∀ y0 y1 y2 y3 y4, LeO (impl_common.l1 k y0 y1 y2 y3 y4) (impl_common.l1 (k + 1) y0 y1 y2 y3 y4))
 | 0 => ⟨fun _ _ _ _ r h => by simp [impl_common.l0] at h, fun _ _ _ _ _ r h => by simp [impl_common.l1] at h⟩
 | k + 1 => by
  obtain ⟨ih0, ih1⟩ := impl_common.mono_l k
  refine ⟨?_, ?_⟩
  ·intro y0 y1 y2 y3
   unfold impl_common.l0
   repeat' first
   | (with_reducible exact ih0 _ _ _ _)
   | (with_reducible exact ih1 _ _ _ _ _)
   | (with_reducible exact LeO.refl _)
   | (with_reducible exact LeO.none _)
   | (with_reducible refine LeO.ite ?_ ?_)
   | (with_reducible refine LeO.bind ?_ (fun _ => ?_))
   | exact ih0 _ _ _ _
   | exact ih1 _ _ _ _ _
   | exact LeO.none _
   | refine LeO.ite ?_ ?_
   | refine LeO.bind ?_ (fun _ => ?_)
  ·intro y0 y1 y2 y3 y4
   unfold impl_common.l1
   repeat' first
   | (with_reducible exact ih0 _ _ _ _)
   | (with_reducible exact ih1 _ _ _ _ _)
   | (with_reducible exact LeO.refl _)
   | (with_reducible exact LeO.none _)
   | (with_reducible refine LeO.ite ?_ ?_)
   | (with_reducible refine LeO.bind ?_ (fun _ => ?_))
   | exact ih0 _ _ _ _
   | exact ih1 _ _ _ _ _
   | exact LeO.none _
   | refine LeO.ite ?_ ?_
   | refine LeO.bind ?_ (fun _ => ?_)
theorem impl_common.mono : ∀ a0 a1 k, LeO (impl_common.f k a0 a1) (impl_common.f (k + 1) a0 a1) := by
 intro a0 a1 k
 obtain ⟨ih0, ih1⟩ := impl_common.mono_l k
 unfold impl_common.f
 repeat' first
   | (with_reducible exact ih0 _ _ _ _)
   | (with_reducible exact ih1 _ _ _ _ _)
   | (with_reducible exact LeO.refl _)
   | (with_reducible exact LeO.none _)
   | (with_reducible refine LeO.ite ?_ ?_)
   | (with_reducible refine LeO.bind ?_ (fun _ => ?_))
   | exact ih0 _ _ _ _
   | exact ih1 _ _ _ _ _
   | exact LeO.none _
   | refine LeO.ite ?_ ?_
   | refine LeO.bind ?_ (fun _ => ?_)
def impl_common.T11 : Bool × List (List Nat × List Nat) := (true, [([], []), ([], []), ([0, 1], [0, 1]), ([2], [2]), ([], []), ([], []), ([], []), ([6], [6]), ([5, 7], [5, 7]), ([8], [8]), ([], []), ([10], [10]), ([9, 11], [9, 11]), ([12], [12]), ([13], [13]), ([3, 4, 0, 1, 2, 3, 4, 5, 6, 7, 8, 9, 10, 11, 12, 13, 14], [3, 4]), ([15, 14, 0, 1, 2, 3, 4, 5, 6, 7, 8, 9, 10, 11, 12, 13, 14], [14, 15])])
def impl_common.B11 : List Nat := [0, 0, 3, 7, 0, 0, 0, 64, 224, 480, 0, 1024, 4064, 8160, 16352, 32767, 65535]
theorem impl_common.tab11 : rtab .any (opsOf Try.f53 11) = impl_common.T11 := by kernel_rfl
theorem impl_common.bits11 : waitsOk impl_common.T11.2 impl_common.B11 = true := by kernel_rfl
def impl_common.T12 : Bool × List (List Nat × List Nat) := (true, [([], []), ([], []), ([0, 1], [0, 1]), ([2], [2]), ([], []), ([], []), ([], []), ([6], [6]), ([5, 7], [5, 7]), ([8], [8]), ([], []), ([9, 10], [9, 10]), ([11], [11]), ([], []), ([], []), ([13, 14], [13, 14]), ([15], [15]), ([], []), ([17], [17]), ([16, 18], [16, 18]), ([19], [19]), ([12, 20], [12, 20]), ([3, 4, 0, 1, 2, 3, 4, 5, 6, 7, 8, 9, 10, 11, 12, 13, 14, 15, 16, 17, 18, 19, 20, 21], [3, 4]), ([22, 21, 0, 1, 2, 3, 4, 5, 6, 7, 8, 9, 10, 11, 12, 13, 14, 15, 16, 17, 18, 19, 20, 21], [21, 22])])
def impl_common.B12 : List Nat := [0, 0, 3, 7, 0, 0, 0, 64, 224, 480, 0, 2016, 4064, 0, 0, 24576, 57344, 0, 131072, 516096, 1040384, 2097120, 4194303, 8388607]
theorem impl_common.tab12 : rtab .any (opsOf Try.f53 12) = impl_common.T12 := by kernel_rfl
theorem impl_common.bits12 : waitsOk impl_common.T12.2 impl_common.B12 = true := by kernel_rfl
set_option maxHeartbeats 8000000 in
set_option maxRecDepth 100000 in
theorem impl_common.calls (k : Nat) (a0 : ByteArray) (a1 : ByteArray) (r : List (List Int)) (w : World) (h : impl_common.f k a0 a1 = some r) :
  Calls Try.prog 53 #[.string a0, .string a1] w fun e w' => ∃ v0_ : Value, e = .returned (v0_) ∧ Kd.S (Kd.slice 3 (Kd.int .i64)) 83 w' w.heap.size (fun _ => True) v0_ r ∧ Below w.heap.size w w' := by
 have HB := Aside0.mk (Below.refl w.heap.size w)
 have H : (if 0 ≤ (wrap64 ((a0.size : Int) + 1)) then (if (wrap64 ((a0.size : Int) + 1) : Int).toNat ≤ 11728124029610 then ((some (List.replicate (wrap64 ((a0.size : Int) + 1) : Int).toNat [] : List (List Int))).bind fun y217 => (if 0 ≤ (wrap64 ((a1.size : Int) + 1)) then (if (wrap64 ((a1.size : Int) + 1) : Int).toNat ≤ 35184372088832 then (if 0 ≤ (a0.size : Int) then (if (a0.size : Int) < (y217.length : Int) then (impl_common.l0 k a0 a1 (y217.set ((a0.size : Int) : Int).toNat (List.replicate (wrap64 ((a1.size : Int) + 1) : Int).toNat 0)) (wrap64 ((a0.size : Int) - 1))) else (none)) else (none)) else (none)) else (none))) else (none)) else (none)) = some r := h
 clear h
 obtain ⟨ji3, hji3⟩ : ∃ j_ : Int, (wrap64 ((a0.size : Int) + 1)) = j_ := ⟨_, rfl⟩
 replace H : (if 0 ≤ (ji3) then (if (ji3 : Int).toNat ≤ 11728124029610 then ((some (List.replicate (ji3 : Int).toNat [] : List (List Int))).bind fun y217 => (if 0 ≤ (wrap64 ((a1.size : Int) + 1)) then (if (wrap64 ((a1.size : Int) + 1) : Int).toNat ≤ 35184372088832 then (if 0 ≤ (a0.size : Int) then (if (a0.size : Int) < (y217.length : Int) then (impl_common.l0 k a0 a1 (y217.set ((a0.size : Int) : Int).toNat (List.replicate (wrap64 ((a1.size : Int) + 1) : Int).toNat 0)) (wrap64 ((a0.size : Int) - 1))) else (none)) else (none)) else (none)) else (none))) else (none)) else (none)) = some r := by first | (rw [hji3] at H; exact H) | (simp only [hji3] at H ⊢; exact H)
 have hji3w : (IntKind.i64.wrap ((a0.size : Int) + 1)) = ji3 := (i64_w _).trans hji3
 by_cases c4 : 0 ≤ (ji3)
 ·rw [if_pos c4] at H
  have c4b0 := eq_true c4
  have c4b1 : decide (0 ≤ (ji3)) = true := decide_eq_true c4
  clear c4
  by_cases c5 : (ji3 : Int).toNat ≤ 11728124029610
  ·rw [if_pos c5] at H
   have c5b0 := eq_true c5
   have c5b1 : decide ((ji3 : Int).toNat ≤ 11728124029610) = true := decide_eq_true c5
   clear c5
   obtain ⟨y217, hy217⟩ : ∃ y_ : List (List Int), y_ = (List.replicate (ji3 : Int).toNat []) := ⟨_, rfl⟩
   replace H : (if 0 ≤ (wrap64 ((a1.size : Int) + 1)) then (if (wrap64 ((a1.size : Int) + 1) : Int).toNat ≤ 35184372088832 then (if 0 ≤ (a0.size : Int) then (if (a0.size : Int) < (y217.length : Int) then (impl_common.l0 k a0 a1 (y217.set ((a0.size : Int) : Int).toNat (List.replicate (wrap64 ((a1.size : Int) + 1) : Int).toNat 0)) (wrap64 ((a0.size : Int) - 1))) else (none)) else (none)) else (none)) else (none)) = some r := by first | (rw [hy217]; with_reducible exact H) | (have H2_ := (Option.bind_some _ _).symm.trans H; rw [hy217]; with_reducible exact H2_) | (have H2_ := (Option.bind_some _ _).symm.trans H; with_reducible exact H2_) | with_reducible exact H | (rw [hy217]; exact H) | exact H
   have Ny217 := Aside0.mk hy217
   clear hy217
   obtain ⟨ji6, hji6⟩ : ∃ j_ : Int, (wrap64 ((a1.size : Int) + 1)) = j_ := ⟨_, rfl⟩
   replace H : (if 0 ≤ (ji6) then (if (ji6 : Int).toNat ≤ 35184372088832 then (if 0 ≤ (a0.size : Int) then (if (a0.size : Int) < (y217.length : Int) then (impl_common.l0 k a0 a1 (y217.set ((a0.size : Int) : Int).toNat (List.replicate (ji6 : Int).toNat 0)) (wrap64 ((a0.size : Int) - 1))) else (none)) else (none)) else (none)) else (none)) = some r := by first | (rw [hji6] at H; exact H) | (simp only [hji6] at H ⊢; exact H)
   have hji6w : (IntKind.i64.wrap ((a1.size : Int) + 1)) = ji6 := (i64_w _).trans hji6
   by_cases c7 : 0 ≤ (ji6)
   ·rw [if_pos c7] at H
    have c7b0 := eq_true c7
    have c7b1 : decide (0 ≤ (ji6)) = true := decide_eq_true c7
    clear c7
    by_cases c8 : (ji6 : Int).toNat ≤ 35184372088832
    ·rw [if_pos c8] at H
     have c8b0 := eq_true c8
     have c8b1 : decide ((ji6 : Int).toNat ≤ 35184372088832) = true := decide_eq_true c8
     clear c8
     obtain ⟨y220, hy220⟩ : ∃ y_ : List Int, y_ = (List.replicate (ji6 : Int).toNat 0) := ⟨_, rfl⟩
     replace H : (if 0 ≤ (a0.size : Int) then (if (a0.size : Int) < (y217.length : Int) then (impl_common.l0 k a0 a1 (y217.set ((a0.size : Int) : Int).toNat y220) (wrap64 ((a0.size : Int) - 1))) else (none)) else (none)) = some r := by first | (rw [hy220]; with_reducible exact H) | (have H2_ := (Option.bind_some _ _).symm.trans H; rw [hy220]; with_reducible exact H2_) | (have H2_ := (Option.bind_some _ _).symm.trans H; with_reducible exact H2_) | with_reducible exact H | (rw [hy220]; exact H) | exact H
     have Ny220 := Aside0.mk hy220
     clear hy220
     by_cases c9 : 0 ≤ (a0.size : Int)
     ·rw [if_pos c9] at H
      have c9b0 : decide (0 ≤ (a0.size : Int)) = true := decide_eq_true c9
      have c9b1 : decide (0 ≤ a0.size) = true := decide_eq_true (by omega)
      clear c9
      by_cases c10 : (a0.size : Int) < (y217.length : Int)
      ·rw [if_pos c10] at H
       have c10b0 : decide ((a0.size : Int) < (y217.length : Int)) = true := decide_eq_true c10
       have c10b1 : decide (a0.size < y217.length) = true := decide_eq_true (Int.ofNat_lt.mp c10)
       clear c10
       obtain ⟨y223, hy223⟩ : ∃ y_ : List (List Int), y_ = (y217.set ((a0.size : Int) : Int).toNat y220) := ⟨_, rfl⟩
       replace H : (impl_common.l0 k a0 a1 y223 (wrap64 ((a0.size : Int) - 1))) = some r := by first | (rw [hy223]; with_reducible exact H) | (have H2_ := (Option.bind_some _ _).symm.trans H; rw [hy223]; with_reducible exact H2_) | (have H2_ := (Option.bind_some _ _).symm.trans H; with_reducible exact H2_) | with_reducible exact H | (rw [hy223]; exact H) | exact H
       have Ny223 := Aside0.mk hy223
       clear hy223
       have H' := Aside0.mk H
       clear H
       go_enter Try.func53, Try.ntmps53
       go_wp2_with (first | ((with_reducible refine gate_dst (N := 11) rfl ?_); refine Kd.S_make (Kd.slice 3 (Kd.int .i64)) _ 83 rfl (N := 11) rfl 78 _ _ rfl ji3 rfl rfl Try.underlying78 (.slice none 0 0) 24 info83 rfl (by decide) (by omega) [] (ok := fun _ => True) (okp := fun _ => True) ⟨_, rfl, Kd.R_nil _ _ _ _ _⟩ (fun _ hk => hk) trivial (of_decide_eq_true z2) (Nat.le_trans (Nat.mul_le_mul_right _ (of_decide_eq_true z2 : ji3.toNat ≤ 11728124029610)) (by omega)) (Below.refl _ _) (Nat.le_refl _) ?_; intro v218 w12 ho13 hb hg_ hnew_; clear hg_ hnew_; (first | rw [← Ny217.out] at ho13 | (simp only [Int.reduceToNat] at ho13; rw [← Ny217.out] at ho13)); have n0_ := Aside0.mk (Kd.S_lower ho13 (below_size z6)); have n1_ := Aside0.mk (below_step z6 hb); clear HB; have HO219 := n0_; have HB := n1_; clear n0_ n1_; clear hb ho13) | ((with_reducible refine gate_dst (N := 18) rfl ?_); refine Kd.R_make (Kd.int .i64) _ 3 rfl (N := 18) rfl 83 _ _ rfl ji6 rfl rfl Try.underlying83 (.int .i64 0) 8 info3 rfl (by decide) (by omega) 0 (ok := fun _ => True) (okp := fun _ => True) rfl (fun _ hk => hk) trivial (of_decide_eq_true z2) (Nat.le_trans (Nat.mul_le_mul_right _ (of_decide_eq_true z2 : ji6.toNat ≤ 35184372088832)) (by omega)) (Below.refl _ _) (Nat.le_refl _) ?_; intro v221 w14 ho15 hb hg_ hnew_; clear hg_ hnew_; (first | rw [← Ny220.out] at ho15 | (simp only [Int.reduceToNat] at ho15; rw [← Ny220.out] at ho15)); have n0_ := Aside0.mk (Kd.S_elder' (by (with_reducible repeat (first | apply Kd.S_alloc | apply Kd.S_drewN | apply Kd.S_drew)); exact HO219.out) (Kd.R_base ho15) hb); have n1_ := Aside0.mk (Kd.R_lower ho15 (below_size z6)); have n2_ := Aside0.mk (below_step z6 hb); clear HO219; clear HB; have HO219 := n0_; have HO222 := n1_; have HB := n2_; clear n0_ n1_ n2_; clear hb ho15; have p11 : 0 ≤ ((a0.size : Int) : Int) := of_decide_eq_true z2; have q11 : ((a0.size : Int) : Int) < ((y217.length : Int) : Int) := of_decide_eq_true z2; obtain ⟨go11, co11, eo11, gb11, gl11, cl11, HG11⟩ := Kd.S_form HO219.out (by omega); (first | cases eo11 | (injection eo11 with ea_ en_ ec_; (first | subst ea_ | (injection ea_ with ea_; subst ea_)); subst ec_; clear en_)); have GB11 := Aside0.mk gb11; have GG11 := Aside0.mk HG11; clear gb11 gl11 HG11; obtain ⟨_, ce11, hcl11, hM11, hcc11, hfr11, _, _⟩ := Kd.S_elem HO219.out [] ((a0.size : Int) : Int) p11 q11; obtain ⟨ve11_0, rfl, ge11_0⟩ := hM11; have hx11_0 := hcc11 0 _ rfl; have hf11_0 := hfr11 0; (try simp only [show ((Kd.slice 3 (Kd.int .i64))).sz = 1 from rfl, Nat.mul_one, Nat.add_zero] at hx11_0); (try simp only [show ((Kd.slice 3 (Kd.int .i64))).sz = 1 from rfl, Nat.mul_one, Nat.add_zero] at hf11_0); clear hcl11 hcc11 hfr11; (try clear hM11); replace p11 := eq_true p11; replace q11 := eq_true q11; have n_ := Aside0.mk (Kd.S_mono (ok' := (fun k_ => some k_ ≠ (v221 : Value).ownBlock)) HO219.out (fun k_ hk => hk.2)); clear HO219; have HO219 := n_; clear n_; have HX16 := Aside0.mk (show Kd.S (Kd.slice 3 (Kd.int .i64)) 83 w14 w.heap.size (fun k_ => ((fun _ => True)) k_ ∧ ¬ ((fun k_ => some k_ = (v221 : Value).ownBlock)) k_) (.slice (some ⟨go11, 0, none⟩) y217.length co11) y217 from (by (with_reducible repeat (first | apply Kd.S_alloc | apply Kd.S_drewN | apply Kd.S_drew)); exact Kd.S_mono HO219.out (fun k_ hk => ⟨trivial, fun e_ => hk e_⟩))); obtain ⟨oki16, ce16, hcl16, hM16, hcc16, hfr16, hoki16, hH16⟩ := Kd.S_elem HX16.out [] ((a0.size : Int) : Int) (of_decide_eq_true z2) (by have h_ : ((a0.size : Int) : Int) < ((y217.length : Int) : Int) := of_decide_eq_true z2; first | exact h_ | (have e_ := (Kd.S_reads' HO219.out).1; omega) | simpa using h_); obtain ⟨ve16_0, rfl, ge16_0⟩ := hM16; have HP16 := Kd.S_seg hH16 (of_decide_eq_true z2) (by have h_ : ((a0.size : Int) : Int) < ((y217.length : Int) : Int) := of_decide_eq_true z2; first | exact h_ | (have e_ := (Kd.S_reads' HO219.out).1; omega) | simpa using h_) (seg := [v221]) (j := 0) (show 1 ≤ 1 from by decide) (x' := y220) (Kd.M_row (Kd.R_mono (Kd.R_tight rfl (Kd.R_mono (ok' := fun k_ => ((fun _ => True)) k_ ∧ k_ ≠ go11) (Kd.R_apart' (HO222.out) (Kd.S_typed HO219.out) (by decide)) (fun k_ hk => ⟨trivial, fun e_ => (hk.2) (by rw [e_]; rfl)⟩))) (fun _ h_ => Or.inr (h_)))) (fun _ hk => hk) (fun k_ hk_ => ((Kd.R_mono (ok' := fun k_ => ((fun _ => True)) k_ ∧ k_ ≠ go11) (Kd.R_apart' (HO222.out) (Kd.S_typed HO219.out) (by decide)) (fun k_ hk => ⟨trivial, fun e_ => (hk.2) (by rw [e_]; rfl)⟩))).1 k_ hk_.symm); have hx16_0 := hcc16 0 _ rfl; (try simp only [show ((Kd.slice 3 (Kd.int .i64))).sz = 1 from rfl, Nat.mul_one, Nat.add_zero] at hx16_0); have hf16_0 := hfr16 0; (try simp only [show ((Kd.slice 3 (Kd.int .i64))).sz = 1 from rfl, Nat.mul_one, Nat.add_zero] at hf16_0); clear hcl16 hcc16 hfr16 hoki16 hH16; (try clear hM16); (try simp only [show ((Kd.slice 3 (Kd.int .i64))).sz = 1 from rfl, Nat.mul_one, Nat.add_zero] at HP16)) | ((with_reducible refine gate_store (t := 83) (p := 19) rfl ?_); refine store_event (t := 83) (p := 19) (v := ?vo_w17) (w1 := (w14.setCell ⟨go11, ((a0.size : Int) : Int).toNat, none⟩ (v221))) ?hg ?ho ?hn ?hr ?_; (case ho => rfl); (case hg => rfl); (case hn => rfl); (case hr => first | (go_simp; done) | (go_simp; rfl) | ((try simp only [Int.toNat_natCast] at *); go_simp; first | done | rfl) | ((try simp only [Int.toNat_natCast] at *); obtain ⟨A_, c_, e_⟩ := Kd.R_slice (Aside0.out ‹Aside0 (Kd.R _ _ _ _ _ v221 _)›); subst e_; go_simp; first | done | rfl) | ((try simp only [Int.toNat_natCast] at *); obtain ⟨A_, c_, e_⟩ := Kd.S_slice (Aside0.out ‹Aside0 (Kd.S _ _ _ _ _ v221 _)›); subst e_; go_simp; first | done | rfl) | ((try simp only [Int.toNat_natCast] at *); obtain ⟨A_, c_, e_⟩ := Kd.N_slice (Aside0.out ‹Aside0 (Kd.N _ _ _ _ _ v221 _)›); subst e_; go_simp; first | done | rfl) | ((try simp only [Int.toNat_natCast] at *); obtain ⟨A_, c_, e_⟩ := Kd.V_slice (Aside0.out ‹Aside0 (Kd.V _ _ _ _ _ v221 _)›); subst e_; go_simp; first | done | rfl)); intro w17 hw; have hg : w14.grownBy w17 (some go11) := (by rw [hw]; exact HP16.2); have hp_ : Kd.S (Kd.slice 3 (Kd.int .i64)) 83 w17 w.heap.size (fun _ => True) (.slice (some ⟨go11, 0, none⟩) y217.length co11) y223 := (by rw [hw, Ny223.out]; exact HP16.1); clear HP16; have n0_ := Aside0.mk (hp_); have n1_ := Aside0.mk ((by rw [hw]; exact below_set (HB.out) GB11.out : Below w.heap.size w w17)); clear HO219; clear HB; clear HO222; have HO219 := n0_; have HB := n1_; clear n0_ n1_; clear hg hw hp_))
       go_loopg [6] k (fun kq v6 w' => ∃ (x5_1 : List (List Int)) (x6_1 : Int), v6 = .int .i64 x6_1 ∧ Aside0 (impl_common.l0 kq a0 a1 x5_1 x6_1 = some r) ∧ Aside0 (kq ≤ k) ∧ Aside0 (Kd.S (Kd.slice 3 (Kd.int .i64)) 83 w' w.heap.size (fun _ => True) (.slice (some ⟨go11, 0, none⟩) y217.length co11) x5_1) ∧ Aside0 (Below w.heap.size w w'))
       case atStart => exact ⟨(y223), (wrap64 ((a0.size : Int) - 1)), z1, H', ⟨Nat.le_refl _⟩, ⟨by (with_reducible repeat (first | apply Kd.S_alloc | apply Kd.S_drewN | apply Kd.S_drew)); exact HO219.out⟩, ⟨by repeat (first | (with_reducible first | exact HB.out | apply below_alloc | apply pw_below_drewN | apply below_drew1) | exact HB.out)⟩⟩
       case round =>
        clear H'
        try clear c1
        try clear p1
        try clear q1
        try clear hx1
        try clear p2
        try clear c4
        try clear c4b0
        try clear c4b1
        try clear c5
        try clear c5b0
        try clear c5b1
        try clear p6
        try clear c7
        try clear c7b0
        try clear c7b1
        try clear c8
        try clear c8b0
        try clear c8b1
        try clear c9
        try clear c9b0
        try clear c9b1
        try clear c10
        try clear c10b0
        try clear c10b1
        try clear c11
        try clear p11
        try clear q11
        try clear hx11
        try clear hf11
        try clear c16
        try clear hx16
        try clear hf16
        try clear hx11_0
        try clear hx16_0
        try clear p11
        try clear q11
        obtain ⟨x5_1, x6_1, rfl, HA, HK1, HO_5, HB⟩ := hrel
        have hl5_1 := (Kd.S_reads' HO_5.out).1
        rw [hl5_1] at HO_5
        (try simp only [hl5_1])
        cases gk with
        | zero => exact absurd HA.out (by simp [impl_common.l0])
        | succ k1 =>
         have H := HA.out
         clear HA
         simp only [impl_common.l0] at H
         by_cases c18 : x6_1 ≥ 0
         ·rw [if_pos c18] at H
          have c18b0 : decide (0 ≤ x6_1) = true := decide_eq_true c18
          clear c18
          obtain ⟨ji19, hji19⟩ : ∃ j_ : Int, (wrap64 ((a1.size : Int) + 1)) = j_ := ⟨_, rfl⟩
          (try clear hji6w); (try clear hji6)
          replace H : (if 0 ≤ (ji19) then (if (ji19 : Int).toNat ≤ 35184372088832 then (if 0 ≤ x6_1 then (if x6_1 < (x5_1.length : Int) then (impl_common.l1 k1 a0 a1 (x5_1.set (x6_1 : Int).toNat (List.replicate (ji19 : Int).toNat 0)) x6_1 (wrap64 ((a1.size : Int) - 1))) else (none)) else (none)) else (none)) else (none)) = some r := by first | (rw [hji19] at H; exact H) | (simp only [hji19] at H ⊢; exact H)
          have hji19w : (IntKind.i64.wrap ((a1.size : Int) + 1)) = ji19 := (i64_w _).trans hji19
          by_cases c20 : 0 ≤ (ji19)
          ·rw [if_pos c20] at H
           have c20b0 := eq_true c20
           have c20b1 : decide (0 ≤ (ji19)) = true := decide_eq_true c20
           clear c20
           by_cases c21 : (ji19 : Int).toNat ≤ 35184372088832
           ·rw [if_pos c21] at H
            have c21b0 := eq_true c21
            have c21b1 : decide ((ji19 : Int).toNat ≤ 35184372088832) = true := decide_eq_true c21
            clear c21
            obtain ⟨y224, hy224⟩ : ∃ y_ : List Int, y_ = (List.replicate (ji19 : Int).toNat 0) := ⟨_, rfl⟩
            replace H : (if 0 ≤ x6_1 then (if x6_1 < (x5_1.length : Int) then (impl_common.l1 k1 a0 a1 (x5_1.set (x6_1 : Int).toNat y224) x6_1 (wrap64 ((a1.size : Int) - 1))) else (none)) else (none)) = some r := by first | (rw [hy224]; with_reducible exact H) | (have H2_ := (Option.bind_some _ _).symm.trans H; rw [hy224]; with_reducible exact H2_) | (have H2_ := (Option.bind_some _ _).symm.trans H; with_reducible exact H2_) | with_reducible exact H | (rw [hy224]; exact H) | exact H
            have Ny224 := Aside0.mk hy224
            clear hy224
            by_cases c22 : 0 ≤ x6_1
            ·rw [if_pos c22] at H
             have c22b0 : decide (0 ≤ x6_1) = true := decide_eq_true c22
             clear c22
             by_cases c23 : x6_1 < (x5_1.length : Int)
             ·rw [if_pos c23] at H
              have c23b0 : decide (x6_1 < (x5_1.length : Int)) = true := decide_eq_true c23
              have c23b0hl5_1 := c23b0
              (try simp only [hl5_1] at c23b0hl5_1)
              clear c23
              obtain ⟨y227, hy227⟩ : ∃ y_ : List (List Int), y_ = (x5_1.set (x6_1 : Int).toNat y224) := ⟨_, rfl⟩
              replace H : (impl_common.l1 k1 a0 a1 y227 x6_1 (wrap64 ((a1.size : Int) - 1))) = some r := by first | (rw [hy227]; with_reducible exact H) | (have H2_ := (Option.bind_some _ _).symm.trans H; rw [hy227]; with_reducible exact H2_) | (have H2_ := (Option.bind_some _ _).symm.trans H; with_reducible exact H2_) | with_reducible exact H | (rw [hy227]; exact H) | exact H
              have Ny227 := Aside0.mk hy227
              clear hy227
              have H' := Aside0.mk H
              clear H
              go_wp2_with (first | ((with_reducible refine gate_dst (N := 32) rfl ?_); refine Kd.R_make (Kd.int .i64) _ 3 rfl (N := 32) rfl 83 _ _ rfl ji19 rfl rfl Try.underlying83 (.int .i64 0) 8 info3 rfl (by decide) (by omega) 0 (ok := fun _ => True) (okp := fun _ => True) rfl (fun _ hk => hk) trivial (of_decide_eq_true z2) (Nat.le_trans (Nat.mul_le_mul_right _ (of_decide_eq_true z2 : ji19.toNat ≤ 35184372088832)) (by omega)) (Below.refl _ _) (Nat.le_refl _) ?_; intro v225 w25 ho26 hb hg_ hnew_; clear hg_ hnew_; (first | rw [← Ny224.out] at ho26 | (simp only [Int.reduceToNat] at ho26; rw [← Ny224.out] at ho26)); have n0_ := Aside0.mk (Kd.S_elder' (by (with_reducible repeat (first | apply Kd.S_alloc | apply Kd.S_drewN | apply Kd.S_drew)); exact HO_5.out) (Kd.R_base ho26) hb); have n1_ := Aside0.mk (Kd.R_lower ho26 (below_size z6)); have n2_ := Aside0.mk (below_step z6 hb); clear HO_5; clear HB; have HO_5 := n0_; have HO226 := n1_; have HB := n2_; clear n0_ n1_ n2_; clear hb ho26; have p24 : 0 ≤ (x6_1 : Int) := of_decide_eq_true z2; have q24 : (x6_1 : Int) < ((x5_1.length : Int) : Int) := of_decide_eq_true z2; obtain ⟨_, ce24, hcl24, hM24, hcc24, hfr24, _, _⟩ := Kd.S_elem HO_5.out [] (x6_1 : Int) p24 q24; obtain ⟨ve24_0, rfl, ge24_0⟩ := hM24; have hx24_0 := hcc24 0 _ rfl; have hf24_0 := hfr24 0; (try simp only [show ((Kd.slice 3 (Kd.int .i64))).sz = 1 from rfl, Nat.mul_one, Nat.add_zero] at hx24_0); (try simp only [show ((Kd.slice 3 (Kd.int .i64))).sz = 1 from rfl, Nat.mul_one, Nat.add_zero] at hf24_0); clear hcl24 hcc24 hfr24; (try clear hM24); replace p24 := eq_true p24; replace q24 := eq_true q24; have n_ := Aside0.mk (Kd.S_mono (ok' := (fun k_ => some k_ ≠ (v225 : Value).ownBlock)) HO_5.out (fun k_ hk => hk.2)); clear HO_5; have HO_5 := n_; clear n_; have HX27 := Aside0.mk (show Kd.S (Kd.slice 3 (Kd.int .i64)) 83 w25 w.heap.size (fun k_ => ((fun _ => True)) k_ ∧ ¬ ((fun k_ => some k_ = (v225 : Value).ownBlock)) k_) (.slice (some ⟨go11, 0, none⟩) x5_1.length co11) x5_1 from (by (with_reducible repeat (first | apply Kd.S_alloc | apply Kd.S_drewN | apply Kd.S_drew)); exact Kd.S_mono HO_5.out (fun k_ hk => ⟨trivial, fun e_ => hk e_⟩))); obtain ⟨oki27, ce27, hcl27, hM27, hcc27, hfr27, hoki27, hH27⟩ := Kd.S_elem HX27.out [] (x6_1 : Int) (of_decide_eq_true z2) (by have h_ : (x6_1 : Int) < ((x5_1.length : Int) : Int) := of_decide_eq_true z2; first | exact h_ | (have e_ := (Kd.S_reads' HO_5.out).1; omega) | simpa using h_); obtain ⟨ve27_0, rfl, ge27_0⟩ := hM27; have HP27 := Kd.S_seg hH27 (of_decide_eq_true z2) (by have h_ : (x6_1 : Int) < ((x5_1.length : Int) : Int) := of_decide_eq_true z2; first | exact h_ | (have e_ := (Kd.S_reads' HO_5.out).1; omega) | simpa using h_) (seg := [v225]) (j := 0) (show 1 ≤ 1 from by decide) (x' := y224) (Kd.M_row (Kd.R_mono (Kd.R_tight rfl (Kd.R_mono (ok' := fun k_ => ((fun _ => True)) k_ ∧ k_ ≠ go11) (Kd.R_apart' (HO226.out) (Kd.S_typed HO_5.out) (by decide)) (fun k_ hk => ⟨trivial, fun e_ => (hk.2) (by rw [e_]; rfl)⟩))) (fun _ h_ => Or.inr (h_)))) (fun _ hk => hk) (fun k_ hk_ => ((Kd.R_mono (ok' := fun k_ => ((fun _ => True)) k_ ∧ k_ ≠ go11) (Kd.R_apart' (HO226.out) (Kd.S_typed HO_5.out) (by decide)) (fun k_ hk => ⟨trivial, fun e_ => (hk.2) (by rw [e_]; rfl)⟩))).1 k_ hk_.symm); have hx27_0 := hcc27 0 _ rfl; (try simp only [show ((Kd.slice 3 (Kd.int .i64))).sz = 1 from rfl, Nat.mul_one, Nat.add_zero] at hx27_0); have hf27_0 := hfr27 0; (try simp only [show ((Kd.slice 3 (Kd.int .i64))).sz = 1 from rfl, Nat.mul_one, Nat.add_zero] at hf27_0); clear hcl27 hcc27 hfr27 hoki27 hH27; (try clear hM27); (try simp only [show ((Kd.slice 3 (Kd.int .i64))).sz = 1 from rfl, Nat.mul_one, Nat.add_zero] at HP27)) | ((with_reducible refine gate_store (t := 83) (p := 33) rfl ?_); refine store_event (t := 83) (p := 33) (v := ?vo_w28) (w1 := (w25.setCell ⟨go11, (x6_1 : Int).toNat, none⟩ (v225))) ?hg ?ho ?hn ?hr ?_; (case ho => rfl); (case hg => rfl); (case hn => rfl); (case hr => first | (go_simp; done) | (go_simp; rfl) | ((try simp only [Int.toNat_natCast] at *); go_simp; first | done | rfl) | ((try simp only [Int.toNat_natCast] at *); obtain ⟨A_, c_, e_⟩ := Kd.R_slice (Aside0.out ‹Aside0 (Kd.R _ _ _ _ _ v225 _)›); subst e_; go_simp; first | done | rfl) | ((try simp only [Int.toNat_natCast] at *); obtain ⟨A_, c_, e_⟩ := Kd.S_slice (Aside0.out ‹Aside0 (Kd.S _ _ _ _ _ v225 _)›); subst e_; go_simp; first | done | rfl) | ((try simp only [Int.toNat_natCast] at *); obtain ⟨A_, c_, e_⟩ := Kd.N_slice (Aside0.out ‹Aside0 (Kd.N _ _ _ _ _ v225 _)›); subst e_; go_simp; first | done | rfl) | ((try simp only [Int.toNat_natCast] at *); obtain ⟨A_, c_, e_⟩ := Kd.V_slice (Aside0.out ‹Aside0 (Kd.V _ _ _ _ _ v225 _)›); subst e_; go_simp; first | done | rfl)); intro w28 hw; have hg : w25.grownBy w28 (some go11) := (by rw [hw]; exact HP27.2); have hp_ : Kd.S (Kd.slice 3 (Kd.int .i64)) 83 w28 w.heap.size (fun _ => True) (.slice (some ⟨go11, 0, none⟩) x5_1.length co11) y227 := (by rw [hw, Ny227.out]; exact HP27.1); clear HP27; have n0_ := Aside0.mk (hp_); have n1_ := Aside0.mk ((by rw [hw]; exact below_set (HB.out) GB11.out : Below w.heap.size w w28)); clear HO_5; clear HB; clear HO226; have HO_5 := n0_; have HB := n1_; clear n0_ n1_; clear hg hw hp_))
              go_loopg [7] k1 (fun kq v7 w' => ∃ (x5_2 : List (List Int)) (x7_2 : Int), v7 = .int .i64 x7_2 ∧ Aside0 (impl_common.l1 kq a0 a1 x5_2 x6_1 x7_2 = some r) ∧ Aside0 (kq ≤ k1) ∧ Aside0 (Kd.S (Kd.slice 3 (Kd.int .i64)) 83 w' w.heap.size (fun _ => True) (.slice (some ⟨go11, 0, none⟩) x5_1.length co11) x5_2) ∧ Aside0 (Below w.heap.size w w'))
              case atStart => exact ⟨(y227), (wrap64 ((a1.size : Int) - 1)), z1, H', ⟨Nat.le_refl _⟩, ⟨by (try simp only [hl5_1]); (with_reducible repeat (first | apply Kd.S_alloc | apply Kd.S_drewN | apply Kd.S_drew)); exact HO_5.out⟩, ⟨by repeat (first | (with_reducible first | exact HB.out | apply below_alloc | apply pw_below_drewN | apply below_drew1) | exact HB.out)⟩⟩
              case round =>
               clear H'
               try clear c1
               try clear p1
               try clear q1
               try clear hx1
               try clear c2
               try clear p2
               try clear q2
               try clear hx2
               try clear hf2
               try clear c4
               try clear c4b0
               try clear c4b1
               try clear c5
               try clear c5b0
               try clear c5b1
               try clear p6
               try clear c7
               try clear c7b0
               try clear c7b1
               try clear c8
               try clear c8b0
               try clear c8b1
               try clear c9
               try clear c9b0
               try clear c9b1
               try clear c10
               try clear c10b0
               try clear c10b1
               try clear c11
               try clear p11
               try clear q11
               try clear hx11
               try clear hf11
               try clear c16
               try clear hx16
               try clear hf16
               try clear c18
               try clear c18b0
               try clear c20
               try clear c20b0
               try clear c20b1
               try clear c21
               try clear c21b0
               try clear c21b1
               try clear c22
               try clear c22b0
               try clear c23
               try clear c23b0
               try clear c24
               try clear p24
               try clear q24
               try clear hx24
               try clear hf24
               try clear c27
               try clear hx27
               try clear hf27
               try clear hx11_0
               try clear hx16_0
               try clear hx24_0
               try clear hx27_0
               try clear p1
               try clear p11
               try clear p2
               try clear p24
               try clear p6
               try clear q1
               try clear q11
               try clear q24
               obtain ⟨x5_2, x7_2, rfl, HA, HK2, HO_5, HB⟩ := hrel
               have hl5_2 := (Kd.S_reads' HO_5.out).1
               rw [hl5_2] at HO_5
               (try simp only [hl5_2])
               cases gk with
               | zero => exact absurd HA.out (by simp [impl_common.l1])
               | succ k2 =>
                have H := HA.out
                clear HA
                simp only [impl_common.l1] at H
                by_cases c29 : x7_2 ≥ 0
                ·rw [if_pos c29] at H
                 have c29b0 : decide (0 ≤ x7_2) = true := decide_eq_true c29
                 clear c29
                 by_cases c30 : 0 ≤ x6_1
                 ·rw [if_pos c30] at H
                  have c30b0 : decide (0 ≤ x6_1) = true := decide_eq_true c30
                  clear c30
                  by_cases c31 : x6_1 < (a0.size : Int)
                  ·rw [if_pos c31] at H
                   have c31b0 : decide (x6_1 < (a0.size : Int)) = true := decide_eq_true c31
                   clear c31
                   by_cases c33 : 0 ≤ x7_2
                   ·rw [if_pos c33] at H
                    have c33b0 : decide (0 ≤ x7_2) = true := decide_eq_true c33
                    clear c33
                    by_cases c34 : x7_2 < (a1.size : Int)
                    ·rw [if_pos c34] at H
                     have c34b0 : decide (x7_2 < (a1.size : Int)) = true := decide_eq_true c34
                     clear c34
                     by_cases c36 : (bt a0 x6_1) = (bt a1 x7_2)
                     ·rw [if_pos c36] at H
                      have c36b0 : ((bt a0 x6_1) == (bt a1 x7_2)) = true := beq_iff_eq.mpr c36
                      have c36b1 : ((bt a0 x6_1) != (bt a1 x7_2)) = false := bne_eq_false_iff_eq.mpr c36
                      clear c36
                      by_cases c37 : x6_1 < (x5_2.length : Int)
                      ·rw [if_pos c37] at H
                       have c37b0 : decide (x6_1 < (x5_2.length : Int)) = true := decide_eq_true c37
                       have c37b0hl5_1 := c37b0
                       (try simp only [hl5_1] at c37b0hl5_1)
                       have c37b0hl5_2 := c37b0
                       (try simp only [hl5_2] at c37b0hl5_2)
                       clear c37
                       obtain ⟨ji38, hji38⟩ : ∃ j_ : Int, (wrap64 (x6_1 + 1)) = j_ := ⟨_, rfl⟩
                       replace H : (if 0 ≤ (ji38) then (if (ji38) < (x5_2.length : Int) then (if 0 ≤ (wrap64 (x7_2 + 1)) then (if (wrap64 (x7_2 + 1)) < ((rd_L3 x5_2 (ji38)).length : Int) then (if x7_2 < ((rd_L3 x5_2 x6_1).length : Int) then (impl_common.l1 k2 a0 a1 (x5_2.set (x6_1 : Int).toNat ((rd_L3 x5_2 x6_1).set (x7_2 : Int).toNat (wrap64 ((rd (rd_L3 x5_2 (ji38)) (wrap64 (x7_2 + 1))) + 1)))) x6_1 (wrap64 (x7_2 - 1))) else (none)) else (none)) else (none)) else (none)) else (none)) = some r := by first | (rw [hji38] at H; exact H) | (simp only [hji38] at H ⊢; exact H)
                       have hji38w : (IntKind.i64.wrap (x6_1 + 1)) = ji38 := (i64_w _).trans hji38
                       by_cases c39 : 0 ≤ (ji38)
                       ·rw [if_pos c39] at H
                        have c39b0 : decide (0 ≤ (ji38)) = true := decide_eq_true c39
                        clear c39
                        by_cases c40 : (ji38) < (x5_2.length : Int)
                        ·rw [if_pos c40] at H
                         have c40b0 : decide ((ji38) < (x5_2.length : Int)) = true := decide_eq_true c40
                         have c40b0hl5_1 := c40b0
                         (try simp only [hl5_1] at c40b0hl5_1)
                         have c40b0hl5_2 := c40b0
                         (try simp only [hl5_2] at c40b0hl5_2)
                         clear c40
                         obtain ⟨ji41, hji41⟩ : ∃ j_ : Int, (wrap64 (x7_2 + 1)) = j_ := ⟨_, rfl⟩
                         replace H : (if 0 ≤ (ji41) then (if (ji41) < ((rd_L3 x5_2 (ji38)).length : Int) then (if x7_2 < ((rd_L3 x5_2 x6_1).length : Int) then (impl_common.l1 k2 a0 a1 (x5_2.set (x6_1 : Int).toNat ((rd_L3 x5_2 x6_1).set (x7_2 : Int).toNat (wrap64 ((rd (rd_L3 x5_2 (ji38)) (ji41)) + 1)))) x6_1 (wrap64 (x7_2 - 1))) else (none)) else (none)) else (none)) = some r := by first | (rw [hji41] at H; exact H) | (simp only [hji41] at H ⊢; exact H)
                         have hji41w : (IntKind.i64.wrap (x7_2 + 1)) = ji41 := (i64_w _).trans hji41
                         by_cases c42 : 0 ≤ (ji41)
                         ·rw [if_pos c42] at H
                          have c42b0 : decide (0 ≤ (ji41)) = true := decide_eq_true c42
                          clear c42
                          by_cases c43 : (ji41) < ((rd_L3 x5_2 (ji38)).length : Int)
                          ·rw [if_pos c43] at H
                           have c43b0 : decide ((ji41) < ((rd_L3 x5_2 (ji38)).length : Int)) = true := decide_eq_true c43
                           have c43b0hl5_1 := c43b0
                           (try simp only [hl5_1] at c43b0hl5_1)
                           have c43b0hl5_2 := c43b0
                           (try simp only [hl5_2] at c43b0hl5_2)
                           clear c43
                           by_cases c44 : x7_2 < ((rd_L3 x5_2 x6_1).length : Int)
                           ·rw [if_pos c44] at H
                            have c44b0 : decide (x7_2 < ((rd_L3 x5_2 x6_1).length : Int)) = true := decide_eq_true c44
                            have c44b0hl5_1 := c44b0
                            (try simp only [hl5_1] at c44b0hl5_1)
                            have c44b0hl5_2 := c44b0
                            (try simp only [hl5_2] at c44b0hl5_2)
                            clear c44
                            obtain ⟨y231, hy231⟩ : ∃ y_ : List Int, y_ = ((rd_L3 x5_2 x6_1).set (x7_2 : Int).toNat (wrap64 ((rd (rd_L3 x5_2 (ji38)) (ji41)) + 1))) := ⟨_, rfl⟩
                            replace H : (impl_common.l1 k2 a0 a1 (x5_2.set (x6_1 : Int).toNat y231) x6_1 (wrap64 (x7_2 - 1))) = some r := by first | (rw [hy231]; with_reducible exact H) | (have H2_ := (Option.bind_some _ _).symm.trans H; rw [hy231]; with_reducible exact H2_) | (have H2_ := (Option.bind_some _ _).symm.trans H; with_reducible exact H2_) | with_reducible exact H | (rw [hy231]; exact H) | exact H
                            have Ny231 := Aside0.mk hy231
                            clear hy231
                            obtain ⟨y233, hy233⟩ : ∃ y_ : List (List Int), y_ = (x5_2.set (x6_1 : Int).toNat y231) := ⟨_, rfl⟩
                            replace H : (impl_common.l1 k2 a0 a1 y233 x6_1 (wrap64 (x7_2 - 1))) = some r := by first | (rw [hy233]; with_reducible exact H) | (have H2_ := (Option.bind_some _ _).symm.trans H; rw [hy233]; with_reducible exact H2_) | (have H2_ := (Option.bind_some _ _).symm.trans H; with_reducible exact H2_) | with_reducible exact H | (rw [hy233]; exact H) | exact H
                            have Ny233 := Aside0.mk hy233
                            clear hy233
                            have H' := Aside0.mk H
                            clear H
                            try go_wp2
                            have n0_ := Aside0.mk (Kd.S_drew HO_5.out)
                            have n1_ := Aside0.mk (below_drew1 HB.out)
                            clear HO_5
                            clear HB
                            have HO_5 := n0_
                            have HB := n1_
                            clear n0_ n1_
                            have p32 : 0 ≤ (x6_1 : Int) := of_decide_eq_true z2
                            have q32 : x6_1 < (a0.size : Int) := of_decide_eq_true z2
                            have hx32 := bt_at a0 x6_1
                            replace p32 := eq_true p32
                            replace q32 := eq_true q32
                            have p35 : 0 ≤ (x7_2 : Int) := of_decide_eq_true z2
                            have q35 : x7_2 < (a1.size : Int) := of_decide_eq_true z2
                            have hx35 := bt_at a1 x7_2
                            replace p35 := eq_true p35
                            replace q35 := eq_true q35
                            refine start_ (n := 7) (S := fun w' => True) (ds := []) #[false, false, false, false, false, false, false] z0 rfl rfl trivial (fun hHeld => ?_)
                            generalize wr.drew = w46 at HO_5 HB hHeld ⊢
                            refine pA 0 41 ?_
                            refine pA 1 42 ?_
                            refine pA 3 44 ?_
                            refine pA 4 45 ?_
                            refine tA 2 43 ?_ (hy := by intro w' _; go_simp; with_reducible rfl)
                            refine tA 5 46 ?_ (hy := by intro w' _; go_simp; with_reducible rfl)
                            refine pA 6 47 ?_
                            refine done_ z0 ?_
                            try go_wp2
                            have n0_ := Aside0.mk (Kd.S_drew HO_5.out)
                            have n1_ := Aside0.mk (below_drew1 HB.out)
                            clear HO_5
                            clear HB
                            have HO_5 := n0_
                            have HB := n1_
                            clear n0_ n1_
                            have p228 : 0 ≤ (x6_1 : Int) := of_decide_eq_true z2
                            have q228 : x6_1 < (x5_2.length : Int) := of_decide_eq_true z2
                            obtain ⟨ad228, A228_0, c228_0, e228, hx228_0, hl228_0, hi228_0⟩ := at_L3 (Kd.S_reads' HO_5.out).2.2 x6_1 p228 q228
                            obtain rfl : (⟨go11, 0, none⟩ : Addr) = ad228 := (by injection e228)
                            obtain ⟨ce228, hce228, hMe228, hcc228⟩ := Kd.S_get HO_5.out [] x6_1 p228 (by first | exact q228 | exact of_decide_eq_true z2 | (have e_ := (Kd.S_reads' HO_5.out).1; omega))
                            obtain ⟨ve228_0, rfl, ge228_0⟩ := hMe228
                            have hv228_0 := hcc228 0 _ rfl
                            rw [Nat.add_zero, show ((Kd.slice 3 (Kd.int .i64))).sz = 1 from rfl, Nat.mul_one] at hv228_0
                            replace hv228_0 := Option.some.inj (hv228_0.symm.trans hx228_0)
                            rw [hv228_0] at ge228_0
                            have HL228_0 := Aside0.mk (show Kd.R (Kd.int .i64) 3 _ _ _ _ (rd_L3 x5_2 x6_1) from ge228_0)
                            clear hv228_0 ge228_0
                            have HX228_0 := Aside0.mk hx228_0
                            clear hcc228 hce228
                            (first | simp only [add_plain] at hx228_0 | simp only [add_at] at hx228_0 | simp only [Addr.add, Nat.zero_add] at hx228_0 | skip)
                            have HR228_0 := Aside0.mk hi228_0
                            have HC228_0 := Aside0.mk hl228_0
                            clear hi228_0 hl228_0
                            replace p228 := eq_true p228
                            replace q228 := eq_true q228
                            have p229 : 0 ≤ ((ji38) : Int) := of_decide_eq_true z2
                            have q229 : (ji38) < (x5_2.length : Int) := of_decide_eq_true z2
                            obtain ⟨ad229, A229_0, c229_0, e229, hx229_0, hl229_0, hi229_0⟩ := at_L3 (Kd.S_reads' HO_5.out).2.2 (ji38) p229 q229
                            obtain rfl : (⟨go11, 0, none⟩ : Addr) = ad229 := (by injection e229)
                            obtain ⟨ce229, hce229, hMe229, hcc229⟩ := Kd.S_get HO_5.out [] (ji38) p229 (by first | exact q229 | exact of_decide_eq_true z2 | (have e_ := (Kd.S_reads' HO_5.out).1; omega))
                            obtain ⟨ve229_0, rfl, ge229_0⟩ := hMe229
                            have hv229_0 := hcc229 0 _ rfl
                            rw [Nat.add_zero, show ((Kd.slice 3 (Kd.int .i64))).sz = 1 from rfl, Nat.mul_one] at hv229_0
                            replace hv229_0 := Option.some.inj (hv229_0.symm.trans hx229_0)
                            rw [hv229_0] at ge229_0
                            have HL229_0 := Aside0.mk (show Kd.R (Kd.int .i64) 3 _ _ _ _ (rd_L3 x5_2 (ji38)) from ge229_0)
                            clear hv229_0 ge229_0
                            have HX229_0 := Aside0.mk hx229_0
                            clear hcc229 hce229
                            (first | simp only [add_plain] at hx229_0 | simp only [add_at] at hx229_0 | simp only [Addr.add, Nat.zero_add] at hx229_0 | skip)
                            have HR229_0 := Aside0.mk hi229_0
                            have HC229_0 := Aside0.mk hl229_0
                            clear hi229_0 hl229_0
                            replace p229 := eq_true p229
                            replace q229 := eq_true q229
                            have p230 : 0 ≤ ((ji41) : Int) := of_decide_eq_true z2
                            have q230 : (ji41) < ((rd_L3 x5_2 (ji38)).length : Int) := of_decide_eq_true z2
                            obtain ⟨ad230, e230, hx230_0⟩ := Kd.at_int (by repeat (first | (with_reducible exact HR229_0.out) | (with_reducible refine Kd.C_alloc ?_ _) | (with_reducible refine Kd.C_drewN ?_ _) | (with_reducible refine Kd.C_drew ?_) | exact HR229_0.out)) (ji41) p230 q230
                            cases e230
                            replace p230 := eq_true p230
                            replace q230 := eq_true q230
                            have p45 : 0 ≤ (x7_2 : Int) := of_decide_eq_true z2
                            have q45 : (x7_2 : Int) < (((rd_L3 x5_2 x6_1).length : Int) : Int) := of_decide_eq_true z2
                            obtain ⟨go45, co45, eo45, gb45, gl45, cl45, HG45⟩ := Kd.R_form HL228_0.out (by omega)
                            (first | cases eo45 | (injection eo45 with ea_ en_ ec_; (first | subst ea_ | (injection ea_ with ea_; subst ea_)); subst ec_; clear en_))
                            have GB45 := Aside0.mk gb45
                            have GG45 := Aside0.mk HG45
                            clear gb45 gl45 HG45
                            obtain ⟨hx45_0, hf45_0⟩ := Kd.R_celln 0 HL228_0.out (x7_2 : Int) p45 q45
                            replace p45 := eq_true p45
                            replace q45 := eq_true q45
                            have hq48 : (x6_1 : Int) < (x5_2.length : Int) := (by have h_ : (x6_1 : Int) < ((x5_2.length : Int) : Int) := of_decide_eq_true z2; first | exact h_ | (have e_ := (Kd.S_reads' HO_5.out).1; omega) | simpa only [List.length_set, List.length_set] using h_)
                            obtain ⟨oki48, ce48, hcl48, hM48, hcc48, hok48, hbk48⟩ := Kd.S_borrow HO_5.out [] (x6_1 : Int) (of_decide_eq_true z2) hq48
                            obtain ⟨ve48_0, rfl, ge48_0⟩ := hM48
                            have hv48 := hcc48 0 _ rfl
                            rw [Nat.add_zero, show ((Kd.slice 3 (Kd.int .i64))).sz = 1 from rfl, Nat.mul_one] at hv48
                            replace hv48 := Option.some.inj (hv48.symm.trans HX228_0.out)
                            subst hv48
                            clear hcc48 hcl48
                            replace ge48_0 := (show Kd.R (Kd.int .i64) 3 _ _ _ _ (rd_L3 x5_2 x6_1) from ge48_0)
                            have HP48 := Kd.R_putg ge48_0 (x7_2 : Int) (wrap64 ((rd (rd_L3 x5_2 (ji38)) (ji41)) + 1))
                            rw [← Ny231.out] at HP48
                            have HS48 := hbk48 HP48.2 (fun k_ e_ => by injection e_ with e_; subst e_; exact ge48_0.1 _ rfl) (x' := y231) (Kd.M_row HP48.1)
                            rw [← Ny233.out] at HS48
                            have HQ48 := Aside0.mk HS48
                            clear HP48 HS48 hbk48 hok48
                            refine start_ (n := 17) (S := fun w' => w'.cell? ⟨go11, (x6_1).toNat, none⟩ = some (.slice (some ⟨go45, 0, none⟩) (rd_L3 x5_2 x6_1).length c228_0) ∧ w'.cell? ⟨go11, ((ji38)).toNat, none⟩ = some (.slice (some ad230) (rd_L3 x5_2 (ji38)).length c229_0) ∧ w'.cell? (ad230.add ((ji41)).toNat) = some (.int .i64 (rd (rd_L3 x5_2 (ji38)) (ji41)))) (ds := [16]) #[false, false, false, false, false, false, false, false, false, false, false, false, false, false, false, false, false] z0 rfl rfl ⟨hx228_0, hx229_0, hx230_0⟩ (fun hHeld => ?_); refine with_tabW impl_common.tab11 impl_common.bits11 (fun HT_ HW_ => ?_)
                            generalize w46.drew = w47 at HO_5 HB GG45 HL228_0 HL229_0 HQ48 HR228_0 HR229_0 HX228_0 HX229_0 hf45_0 hx228_0 hx229_0 hx230_0 hx45_0 hHeld ⊢
                            refine pA 0 48 ?_
                            refine pA 1 49 ?_
                            refine pA 2 50 ?_
                            refine pA 4 52 ?_
                            refine pA 5 53 ?_
                            refine pA 6 54 ?_
                            refine pA 7 55 ?_
                            refine pA 8 56 ?_
                            refine pA 10 58 ?_
                            refine pA 11 59 ?_
                            refine tA 3 51 ?_ (hy := by rintro w' ⟨s0, s1, s2⟩; go_simp; with_reducible rfl)
                            refine tA 9 57 ?_ (hy := by rintro w' ⟨s0, s1, s2⟩; go_simp; with_reducible rfl)
                            refine pA 12 60 ?_
                            refine tA 13 61 ?_ (hy := by rintro w' ⟨s0, s1, s2⟩; go_simp; with_reducible rfl)
                            refine pA 14 62 ?_
                            refine pA 15 63 ?_
                            refine last_ (i := 16) (N := none) #[true, true, true, true, true, true, true, true, true, true, true, true, true, true, true, true, true] rfl rfl (one_of HT_.out z0) (by decide) (fun K hK => ?_)
                            refine skip_ (w1 := ?_) (by rfl) rfl ?_ ?_
                            rotate_left
                            ·go_simp
                             rfl
                            refine hK.out _ _ ?_
                            clear hK K
                            refine done_ (done_of HT_.out z0) ?_
                            try go_wp2
                            (try simp only [← hl5_2])
                            go_roundg k2
                            case measure => have := HK1.out; have := HK2.out; omega
                            case rel => exact ⟨(y233), (wrap64 (x7_2 - 1)), z1, (by first | exact H' | (simp only [hji3, hji6, hji19, hji38, hji41]; exact H') | (simp only [← hji3, ← hji6, ← hji19, ← hji38, ← hji41]; exact H')), ⟨by have := HK1.out; have := HK2.out; omega⟩, ⟨by (try simp only [hl5_1]); (try simp only [hl5_2]); (with_reducible repeat (first | apply Kd.S_alloc | apply Kd.S_drewN | apply Kd.S_drew)); exact HQ48.out⟩, ⟨by repeat (first | (with_reducible first | exact HB.out | apply below_alloc | apply pw_below_drewN | apply below_drew1 | refine below_set ?_ GB45.out) | exact HB.out)⟩⟩
                           ·rw [if_neg c44] at H
                            exact absurd H (by simp)
                          ·rw [if_neg c43] at H
                           exact absurd H (by simp)
                         ·rw [if_neg c42] at H
                          exact absurd H (by simp)
                        ·rw [if_neg c40] at H
                         exact absurd H (by simp)
                       ·rw [if_neg c39] at H
                        exact absurd H (by simp)
                      ·rw [if_neg c37] at H
                       exact absurd H (by simp)
                     ·rw [if_neg c36] at H
                      have c36b0 : ((bt a0 x6_1) == (bt a1 x7_2)) = false := beq_eq_false_iff_ne.mpr c36
                      have c36b1 : ((bt a0 x6_1) != (bt a1 x7_2)) = true := bne_iff_ne.mpr c36
                      by_cases c50 : x6_1 < (x5_2.length : Int)
                      ·rw [if_pos c50] at H
                       have c50b0 : decide (x6_1 < (x5_2.length : Int)) = true := decide_eq_true c50
                       have c50b0hl5_1 := c50b0
                       (try simp only [hl5_1] at c50b0hl5_1)
                       have c50b0hl5_2 := c50b0
                       (try simp only [hl5_2] at c50b0hl5_2)
                       clear c50
                       obtain ⟨ji51, hji51⟩ : ∃ j_ : Int, (wrap64 (x6_1 + 1)) = j_ := ⟨_, rfl⟩
                       replace H : (if 0 ≤ (ji51) then (if (ji51) < (x5_2.length : Int) then (if x7_2 < ((rd_L3 x5_2 (ji51)).length : Int) then (if 0 ≤ (wrap64 (x7_2 + 1)) then (if (wrap64 (x7_2 + 1)) < ((rd_L3 x5_2 x6_1).length : Int) then (if x7_2 < ((rd_L3 x5_2 x6_1).length : Int) then (impl_common.l1 k2 a0 a1 (x5_2.set (x6_1 : Int).toNat ((rd_L3 x5_2 x6_1).set (x7_2 : Int).toNat (mx (rd (rd_L3 x5_2 (ji51)) x7_2) (rd (rd_L3 x5_2 x6_1) (wrap64 (x7_2 + 1)))))) x6_1 (wrap64 (x7_2 - 1))) else (none)) else (none)) else (none)) else (none)) else (none)) else (none)) = some r := by first | (rw [hji51] at H; exact H) | (simp only [hji51] at H ⊢; exact H)
                       have hji51w : (IntKind.i64.wrap (x6_1 + 1)) = ji51 := (i64_w _).trans hji51
                       by_cases c52 : 0 ≤ (ji51)
                       ·rw [if_pos c52] at H
                        have c52b0 : decide (0 ≤ (ji51)) = true := decide_eq_true c52
                        clear c52
                        by_cases c53 : (ji51) < (x5_2.length : Int)
                        ·rw [if_pos c53] at H
                         have c53b0 : decide ((ji51) < (x5_2.length : Int)) = true := decide_eq_true c53
                         have c53b0hl5_1 := c53b0
                         (try simp only [hl5_1] at c53b0hl5_1)
                         have c53b0hl5_2 := c53b0
                         (try simp only [hl5_2] at c53b0hl5_2)
                         clear c53
                         by_cases c54 : x7_2 < ((rd_L3 x5_2 (ji51)).length : Int)
                         ·rw [if_pos c54] at H
                          have c54b0 : decide (x7_2 < ((rd_L3 x5_2 (ji51)).length : Int)) = true := decide_eq_true c54
                          have c54b0hl5_1 := c54b0
                          (try simp only [hl5_1] at c54b0hl5_1)
                          have c54b0hl5_2 := c54b0
                          (try simp only [hl5_2] at c54b0hl5_2)
                          clear c54
                          obtain ⟨ji55, hji55⟩ : ∃ j_ : Int, (wrap64 (x7_2 + 1)) = j_ := ⟨_, rfl⟩
                          replace H : (if 0 ≤ (ji55) then (if (ji55) < ((rd_L3 x5_2 x6_1).length : Int) then (if x7_2 < ((rd_L3 x5_2 x6_1).length : Int) then (impl_common.l1 k2 a0 a1 (x5_2.set (x6_1 : Int).toNat ((rd_L3 x5_2 x6_1).set (x7_2 : Int).toNat (mx (rd (rd_L3 x5_2 (ji51)) x7_2) (rd (rd_L3 x5_2 x6_1) (ji55))))) x6_1 (wrap64 (x7_2 - 1))) else (none)) else (none)) else (none)) = some r := by first | (rw [hji55] at H; exact H) | (simp only [hji55] at H ⊢; exact H)
                          have hji55w : (IntKind.i64.wrap (x7_2 + 1)) = ji55 := (i64_w _).trans hji55
                          by_cases c56 : 0 ≤ (ji55)
                          ·rw [if_pos c56] at H
                           have c56b0 : decide (0 ≤ (ji55)) = true := decide_eq_true c56
                           clear c56
                           by_cases c57 : (ji55) < ((rd_L3 x5_2 x6_1).length : Int)
                           ·rw [if_pos c57] at H
                            have c57b0 : decide ((ji55) < ((rd_L3 x5_2 x6_1).length : Int)) = true := decide_eq_true c57
                            have c57b0hl5_1 := c57b0
                            (try simp only [hl5_1] at c57b0hl5_1)
                            have c57b0hl5_2 := c57b0
                            (try simp only [hl5_2] at c57b0hl5_2)
                            clear c57
                            obtain ⟨ji58, hji58⟩ : ∃ j_ : Int, (mx (rd (rd_L3 x5_2 (ji51)) x7_2) (rd (rd_L3 x5_2 x6_1) (ji55))) = j_ := ⟨_, rfl⟩
                            replace H : (if x7_2 < ((rd_L3 x5_2 x6_1).length : Int) then (impl_common.l1 k2 a0 a1 (x5_2.set (x6_1 : Int).toNat ((rd_L3 x5_2 x6_1).set (x7_2 : Int).toNat (ji58))) x6_1 (wrap64 (x7_2 - 1))) else (none)) = some r := by first | (rw [hji58] at H; exact H) | (simp only [hji58] at H ⊢; exact H)
                            have hji58_ : (if (rd (rd_L3 x5_2 (ji51)) x7_2) < (rd (rd_L3 x5_2 x6_1) (ji55)) then (rd (rd_L3 x5_2 x6_1) (ji55)) else (rd (rd_L3 x5_2 (ji51)) x7_2)) = ji58 := hji58
                            by_cases c59 : x7_2 < ((rd_L3 x5_2 x6_1).length : Int)
                            ·rw [if_pos c59] at H
                             have c59b0 : decide (x7_2 < ((rd_L3 x5_2 x6_1).length : Int)) = true := decide_eq_true c59
                             have c59b0hl5_1 := c59b0
                             (try simp only [hl5_1] at c59b0hl5_1)
                             have c59b0hl5_2 := c59b0
                             (try simp only [hl5_2] at c59b0hl5_2)
                             clear c59
                             obtain ⟨y239, hy239⟩ : ∃ y_ : List Int, y_ = ((rd_L3 x5_2 x6_1).set (x7_2 : Int).toNat (ji58)) := ⟨_, rfl⟩
                             replace H : (impl_common.l1 k2 a0 a1 (x5_2.set (x6_1 : Int).toNat y239) x6_1 (wrap64 (x7_2 - 1))) = some r := by first | (rw [hy239]; with_reducible exact H) | (have H2_ := (Option.bind_some _ _).symm.trans H; rw [hy239]; with_reducible exact H2_) | (have H2_ := (Option.bind_some _ _).symm.trans H; with_reducible exact H2_) | with_reducible exact H | (rw [hy239]; exact H) | exact H
                             have Ny239 := Aside0.mk hy239
                             clear hy239
                             obtain ⟨y241, hy241⟩ : ∃ y_ : List (List Int), y_ = (x5_2.set (x6_1 : Int).toNat y239) := ⟨_, rfl⟩
                             replace H : (impl_common.l1 k2 a0 a1 y241 x6_1 (wrap64 (x7_2 - 1))) = some r := by first | (rw [hy241]; with_reducible exact H) | (have H2_ := (Option.bind_some _ _).symm.trans H; rw [hy241]; with_reducible exact H2_) | (have H2_ := (Option.bind_some _ _).symm.trans H; with_reducible exact H2_) | with_reducible exact H | (rw [hy241]; exact H) | exact H
                             have Ny241 := Aside0.mk hy241
                             clear hy241
                             have H' := Aside0.mk H
                             clear H
                             try go_wp2
                             have n0_ := Aside0.mk (Kd.S_drew HO_5.out)
                             have n1_ := Aside0.mk (below_drew1 HB.out)
                             clear HO_5
                             clear HB
                             have HO_5 := n0_
                             have HB := n1_
                             clear n0_ n1_
                             have p32 : 0 ≤ (x6_1 : Int) := of_decide_eq_true z2
                             have q32 : x6_1 < (a0.size : Int) := of_decide_eq_true z2
                             have hx32 := bt_at a0 x6_1
                             replace p32 := eq_true p32
                             replace q32 := eq_true q32
                             have p35 : 0 ≤ (x7_2 : Int) := of_decide_eq_true z2
                             have q35 : x7_2 < (a1.size : Int) := of_decide_eq_true z2
                             have hx35 := bt_at a1 x7_2
                             replace p35 := eq_true p35
                             replace q35 := eq_true q35
                             refine start_ (n := 7) (S := fun w' => True) (ds := []) #[false, false, false, false, false, false, false] z0 rfl rfl trivial (fun hHeld => ?_)
                             generalize wr.drew = w61 at HO_5 HB hHeld ⊢
                             refine pA 0 41 ?_
                             refine pA 1 42 ?_
                             refine pA 3 44 ?_
                             refine pA 4 45 ?_
                             refine tA 2 43 ?_ (hy := by intro w' _; go_simp; with_reducible rfl)
                             refine tA 5 46 ?_ (hy := by intro w' _; go_simp; with_reducible rfl)
                             refine pA 6 47 ?_
                             refine done_ z0 ?_
                             try go_wp2
                             have n0_ := Aside0.mk (Kd.S_drew HO_5.out)
                             have n1_ := Aside0.mk (below_drew1 HB.out)
                             clear HO_5
                             clear HB
                             have HO_5 := n0_
                             have HB := n1_
                             clear n0_ n1_
                             have p234 : 0 ≤ (x6_1 : Int) := of_decide_eq_true z2
                             have q234 : x6_1 < (x5_2.length : Int) := of_decide_eq_true z2
                             obtain ⟨ad234, A234_0, c234_0, e234, hx234_0, hl234_0, hi234_0⟩ := at_L3 (Kd.S_reads' HO_5.out).2.2 x6_1 p234 q234
                             obtain rfl : (⟨go11, 0, none⟩ : Addr) = ad234 := (by injection e234)
                             obtain ⟨ce234, hce234, hMe234, hcc234⟩ := Kd.S_get HO_5.out [] x6_1 p234 (by first | exact q234 | exact of_decide_eq_true z2 | (have e_ := (Kd.S_reads' HO_5.out).1; omega))
                             obtain ⟨ve234_0, rfl, ge234_0⟩ := hMe234
                             have hv234_0 := hcc234 0 _ rfl
                             rw [Nat.add_zero, show ((Kd.slice 3 (Kd.int .i64))).sz = 1 from rfl, Nat.mul_one] at hv234_0
                             replace hv234_0 := Option.some.inj (hv234_0.symm.trans hx234_0)
                             rw [hv234_0] at ge234_0
                             have HL234_0 := Aside0.mk (show Kd.R (Kd.int .i64) 3 _ _ _ _ (rd_L3 x5_2 x6_1) from ge234_0)
                             clear hv234_0 ge234_0
                             have HX234_0 := Aside0.mk hx234_0
                             clear hcc234 hce234
                             (first | simp only [add_plain] at hx234_0 | simp only [add_at] at hx234_0 | simp only [Addr.add, Nat.zero_add] at hx234_0 | skip)
                             have HR234_0 := Aside0.mk hi234_0
                             have HC234_0 := Aside0.mk hl234_0
                             clear hi234_0 hl234_0
                             replace p234 := eq_true p234
                             replace q234 := eq_true q234
                             have p235 : 0 ≤ ((ji51) : Int) := of_decide_eq_true z2
                             have q235 : (ji51) < (x5_2.length : Int) := of_decide_eq_true z2
                             obtain ⟨ad235, A235_0, c235_0, e235, hx235_0, hl235_0, hi235_0⟩ := at_L3 (Kd.S_reads' HO_5.out).2.2 (ji51) p235 q235
                             obtain rfl : (⟨go11, 0, none⟩ : Addr) = ad235 := (by injection e235)
                             obtain ⟨ce235, hce235, hMe235, hcc235⟩ := Kd.S_get HO_5.out [] (ji51) p235 (by first | exact q235 | exact of_decide_eq_true z2 | (have e_ := (Kd.S_reads' HO_5.out).1; omega))
                             obtain ⟨ve235_0, rfl, ge235_0⟩ := hMe235
                             have hv235_0 := hcc235 0 _ rfl
                             rw [Nat.add_zero, show ((Kd.slice 3 (Kd.int .i64))).sz = 1 from rfl, Nat.mul_one] at hv235_0
                             replace hv235_0 := Option.some.inj (hv235_0.symm.trans hx235_0)
                             rw [hv235_0] at ge235_0
                             have HL235_0 := Aside0.mk (show Kd.R (Kd.int .i64) 3 _ _ _ _ (rd_L3 x5_2 (ji51)) from ge235_0)
                             clear hv235_0 ge235_0
                             have HX235_0 := Aside0.mk hx235_0
                             clear hcc235 hce235
                             (first | simp only [add_plain] at hx235_0 | simp only [add_at] at hx235_0 | simp only [Addr.add, Nat.zero_add] at hx235_0 | skip)
                             have HR235_0 := Aside0.mk hi235_0
                             have HC235_0 := Aside0.mk hl235_0
                             clear hi235_0 hl235_0
                             replace p235 := eq_true p235
                             replace q235 := eq_true q235
                             have p236 : 0 ≤ (x7_2 : Int) := of_decide_eq_true z2
                             have q236 : x7_2 < ((rd_L3 x5_2 (ji51)).length : Int) := of_decide_eq_true z2
                             obtain ⟨ad236, e236, hx236_0⟩ := Kd.at_int (by repeat (first | (with_reducible exact HR235_0.out) | (with_reducible refine Kd.C_alloc ?_ _) | (with_reducible refine Kd.C_drewN ?_ _) | (with_reducible refine Kd.C_drew ?_) | exact HR235_0.out)) x7_2 p236 q236
                             cases e236
                             replace p236 := eq_true p236
                             replace q236 := eq_true q236
                             have p237 : 0 ≤ (x6_1 : Int) := of_decide_eq_true z2
                             have q237 : x6_1 < (x5_2.length : Int) := of_decide_eq_true z2
                             obtain ⟨ad237, A237_0, c237_0, e237, hx237_0, hl237_0, hi237_0⟩ := at_L3 (Kd.S_reads' HO_5.out).2.2 x6_1 p237 q237
                             obtain rfl : (⟨go11, 0, none⟩ : Addr) = ad237 := (by injection e237)
                             obtain ⟨ce237, hce237, hMe237, hcc237⟩ := Kd.S_get HO_5.out [] x6_1 p237 (by first | exact q237 | exact of_decide_eq_true z2 | (have e_ := (Kd.S_reads' HO_5.out).1; omega))
                             obtain ⟨ve237_0, rfl, ge237_0⟩ := hMe237
                             have hv237_0 := hcc237 0 _ rfl
                             rw [Nat.add_zero, show ((Kd.slice 3 (Kd.int .i64))).sz = 1 from rfl, Nat.mul_one] at hv237_0
                             replace hv237_0 := Option.some.inj (hv237_0.symm.trans hx237_0)
                             rw [hv237_0] at ge237_0
                             have HL237_0 := Aside0.mk (show Kd.R (Kd.int .i64) 3 _ _ _ _ (rd_L3 x5_2 x6_1) from ge237_0)
                             clear hv237_0 ge237_0
                             have HX237_0 := Aside0.mk hx237_0
                             clear hcc237 hce237
                             (first | simp only [add_plain] at hx237_0 | simp only [add_at] at hx237_0 | simp only [Addr.add, Nat.zero_add] at hx237_0 | skip)
                             have HR237_0 := Aside0.mk hi237_0
                             have HC237_0 := Aside0.mk hl237_0
                             clear hi237_0 hl237_0
                             replace p237 := eq_true p237
                             replace q237 := eq_true q237
                             have ea_ := Option.some.inj (hx234_0.symm.trans hx237_0)
                             injection ea_ with ea_ en_ ec_
                             subst ea_
                             subst ec_
                             clear en_
                             have p238 : 0 ≤ ((ji55) : Int) := of_decide_eq_true z2
                             have q238 : (ji55) < ((rd_L3 x5_2 x6_1).length : Int) := of_decide_eq_true z2
                             obtain ⟨ad238, e238, hx238_0⟩ := Kd.at_int (by repeat (first | (with_reducible exact HR237_0.out) | (with_reducible refine Kd.C_alloc ?_ _) | (with_reducible refine Kd.C_drewN ?_ _) | (with_reducible refine Kd.C_drew ?_) | exact HR237_0.out)) (ji55) p238 q238
                             cases e238
                             replace p238 := eq_true p238
                             replace q238 := eq_true q238
                             have p60 : 0 ≤ (x7_2 : Int) := of_decide_eq_true z2
                             have q60 : (x7_2 : Int) < (((rd_L3 x5_2 x6_1).length : Int) : Int) := of_decide_eq_true z2
                             obtain ⟨go60, co60, eo60, gb60, gl60, cl60, HG60⟩ := Kd.R_form HL234_0.out (by omega)
                             (first | cases eo60 | (injection eo60 with ea_ en_ ec_; (first | subst ea_ | (injection ea_ with ea_; subst ea_)); subst ec_; clear en_))
                             have GB60 := Aside0.mk gb60
                             have GG60 := Aside0.mk HG60
                             clear gb60 gl60 HG60
                             (first | simp only [add_plain] at hx238_0 | skip)
                             obtain ⟨hx60_0, hf60_0⟩ := Kd.R_celln 0 HL234_0.out (x7_2 : Int) p60 q60
                             replace p60 := eq_true p60
                             replace q60 := eq_true q60
                             have hq63 : (x6_1 : Int) < (x5_2.length : Int) := (by have h_ : (x6_1 : Int) < ((x5_2.length : Int) : Int) := of_decide_eq_true z2; first | exact h_ | (have e_ := (Kd.S_reads' HO_5.out).1; omega) | simpa only [List.length_set, List.length_set] using h_)
                             obtain ⟨oki63, ce63, hcl63, hM63, hcc63, hok63, hbk63⟩ := Kd.S_borrow HO_5.out [] (x6_1 : Int) (of_decide_eq_true z2) hq63
                             obtain ⟨ve63_0, rfl, ge63_0⟩ := hM63
                             have hv63 := hcc63 0 _ rfl
                             rw [Nat.add_zero, show ((Kd.slice 3 (Kd.int .i64))).sz = 1 from rfl, Nat.mul_one] at hv63
                             replace hv63 := Option.some.inj (hv63.symm.trans HX234_0.out)
                             subst hv63
                             clear hcc63 hcl63
                             replace ge63_0 := (show Kd.R (Kd.int .i64) 3 _ _ _ _ (rd_L3 x5_2 x6_1) from ge63_0)
                             have HP63 := Kd.R_putg ge63_0 (x7_2 : Int) ji58
                             rw [← Ny239.out] at HP63
                             have HS63 := hbk63 HP63.2 (fun k_ e_ => by injection e_ with e_; subst e_; exact ge63_0.1 _ rfl) (x' := y239) (Kd.M_row HP63.1)
                             rw [← Ny241.out] at HS63
                             have HQ63 := Aside0.mk HS63
                             clear HP63 HS63 hbk63 hok63
                             refine start_ (n := 24) (S := fun w' => w'.cell? ⟨go11, (x6_1).toNat, none⟩ = some (.slice (some ⟨go60, 0, none⟩) (rd_L3 x5_2 x6_1).length c234_0) ∧ w'.cell? ⟨go11, ((ji51)).toNat, none⟩ = some (.slice (some ad236) (rd_L3 x5_2 (ji51)).length c235_0) ∧ w'.cell? (ad236.add (x7_2).toNat) = some (.int .i64 (rd (rd_L3 x5_2 (ji51)) x7_2)) ∧ w'.cell? ⟨go11, (x6_1).toNat, none⟩ = some (.slice (some ⟨go60, 0, none⟩) (rd_L3 x5_2 x6_1).length c234_0) ∧ w'.cell? ⟨go60, ((ji55)).toNat, none⟩ = some (.int .i64 (rd (rd_L3 x5_2 x6_1) (ji55)))) (ds := [23]) #[false, false, false, false, false, false, false, false, false, false, false, false, false, false, false, false, false, false, false, false, false, false, false, false] z0 rfl rfl ⟨hx234_0, hx235_0, hx236_0, hx237_0, hx238_0⟩ (fun hHeld => ?_); refine with_tabW impl_common.tab12 impl_common.bits12 (fun HT_ HW_ => ?_)
                             generalize w61.drew = w62 at HO_5 HB GG60 HL234_0 HL235_0 HL237_0 HQ63 HR234_0 HR235_0 HR237_0 HX234_0 HX235_0 HX237_0 hf60_0 hx234_0 hx235_0 hx236_0 hx237_0 hx238_0 hx60_0 hHeld ⊢
                             refine pA 0 64 ?_
                             refine pA 1 65 ?_
                             refine pA 2 66 ?_
                             refine pA 4 68 ?_
                             refine pA 5 69 ?_
                             refine pA 6 70 ?_
                             refine pA 7 71 ?_
                             refine pA 8 72 ?_
                             refine pA 10 74 ?_
                             refine pA 13 77 ?_
                             refine pA 14 78 ?_
                             refine pA 15 79 ?_
                             refine pA 17 81 ?_
                             refine pA 18 82 ?_
                             refine tA 3 67 ?_ (hy := by rintro w' ⟨s0, s1, s2, s3, s4⟩; go_simp; with_reducible rfl)
                             refine tA 9 73 ?_ (hy := by rintro w' ⟨s0, s1, s2, s3, s4⟩; go_simp; with_reducible rfl)
                             refine pA 11 75 ?_
                             refine tA 12 76 ?_ (hy := by rintro w' ⟨s0, s1, s2, s3, s4⟩; go_simp; with_reducible rfl)
                             refine tA 16 80 ?_ (hy := by rintro w' ⟨s0, s1, s2, s3, s4⟩; go_simp; with_reducible rfl)
                             refine pA 19 83 ?_
                             refine tA 20 84 ?_ (hy := by rintro w' ⟨s0, s1, s2, s3, s4⟩; go_simp; with_reducible rfl)
                             refine pA 21 85 ?_
                             refine pA 22 86 ?_
                             refine last_ (i := 23) (N := none) #[true, true, true, true, true, true, true, true, true, true, true, true, true, true, true, true, true, true, true, true, true, true, true, true] rfl rfl (one_of HT_.out z0) (by decide) (fun K hK => ?_)
                             refine skip_ (w1 := ?_) (by rfl) rfl ?_ ?_
                             rotate_left
                             ·go_simp
                              rfl
                             refine hK.out _ _ ?_
                             clear hK K
                             refine done_ (done_of HT_.out z0) ?_
                             try go_wp2
                             (try simp only [← hl5_2])
                             go_roundg k2
                             case measure => have := HK1.out; have := HK2.out; omega
                             case rel => exact ⟨(y241), (wrap64 (x7_2 - 1)), z1, (by first | exact H' | (simp only [hji3, hji6, hji19, hji51, hji55, hji58]; exact H') | (simp only [← hji3, ← hji6, ← hji19, ← hji51, ← hji55, ← hji58]; exact H')), ⟨by have := HK1.out; have := HK2.out; omega⟩, ⟨by (try simp only [hl5_1]); (try simp only [hl5_2]); (with_reducible repeat (first | apply Kd.S_alloc | apply Kd.S_drewN | apply Kd.S_drew)); exact HQ63.out⟩, ⟨by repeat (first | (with_reducible first | exact HB.out | apply below_alloc | apply pw_below_drewN | apply below_drew1 | refine below_set ?_ GB60.out) | exact HB.out)⟩⟩
                            ·rw [if_neg c59] at H
                             exact absurd H (by simp)
                           ·rw [if_neg c57] at H
                            exact absurd H (by simp)
                          ·rw [if_neg c56] at H
                           exact absurd H (by simp)
                         ·rw [if_neg c54] at H
                          exact absurd H (by simp)
                        ·rw [if_neg c53] at H
                         exact absurd H (by simp)
                       ·rw [if_neg c52] at H
                        exact absurd H (by simp)
                      ·rw [if_neg c50] at H
                       exact absurd H (by simp)
                    ·rw [if_neg c34] at H
                     exact absurd H (by simp)
                   ·rw [if_neg c33] at H
                    exact absurd H (by simp)
                  ·rw [if_neg c31] at H
                   exact absurd H (by simp)
                 ·rw [if_neg c30] at H
                  exact absurd H (by simp)
                ·rw [if_neg c29] at H
                 have c29b0 : decide (0 ≤ x7_2) = false := decide_eq_false c29
                 clear c29
                 have H' := Aside0.mk H
                 clear H
                 go_wp2
                 (try simp only [← hl5_1, ← hl5_2])
                 go_roundg k2
                 case measure => have := HK1.out; have := HK2.out; omega
                 case rel => exact ⟨(x5_2), (wrap64 (x6_1 - 1)), z1, (by first | exact H' | (simp only [hji3, hji6, hji19]; exact H') | (simp only [← hji3, ← hji6, ← hji19]; exact H')), ⟨by have := HK1.out; have := HK2.out; omega⟩, ⟨by (try simp only [hl5_1]); (try simp only [hl5_2]); (with_reducible repeat (first | apply Kd.S_alloc | apply Kd.S_drewN | apply Kd.S_drew)); exact HO_5.out⟩, ⟨by repeat (first | (with_reducible first | exact HB.out | apply below_alloc | apply pw_below_drewN | apply below_drew1) | exact HB.out)⟩⟩
             ·rw [if_neg c23] at H
              exact absurd H (by simp)
            ·rw [if_neg c22] at H
             exact absurd H (by simp)
           ·rw [if_neg c21] at H
            exact absurd H (by simp)
          ·rw [if_neg c20] at H
           exact absurd H (by simp)
         ·rw [if_neg c18] at H
          have c18b0 : decide (0 ≤ x6_1) = false := decide_eq_false c18
          clear c18
          obtain rfl := Option.some.inj H
          go_wp2
          go_ret
          exact ⟨_, by first | rfl | (simp [errW_none, errW_some] <;> rfl) | (simp only [← hji3, ← hji6]; first | rfl | (simp [errW_none, errW_some] <;> rfl)) | (simp [*, errW_none, errW_some] <;> rfl), by (with_reducible repeat (first | apply Kd.S_alloc | apply Kd.S_drewN | apply Kd.S_drew)); exact HO_5.out, by repeat (first | (with_reducible first | exact HB.out | apply below_alloc | apply pw_below_drewN | apply below_drew1) | exact HB.out)⟩
      ·rw [if_neg c10] at H
       exact absurd H (by simp)
     ·rw [if_neg c9] at H
      exact absurd H (by simp)
    ·rw [if_neg c8] at H
     exact absurd H (by simp)
   ·rw [if_neg c7] at H
    exact absurd H (by simp)
  ·rw [if_neg c5] at H
   exact absurd H (by simp)
 ·rw [if_neg c4] at H
  exact absurd H (by simp)

end Go.Proofs.Ytpbelbckinpinaa.AFnDiff
