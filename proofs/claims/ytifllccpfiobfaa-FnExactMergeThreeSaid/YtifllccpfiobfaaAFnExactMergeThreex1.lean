-- this session's own text: written by wip/tools/ownprint.py over the kit's print
import Derived.Test.YtifllccpfiobfaaAFnExactMergeThreex0
namespace Go.Proofs.Ytifllccpfiobfaa.AFnExactMergeThree
open Go.RowKit Go.Proofs.YtifllccpfiobfaaW.PrintWords Go.Proofs.YtifllccpfiobfaaW.PrintLast Go.Proofs.YtifllccpfiobfaaW.PrintMore
attribute [local go_sem] max2_int min2_int max_two min_two max_three min_three max_four min_four   -- for this text's walks alone
set_option linter.unusedVariables false
set_option linter.unusedSimpArgs false

/-! ### spec_l1Open: function 37 -/
def spec_l1Open.f (a0 : Int) : Option (Bool) := if a0 ≥ 65 then (some (decide (a0 ≤ 70))) else (some false)
set_option maxHeartbeats 8000000 in
set_option maxRecDepth 100000 in
theorem spec_l1Open.calls (a0 : Int) (r : Bool) (w : World) (h : spec_l1Open.f a0 = some r) :
  Calls Try.prog 37 #[.int .u8 a0] w fun e w' => e = .returned (.bool r) ∧ Drawn0 w w' := by
 have H : (if a0 ≥ 65 then (some (decide (a0 ≤ 70))) else (some false)) = some r := h
 clear h
 by_cases c2 : a0 ≥ 65
 ·rw [if_pos c2] at H
  have c2b0 : decide (65 ≤ a0) = true := dT c2
  clear c2
  obtain rfl := sI H
  go_enter Try.func37, Try.ntmps37
  go_wp2
  go_ret
  exact ⟨y2, y3⟩
 ·rw [if_neg c2] at H
  have c2b0 : decide (65 ≤ a0) = false := dF c2
  clear c2
  obtain rfl := sI H
  go_enter Try.func37, Try.ntmps37
  go_wp2
  go_ret
  exact ⟨y2, y3⟩

/-! ### spec_l1Plain: function 38 -/
def spec_l1Plain.f (a0 : Int) : Option (Bool) := if a0 ≥ 97 then (if a0 ≤ 122 then (some true) else (if a0 ≥ 48 then (if a0 ≤ 57 then (some true) else (if a0 = 32 then (some true) else (if a0 = 46 then (some true) else (some (a0 == 44))))) else (if a0 = 32 then (some true) else (if a0 = 46 then (some true) else (some (a0 == 44)))))) else (if a0 ≥ 48 then (if a0 ≤ 57 then (some true) else (if a0 = 32 then (some true) else (if a0 = 46 then (some true) else (some (a0 == 44))))) else (if a0 = 32 then (some true) else (if a0 = 46 then (some true) else (some (a0 == 44)))))
set_option maxHeartbeats 8000000 in
set_option maxRecDepth 100000 in
theorem spec_l1Plain.calls (a0 : Int) (r : Bool) (w : World) (h : spec_l1Plain.f a0 = some r) :
  Calls Try.prog 38 #[.int .u8 a0] w fun e w' => e = .returned (.bool r) ∧ Drawn0 w w' := by
 have H : (if a0 ≥ 97 then (if a0 ≤ 122 then (some true) else (if a0 ≥ 48 then (if a0 ≤ 57 then (some true) else (if a0 = 32 then (some true) else (if a0 = 46 then (some true) else (some (a0 == 44))))) else (if a0 = 32 then (some true) else (if a0 = 46 then (some true) else (some (a0 == 44)))))) else (if a0 ≥ 48 then (if a0 ≤ 57 then (some true) else (if a0 = 32 then (some true) else (if a0 = 46 then (some true) else (some (a0 == 44))))) else (if a0 = 32 then (some true) else (if a0 = 46 then (some true) else (some (a0 == 44)))))) = some r := h
 clear h
 by_cases c2 : a0 ≥ 97
 ·rw [if_pos c2] at H
  have c2b0 : decide (97 ≤ a0) = true := dT c2
  clear c2
  by_cases c3 : a0 ≤ 122
  ·rw [if_pos c3] at H
   have c3b0 : decide (a0 ≤ 122) = true := dT c3
   clear c3
   obtain rfl := sI H
   go_enter Try.func38, Try.ntmps38
   go_wp2
   go_ret
   exact ⟨y2, y3⟩
  ·rw [if_neg c3] at H
   have c3b0 : decide (a0 ≤ 122) = false := dF c3
   clear c3
   by_cases c4 : a0 ≥ 48
   ·rw [if_pos c4] at H
    have c4b0 : decide (48 ≤ a0) = true := dT c4
    clear c4
    by_cases c5 : a0 ≤ 57
    ·rw [if_pos c5] at H
     have c5b0 : decide (a0 ≤ 57) = true := dT c5
     clear c5
     obtain rfl := sI H
     go_enter Try.func38, Try.ntmps38
     go_wp2
     go_ret
     exact ⟨y2, y3⟩
    ·rw [if_neg c5] at H
     have c5b0 : decide (a0 ≤ 57) = false := dF c5
     clear c5
     by_cases c6 : a0 = 32
     ·rw [if_pos c6] at H
      have c6b0 : (a0 == 32) = true := qT c6
      have c6b1 : (a0 != 32) = false := nF c6
      clear c6
      obtain rfl := sI H
      go_enter Try.func38, Try.ntmps38
      go_wp2
      go_ret
      exact ⟨y2, y3⟩
     ·rw [if_neg c6] at H
      have c6b0 : (a0 == 32) = false := qF c6
      have c6b1 : (a0 != 32) = true := nT c6
      by_cases c7 : a0 = 46
      ·rw [if_pos c7] at H
       have c7b0 : (a0 == 46) = true := qT c7
       have c7b1 : (a0 != 46) = false := nF c7
       clear c7
       obtain rfl := sI H
       go_enter Try.func38, Try.ntmps38
       go_wp2
       go_ret
       exact ⟨y2, y3⟩
      ·rw [if_neg c7] at H
       have c7b0 : (a0 == 46) = false := qF c7
       have c7b1 : (a0 != 46) = true := nT c7
       obtain rfl := sI H
       go_enter Try.func38, Try.ntmps38
       go_wp2
       go_ret
       exact ⟨y2, y3⟩
   ·rw [if_neg c4] at H
    have c4b0 : decide (48 ≤ a0) = false := dF c4
    clear c4
    by_cases c8 : a0 = 32
    ·rw [if_pos c8] at H
     have c8b0 : (a0 == 32) = true := qT c8
     have c8b1 : (a0 != 32) = false := nF c8
     clear c8
     obtain rfl := sI H
     go_enter Try.func38, Try.ntmps38
     go_wp2
     go_ret
     exact ⟨y2, y3⟩
    ·rw [if_neg c8] at H
     have c8b0 : (a0 == 32) = false := qF c8
     have c8b1 : (a0 != 32) = true := nT c8
     by_cases c9 : a0 = 46
     ·rw [if_pos c9] at H
      have c9b0 : (a0 == 46) = true := qT c9
      have c9b1 : (a0 != 46) = false := nF c9
      clear c9
      obtain rfl := sI H
      go_enter Try.func38, Try.ntmps38
      go_wp2
      go_ret
      exact ⟨y2, y3⟩
     ·rw [if_neg c9] at H
      have c9b0 : (a0 == 46) = false := qF c9
      have c9b1 : (a0 != 46) = true := nT c9
      obtain rfl := sI H
      go_enter Try.func38, Try.ntmps38
      go_wp2
      go_ret
      exact ⟨y2, y3⟩
 ·rw [if_neg c2] at H
  have c2b0 : decide (97 ≤ a0) = false := dF c2
  clear c2
  by_cases bz : a0 ≥ 48
  ·rw [if_pos bz] at H
   have c10b0 : decide (48 ≤ a0) = true := dT bz
   clear bz
   by_cases bV : a0 ≤ 57
   ·rw [if_pos bV] at H
    have c11b0 : decide (a0 ≤ 57) = true := dT bV
    clear bV
    obtain rfl := sI H
    go_enter Try.func38, Try.ntmps38
    go_wp2
    go_ret
    exact ⟨y2, y3⟩
   ·rw [if_neg bV] at H
    have c11b0 : decide (a0 ≤ 57) = false := dF bV
    clear bV
    by_cases cd : a0 = 32
    ·rw [if_pos cd] at H
     have c12b0 : (a0 == 32) = true := qT cd
     have c12b1 : (a0 != 32) = false := nF cd
     clear cd
     obtain rfl := sI H
     go_enter Try.func38, Try.ntmps38
     go_wp2
     go_ret
     exact ⟨y2, y3⟩
    ·rw [if_neg cd] at H
     have c12b0 : (a0 == 32) = false := qF cd
     have c12b1 : (a0 != 32) = true := nT cd
     by_cases bR : a0 = 46
     ·rw [if_pos bR] at H
      have c13b0 : (a0 == 46) = true := qT bR
      have c13b1 : (a0 != 46) = false := nF bR
      clear bR
      obtain rfl := sI H
      go_enter Try.func38, Try.ntmps38
      go_wp2
      go_ret
      exact ⟨y2, y3⟩
     ·rw [if_neg bR] at H
      have c13b0 : (a0 == 46) = false := qF bR
      have c13b1 : (a0 != 46) = true := nT bR
      obtain rfl := sI H
      go_enter Try.func38, Try.ntmps38
      go_wp2
      go_ret
      exact ⟨y2, y3⟩
  ·rw [if_neg bz] at H
   have c10b0 : decide (48 ≤ a0) = false := dF bz
   clear bz
   by_cases ce : a0 = 32
   ·rw [if_pos ce] at H
    have c14b0 : (a0 == 32) = true := qT ce
    have c14b1 : (a0 != 32) = false := nF ce
    clear ce
    obtain rfl := sI H
    go_enter Try.func38, Try.ntmps38
    go_wp2
    go_ret
    exact ⟨y2, y3⟩
   ·rw [if_neg ce] at H
    have c14b0 : (a0 == 32) = false := qF ce
    have c14b1 : (a0 != 32) = true := nT ce
    by_cases ck : a0 = 46
    ·rw [if_pos ck] at H
     have c15b0 : (a0 == 46) = true := qT ck
     have c15b1 : (a0 != 46) = false := nF ck
     clear ck
     obtain rfl := sI H
     go_enter Try.func38, Try.ntmps38
     go_wp2
     go_ret
     exact ⟨y2, y3⟩
    ·rw [if_neg ck] at H
     have c15b0 : (a0 == 46) = false := qF ck
     have c15b1 : (a0 != 46) = true := nT ck
     obtain rfl := sI H
     go_enter Try.func38, Try.ntmps38
     go_wp2
     go_ret
     exact ⟨y2, y3⟩

/-! ### spec_l1Text: function 14 -/
def spec_l1Text.l0 : Nat → ByteArray → Int → Option (Bool)
 | 0, _, _ => none
 | k + 1, x0, x3 => if x3 < (x0.size : Int) then (if 0 ≤ x3 then ((spec_l1Open.f (bt x0 x3)).bind fun l7 => (if l7 = true then (spec_l1Text.l0 k x0 (wrap64 (x3 + 1))) else ((spec_l1Plain.f (bt x0 x3)).bind fun l6 => (if l6 = true then (spec_l1Text.l0 k x0 (wrap64 (x3 + 1))) else (if (bt x0 x3) = 47 then (spec_l1Text.l0 k x0 (wrap64 (x3 + 1))) else (some false)))))) else (none)) else (some true)
def spec_l1Text.f (k : Nat) (a0 : ByteArray) : Option (Bool) := spec_l1Text.l0 k a0 0
theorem spec_l1Text.mono_l : ∀ k, (∀ y0 y1, LeO (spec_l1Text.l0 k y0 y1) (spec_l1Text.l0 (k + 1) y0 y1))
 | 0 => fun _ _ r h => by simp [spec_l1Text.l0] at h
 | k + 1 => by
  have ih0 := spec_l1Text.mono_l k
  ·intro y0 y1
   unfold spec_l1Text.l0
   repeat' first
   | (with_reducible exact ih0 _ _)
   | (with_reducible exact LeO.refl _)
   | (with_reducible exact LeO.none _)
   | (with_reducible refine LeO.ite ?_ ?_)
   | (with_reducible refine LeO.bind ?_ (fun _ => ?_))
   | exact ih0 _ _
   | exact LeO.none _
   | refine LeO.ite ?_ ?_
   | refine LeO.bind ?_ (fun _ => ?_)
theorem spec_l1Text.mono : ∀ a0 k, LeO (spec_l1Text.f k a0) (spec_l1Text.f (k + 1) a0) := by
 intro a0 k
 have ih0 := spec_l1Text.mono_l k
 unfold spec_l1Text.f
 repeat' first
   | (with_reducible exact ih0 _ _)
   | (with_reducible exact LeO.refl _)
   | (with_reducible exact LeO.none _)
   | (with_reducible refine LeO.ite ?_ ?_)
   | (with_reducible refine LeO.bind ?_ (fun _ => ?_))
   | exact ih0 _ _
   | exact LeO.none _
   | refine LeO.ite ?_ ?_
   | refine LeO.bind ?_ (fun _ => ?_)
set_option maxHeartbeats 8000000 in
set_option maxRecDepth 100000 in
theorem spec_l1Text.calls (k : Nat) (a0 : ByteArray) (r : Bool) (w : World) (h : spec_l1Text.f k a0 = some r) :
  Calls Try.prog 14 #[.string a0] w fun e w' => e = .returned (.bool r) ∧ Drawn0 w w' := by
 have H : (spec_l1Text.l0 k a0 0) = some r := h
 clear h
 have H' := aM H
 clear H
 go_enter Try.func14, Try.ntmps14
 go_wp2
 go_loopg [3] k (fun kq v3 w' => ∃ (x3_1 : Int), v3 = .int .i64 x3_1 ∧ Aside0 (spec_l1Text.l0 kq a0 x3_1 = some r) ∧ Aside0 (kq ≤ k) ∧ Drawn0 w w')
 case atStart => exact ⟨(0), z1, H', ⟨Nat.le_refl _⟩, y3⟩
 case round =>
  clear H'
  try clear c1
  obtain ⟨x3_1, rfl, HA, HK1, ⟨m1, rfl⟩⟩ := hrel
  cases gk with
  | zero => exact absurd HA.out (by simp [spec_l1Text.l0])
  | succ k1 =>
   have H := HA.out
   clear HA
   simp only [spec_l1Text.l0] at H
   by_cases c2 : x3_1 < (a0.size : Int)
   ·rw [if_pos c2] at H
    have c2b0 : decide (x3_1 < (a0.size : Int)) = true := dT c2
    clear c2
    by_cases c3 : 0 ≤ x3_1
    ·rw [if_pos c3] at H
     have c3b0 : decide (0 ≤ x3_1) = true := dT c3
     clear c3
     replace H := oB H
     obtain ⟨l7, ft, H⟩ := H
     try dsimp only at H
     have A5 := aM ft
     clear ft
     by_cases c6 : l7 = true
     ·subst c6
      rw [if_pos rfl] at H
      have H' := aM H
      clear H
      have p4 : 0 ≤ (x3_1 : Int) := oD z2
      have q4 : x3_1 < (a0.size : Int) := oD z2
      have hx4 := bt_at a0 x3_1
      replace p4 := eq_true p4
      replace q4 := eq_true q4
      go_wp2_with (first | ((with_reducible refine aC (f := 37) rfl ?_); refine aG (some 13) rfl rfl Try.func37 z0 rfl #[.int .u8 (bt a0 x3_1)] rfl z10 ?_; (with_reducible refine (spec_l1Open.calls (bt a0 x3_1) true _ A5.out).mono ?_); rintro e w' ⟨rfl, ⟨nd, rfl⟩⟩; refine ⟨_, rfl, ?_⟩))
      go_roundg k1
      case measure => have := HK1.out; omega
      case rel => exact ⟨(wrap64 (x3_1 + 1)), z1, H', ⟨y0⟩, y3⟩
     ·replace c6 := Bool.eq_false_iff.mpr c6
      subst c6
      rw [if_neg (show ¬ (false = true) by decide)] at H
      replace H := oB H
      obtain ⟨l6, k6, H⟩ := H
      try dsimp only at H
      have A8 := aM k6
      clear k6
      by_cases c9 : l6 = true
      ·subst c9
       rw [if_pos rfl] at H
       have H' := aM H
       clear H
       have p4 : 0 ≤ (x3_1 : Int) := oD z2
       have q4 : x3_1 < (a0.size : Int) := oD z2
       have hx4 := bt_at a0 x3_1
       replace p4 := eq_true p4
       replace q4 := eq_true q4
       go_wp2_with (first | ((with_reducible refine aC (f := 37) rfl ?_); refine aG (some 13) rfl rfl Try.func37 z0 rfl #[.int .u8 (bt a0 x3_1)] rfl z10 ?_; (with_reducible refine (spec_l1Open.calls (bt a0 x3_1) false _ A5.out).mono ?_); rintro e w' ⟨rfl, ⟨nd, rfl⟩⟩; refine ⟨_, rfl, ?_⟩; have p7 : 0 ≤ (x3_1 : Int) := oD z2; have q7 : x3_1 < (a0.size : Int) := oD z2; have hx7 := bt_at a0 x3_1; replace p7 := eq_true p7; replace q7 := eq_true q7) | (go_at_call 38; (with_reducible refine (spec_l1Plain.calls (bt a0 x3_1) true _ A8.out).mono ?_); rintro e w' ⟨rfl, ⟨nd, rfl⟩⟩))
       go_roundg k1
       case measure => have := HK1.out; omega
       case rel => exact ⟨(wrap64 (x3_1 + 1)), z1, H', ⟨y0⟩, y3⟩
      ·replace c9 := Bool.eq_false_iff.mpr c9
       subst c9
       rw [if_neg (show ¬ (false = true) by decide)] at H
       by_cases bV : (bt a0 x3_1) = 47
       ·rw [if_pos bV] at H
        have c11b0 : ((bt a0 x3_1) == 47) = true := qT bV
        have c11b1 : ((bt a0 x3_1) != 47) = false := nF bV
        clear bV
        have H' := aM H
        clear H
        have p4 : 0 ≤ (x3_1 : Int) := oD z2
        have q4 : x3_1 < (a0.size : Int) := oD z2
        have hx4 := bt_at a0 x3_1
        replace p4 := eq_true p4
        replace q4 := eq_true q4
        go_wp2_with (first | ((with_reducible refine aC (f := 37) rfl ?_); refine aG (some 13) rfl rfl Try.func37 z0 rfl #[.int .u8 (bt a0 x3_1)] rfl z10 ?_; (with_reducible refine (spec_l1Open.calls (bt a0 x3_1) false _ A5.out).mono ?_); rintro e w' ⟨rfl, ⟨nd, rfl⟩⟩; refine ⟨_, rfl, ?_⟩; have p7 : 0 ≤ (x3_1 : Int) := oD z2; have q7 : x3_1 < (a0.size : Int) := oD z2; have hx7 := bt_at a0 x3_1; replace p7 := eq_true p7; replace q7 := eq_true q7) | (go_at_call 38; (with_reducible refine (spec_l1Plain.calls (bt a0 x3_1) false _ A8.out).mono ?_); rintro e w' ⟨rfl, ⟨nd, rfl⟩⟩; have p10 : 0 ≤ (x3_1 : Int) := oD z2; have q10 : x3_1 < (a0.size : Int) := oD z2; have hx10 := bt_at a0 x3_1; replace p10 := eq_true p10; replace q10 := eq_true q10))
        go_roundg k1
        case measure => have := HK1.out; omega
        case rel => exact ⟨(wrap64 (x3_1 + 1)), z1, H', ⟨y0⟩, y3⟩
       ·rw [if_neg bV] at H
        have c11b0 : ((bt a0 x3_1) == 47) = false := qF bV
        have c11b1 : ((bt a0 x3_1) != 47) = true := nT bV
        obtain rfl := sI H
        have p4 : 0 ≤ (x3_1 : Int) := oD z2
        have q4 : x3_1 < (a0.size : Int) := oD z2
        have hx4 := bt_at a0 x3_1
        replace p4 := eq_true p4
        replace q4 := eq_true q4
        go_wp2_with (first | ((with_reducible refine aC (f := 37) rfl ?_); refine aG (some 13) rfl rfl Try.func37 z0 rfl #[.int .u8 (bt a0 x3_1)] rfl z10 ?_; (with_reducible refine (spec_l1Open.calls (bt a0 x3_1) false _ A5.out).mono ?_); rintro e w' ⟨rfl, ⟨nd, rfl⟩⟩; refine ⟨_, rfl, ?_⟩; have p7 : 0 ≤ (x3_1 : Int) := oD z2; have q7 : x3_1 < (a0.size : Int) := oD z2; have hx7 := bt_at a0 x3_1; replace p7 := eq_true p7; replace q7 := eq_true q7) | (go_at_call 38; (with_reducible refine (spec_l1Plain.calls (bt a0 x3_1) false _ A8.out).mono ?_); rintro e w' ⟨rfl, ⟨nd, rfl⟩⟩; have p10 : 0 ≤ (x3_1 : Int) := oD z2; have q10 : x3_1 < (a0.size : Int) := oD z2; have hx10 := bt_at a0 x3_1; replace p10 := eq_true p10; replace q10 := eq_true q10))
        go_ret
        exact ⟨y2, y3⟩
    ·rw [if_neg c3] at H
     exact absurd H (by simp)
   ·rw [if_neg c2] at H
    have c2b0 : decide (x3_1 < (a0.size : Int)) = false := dF c2
    clear c2
    obtain rfl := sI H
    go_wp2
    go_ret
    exact ⟨y2, y3⟩

/-! ### spec_GoodText: function 6 -/
def spec_GoodText.f (k : Nat) (a0 : ByteArray) : Option (Bool) := (spec_l1Text.f k a0).bind fun kD => (if kD = true then (some (decide ((a0.size : Int) ≤ 300))) else (some false))
theorem spec_GoodText.mono : ∀ a0 k, LeO (spec_GoodText.f k a0) (spec_GoodText.f (k + 1) a0) := by
 intro a0 k
 unfold spec_GoodText.f
 repeat' first
   | (with_reducible exact spec_l1Text.mono _ _)
   | (with_reducible exact LeO.refl _)
   | (with_reducible exact LeO.none _)
   | (with_reducible refine LeO.ite ?_ ?_)
   | (with_reducible refine LeO.bind ?_ (fun _ => ?_))
   | exact spec_l1Text.mono _ _
   | exact LeO.none _
   | refine LeO.ite ?_ ?_
   | refine LeO.bind ?_ (fun _ => ?_)
set_option maxHeartbeats 8000000 in
set_option maxRecDepth 100000 in
theorem spec_GoodText.calls (k : Nat) (a0 : ByteArray) (r : Bool) (w : World) (h : spec_GoodText.f k a0 = some r) :
  Calls Try.prog 6 #[.string a0] w fun e w' => e = .returned (.bool r) ∧ Drawn0 w w' := by
 have H : ((spec_l1Text.f k a0).bind fun kD => (if kD = true then (some (decide ((a0.size : Int) ≤ 300))) else (some false))) = some r := h
 clear h
 replace H := oB H
 obtain ⟨kD, k7, H⟩ := H
 try dsimp only at H
 have A2 := aM k7
 clear k7
 by_cases c3 : kD = true
 ·subst c3
  rw [if_pos rfl] at H
  obtain rfl := sI H
  go_enter Try.func6, Try.ntmps6
  go_wp2_with (first | ((with_reducible refine aC (f := 14) rfl ?_); refine aG (some 4) rfl rfl Try.func14 z0 rfl #[.string a0] rfl z10 ?_; (with_reducible refine (spec_l1Text.calls k a0 true _ A2.out).mono ?_); rintro e w' ⟨rfl, ⟨nd, rfl⟩⟩; refine ⟨_, rfl, ?_⟩))
  go_ret
  exact ⟨y2, y3⟩
 ·replace c3 := Bool.eq_false_iff.mpr c3
  subst c3
  rw [if_neg (show ¬ (false = true) by decide)] at H
  obtain rfl := sI H
  go_enter Try.func6, Try.ntmps6
  go_wp2_with (first | ((with_reducible refine aC (f := 14) rfl ?_); refine aG (some 4) rfl rfl Try.func14 z0 rfl #[.string a0] rfl z10 ?_; (with_reducible refine (spec_l1Text.calls k a0 false _ A2.out).mono ?_); rintro e w' ⟨rfl, ⟨nd, rfl⟩⟩; refine ⟨_, rfl, ?_⟩))
  go_ret
  exact ⟨y2, y3⟩

/-! ### spec_l9Texts: function 7 -/
def spec_l9Texts.f (k : Nat) (a0 : ByteArray) (a1 : ByteArray) : Option (Bool) := (spec_GoodText.f k a0).bind fun kC => (if kC = true then ((spec_GoodText.f k a1).bind fun kB => (some kB)) else (some false))
theorem spec_l9Texts.mono : ∀ a0 a1 k, LeO (spec_l9Texts.f k a0 a1) (spec_l9Texts.f (k + 1) a0 a1) := by
 intro a0 a1 k
 unfold spec_l9Texts.f
 repeat' first
   | (with_reducible exact spec_GoodText.mono _ _)
   | (with_reducible exact LeO.refl _)
   | (with_reducible exact LeO.none _)
   | (with_reducible refine LeO.ite ?_ ?_)
   | (with_reducible refine LeO.bind ?_ (fun _ => ?_))
   | exact spec_GoodText.mono _ _
   | exact LeO.none _
   | refine LeO.ite ?_ ?_
   | refine LeO.bind ?_ (fun _ => ?_)
set_option maxHeartbeats 8000000 in
set_option maxRecDepth 100000 in
theorem spec_l9Texts.calls (k : Nat) (a0 : ByteArray) (a1 : ByteArray) (r : Bool) (w : World) (h : spec_l9Texts.f k a0 a1 = some r) :
  Calls Try.prog 7 #[.string a0, .string a1] w fun e w' => e = .returned (.bool r) ∧ Drawn0 w w' := by
 have H : ((spec_GoodText.f k a0).bind fun kC => (if kC = true then ((spec_GoodText.f k a1).bind fun kB => (some kB)) else (some false))) = some r := h
 clear h
 replace H := oB H
 obtain ⟨kC, eF, H⟩ := H
 try dsimp only at H
 have A3 := aM eF
 clear eF
 by_cases c4 : kC = true
 ·subst c4
  rw [if_pos rfl] at H
  replace H := oB H
  obtain ⟨kB, ft, H⟩ := H
  try dsimp only at H
  have A5 := aM ft
  clear ft
  obtain rfl := sI H
  go_enter Try.func7, Try.ntmps7
  go_wp2_with (first | ((with_reducible refine aC (f := 6) rfl ?_); refine aG (some 6) rfl rfl Try.func6 z0 rfl #[.string a0] rfl z10 ?_; (with_reducible refine (spec_GoodText.calls k a0 true _ A3.out).mono ?_); rintro e w' ⟨rfl, ⟨nd, rfl⟩⟩; refine ⟨_, rfl, ?_⟩) | (go_at_call 6; (with_reducible refine (spec_GoodText.calls k a1 kB _ A5.out).mono ?_); rintro e w' ⟨rfl, ⟨nd, rfl⟩⟩))
  go_ret
  exact ⟨y2, y3⟩
 ·replace c4 := Bool.eq_false_iff.mpr c4
  subst c4
  rw [if_neg (show ¬ (false = true) by decide)] at H
  obtain rfl := sI H
  go_enter Try.func7, Try.ntmps7
  go_wp2_with (first | ((with_reducible refine aC (f := 6) rfl ?_); refine aG (some 6) rfl rfl Try.func6 z0 rfl #[.string a0] rfl z10 ?_; (with_reducible refine (spec_GoodText.calls k a0 false _ A3.out).mono ?_); rintro e w' ⟨rfl, ⟨nd, rfl⟩⟩; refine ⟨_, rfl, ?_⟩))
  go_ret
  exact ⟨y2, y3⟩

end Go.Proofs.Ytifllccpfiobfaa.AFnExactMergeThree
