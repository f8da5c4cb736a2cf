-- this session's own text: written by wip/tools/ownprint.py over the kit's print
import Derived.Test.YtmigfgcpdelnfaaAFnUndoneByx0
namespace Go.Proofs.Ytmigfgcpdelnfaa.AFnUndoneBy
open Go.RowKit Go.Proofs.YtmigfgcpdelnfaaW.PrintWords Go.Proofs.YtmigfgcpdelnfaaW.PrintLast Go.Proofs.YtmigfgcpdelnfaaW.PrintMore
attribute [local go_sem] max2_int min2_int max_two min_two max_three min_three max_four min_four   -- for this text's walks alone
set_option linter.unusedVariables false
set_option linter.unusedSimpArgs false

/-! ### spec_l1Open: function 29 -/
def spec_l1Open.f (a0 : Int) : Option (Bool) := if a0 ≥ 65 then (some (decide (a0 ≤ 70))) else (some false)
set_option maxHeartbeats 8000000 in
set_option maxRecDepth 100000 in
theorem spec_l1Open.calls (a0 : Int) (r : Bool) (w : World) (h : spec_l1Open.f a0 = some r) :
  Calls Try.prog 29 #[.int .u8 a0] w fun e w' => e = .returned (.bool r) ∧ Drawn0 w w' := by
 have H : (if a0 ≥ 65 then (some (decide (a0 ≤ 70))) else (some false)) = some r := h
 clear h
 by_cases c2 : a0 ≥ 65
 ·rw [if_pos c2] at H
  have c2b0 : decide (65 ≤ a0) = true := dT c2
  clear c2
  obtain rfl := sI H
  go_enter Try.func29, Try.ntmps29
  go_wp2
  go_ret
  exact ⟨y1, y3⟩
 ·rw [if_neg c2] at H
  have c2b0 : decide (65 ≤ a0) = false := dF c2
  clear c2
  obtain rfl := sI H
  go_enter Try.func29, Try.ntmps29
  go_wp2
  go_ret
  exact ⟨y1, y3⟩

/-! ### spec_l1Plain: function 85 -/
def spec_l1Plain.f (a0 : Int) : Option (Bool) := if a0 ≥ 97 then (if a0 ≤ 122 then (some true) else (if a0 ≥ 48 then (if a0 ≤ 57 then (some true) else (if a0 = 32 then (some true) else (if a0 = 46 then (some true) else (some (a0 == 44))))) else (if a0 = 32 then (some true) else (if a0 = 46 then (some true) else (some (a0 == 44)))))) else (if a0 ≥ 48 then (if a0 ≤ 57 then (some true) else (if a0 = 32 then (some true) else (if a0 = 46 then (some true) else (some (a0 == 44))))) else (if a0 = 32 then (some true) else (if a0 = 46 then (some true) else (some (a0 == 44)))))
set_option maxHeartbeats 8000000 in
set_option maxRecDepth 100000 in
theorem spec_l1Plain.calls (a0 : Int) (r : Bool) (w : World) (h : spec_l1Plain.f a0 = some r) :
  Calls Try.prog 85 #[.int .u8 a0] w fun e w' => e = .returned (.bool r) ∧ Drawn0 w w' := by
 have H : (if a0 ≥ 97 then (if a0 ≤ 122 then (some true) else (if a0 ≥ 48 then (if a0 ≤ 57 then (some true) else (if a0 = 32 then (some true) else (if a0 = 46 then (some true) else (some (a0 == 44))))) else (if a0 = 32 then (some true) else (if a0 = 46 then (some true) else (some (a0 == 44)))))) else (if a0 ≥ 48 then (if a0 ≤ 57 then (some true) else (if a0 = 32 then (some true) else (if a0 = 46 then (some true) else (some (a0 == 44))))) else (if a0 = 32 then (some true) else (if a0 = 46 then (some true) else (some (a0 == 44)))))) = some r := h
 clear h
 by_cases c2 : a0 ≥ 97
 ·rw [if_pos c2] at H
  have c2b0 : decide (97 ≤ a0) = true := dT c2
  clear c2
  by_cases c3 : a0 ≤ 122
  ·rw [if_pos c3] at H
   have c3b0 : decide (a0 ≤ 122) = true := dT c3
   clear c3
   obtain rfl := sI H
   go_enter Try.func85, Try.ntmps85
   go_wp2
   go_ret
   exact ⟨y1, y3⟩
  ·rw [if_neg c3] at H
   have c3b0 : decide (a0 ≤ 122) = false := dF c3
   clear c3
   by_cases c4 : a0 ≥ 48
   ·rw [if_pos c4] at H
    have c4b0 : decide (48 ≤ a0) = true := dT c4
    clear c4
    by_cases c5 : a0 ≤ 57
    ·rw [if_pos c5] at H
     have c5b0 : decide (a0 ≤ 57) = true := dT c5
     clear c5
     obtain rfl := sI H
     go_enter Try.func85, Try.ntmps85
     go_wp2
     go_ret
     exact ⟨y1, y3⟩
    ·rw [if_neg c5] at H
     have c5b0 : decide (a0 ≤ 57) = false := dF c5
     clear c5
     by_cases c6 : a0 = 32
     ·rw [if_pos c6] at H
      have c6b0 : (a0 == 32) = true := qT c6
      have c6b1 : (a0 != 32) = false := nF c6
      clear c6
      obtain rfl := sI H
      go_enter Try.func85, Try.ntmps85
      go_wp2
      go_ret
      exact ⟨y1, y3⟩
     ·rw [if_neg c6] at H
      have c6b0 : (a0 == 32) = false := qF c6
      have c6b1 : (a0 != 32) = true := nT c6
      by_cases c7 : a0 = 46
      ·rw [if_pos c7] at H
       have c7b0 : (a0 == 46) = true := qT c7
       have c7b1 : (a0 != 46) = false := nF c7
       clear c7
       obtain rfl := sI H
       go_enter Try.func85, Try.ntmps85
       go_wp2
       go_ret
       exact ⟨y1, y3⟩
      ·rw [if_neg c7] at H
       have c7b0 : (a0 == 46) = false := qF c7
       have c7b1 : (a0 != 46) = true := nT c7
       obtain rfl := sI H
       go_enter Try.func85, Try.ntmps85
       go_wp2
       go_ret
       exact ⟨y1, y3⟩
   ·rw [if_neg c4] at H
    have c4b0 : decide (48 ≤ a0) = false := dF c4
    clear c4
    by_cases c8 : a0 = 32
    ·rw [if_pos c8] at H
     have c8b0 : (a0 == 32) = true := qT c8
     have c8b1 : (a0 != 32) = false := nF c8
     clear c8
     obtain rfl := sI H
     go_enter Try.func85, Try.ntmps85
     go_wp2
     go_ret
     exact ⟨y1, y3⟩
    ·rw [if_neg c8] at H
     have c8b0 : (a0 == 32) = false := qF c8
     have c8b1 : (a0 != 32) = true := nT c8
     by_cases c9 : a0 = 46
     ·rw [if_pos c9] at H
      have c9b0 : (a0 == 46) = true := qT c9
      have c9b1 : (a0 != 46) = false := nF c9
      clear c9
      obtain rfl := sI H
      go_enter Try.func85, Try.ntmps85
      go_wp2
      go_ret
      exact ⟨y1, y3⟩
     ·rw [if_neg c9] at H
      have c9b0 : (a0 == 46) = false := qF c9
      have c9b1 : (a0 != 46) = true := nT c9
      obtain rfl := sI H
      go_enter Try.func85, Try.ntmps85
      go_wp2
      go_ret
      exact ⟨y1, y3⟩
 ·rw [if_neg c2] at H
  have c2b0 : decide (97 ≤ a0) = false := dF c2
  clear c2
  by_cases dk : a0 ≥ 48
  ·rw [if_pos dk] at H
   have c10b0 : decide (48 ≤ a0) = true := dT dk
   clear dk
   by_cases cP : a0 ≤ 57
   ·rw [if_pos cP] at H
    have c11b0 : decide (a0 ≤ 57) = true := dT cP
    clear cP
    obtain rfl := sI H
    go_enter Try.func85, Try.ntmps85
    go_wp2
    go_ret
    exact ⟨y1, y3⟩
   ·rw [if_neg cP] at H
    have c11b0 : decide (a0 ≤ 57) = false := dF cP
    clear cP
    by_cases b5 : a0 = 32
    ·rw [if_pos b5] at H
     have c12b0 : (a0 == 32) = true := qT b5
     have c12b1 : (a0 != 32) = false := nF b5
     clear b5
     obtain rfl := sI H
     go_enter Try.func85, Try.ntmps85
     go_wp2
     go_ret
     exact ⟨y1, y3⟩
    ·rw [if_neg b5] at H
     have c12b0 : (a0 == 32) = false := qF b5
     have c12b1 : (a0 != 32) = true := nT b5
     by_cases ce : a0 = 46
     ·rw [if_pos ce] at H
      have c13b0 : (a0 == 46) = true := qT ce
      have c13b1 : (a0 != 46) = false := nF ce
      clear ce
      obtain rfl := sI H
      go_enter Try.func85, Try.ntmps85
      go_wp2
      go_ret
      exact ⟨y1, y3⟩
     ·rw [if_neg ce] at H
      have c13b0 : (a0 == 46) = false := qF ce
      have c13b1 : (a0 != 46) = true := nT ce
      obtain rfl := sI H
      go_enter Try.func85, Try.ntmps85
      go_wp2
      go_ret
      exact ⟨y1, y3⟩
  ·rw [if_neg dk] at H
   have c10b0 : decide (48 ≤ a0) = false := dF dk
   clear dk
   by_cases cD : a0 = 32
   ·rw [if_pos cD] at H
    have c14b0 : (a0 == 32) = true := qT cD
    have c14b1 : (a0 != 32) = false := nF cD
    clear cD
    obtain rfl := sI H
    go_enter Try.func85, Try.ntmps85
    go_wp2
    go_ret
    exact ⟨y1, y3⟩
   ·rw [if_neg cD] at H
    have c14b0 : (a0 == 32) = false := qF cD
    have c14b1 : (a0 != 32) = true := nT cD
    by_cases cF : a0 = 46
    ·rw [if_pos cF] at H
     have c15b0 : (a0 == 46) = true := qT cF
     have c15b1 : (a0 != 46) = false := nF cF
     clear cF
     obtain rfl := sI H
     go_enter Try.func85, Try.ntmps85
     go_wp2
     go_ret
     exact ⟨y1, y3⟩
    ·rw [if_neg cF] at H
     have c15b0 : (a0 == 46) = false := qF cF
     have c15b1 : (a0 != 46) = true := nT cF
     obtain rfl := sI H
     go_enter Try.func85, Try.ntmps85
     go_wp2
     go_ret
     exact ⟨y1, y3⟩

/-! ### spec_l1Text: function 69 -/
def spec_l1Text.l0 : Nat → ByteArray → Int → Option (Bool)
 | 0, _, _ => none
 | k + 1, x0, x3 => if x3 < (x0.size : Int) then (if 0 ≤ x3 then ((spec_l1Open.f (bt x0 x3)).bind fun rh => (if rh = true then (spec_l1Text.l0 k x0 (wrap64 (x3 + 1))) else ((spec_l1Plain.f (bt x0 x3)).bind fun rg => (if rg = true then (spec_l1Text.l0 k x0 (wrap64 (x3 + 1))) else (if (bt x0 x3) = 47 then (spec_l1Text.l0 k x0 (wrap64 (x3 + 1))) else (some false)))))) else (none)) else (some true)
def spec_l1Text.f (k : Nat) (a0 : ByteArray) : Option (Bool) := spec_l1Text.l0 k a0 0
theorem spec_l1Text.mono_l : ∀ k, (∀ y0 y1, LeO (spec_l1Text.l0 k y0 y1) (spec_l1Text.l0 (k + 1) y0 y1))
 | 0 => fun _ _ r h => by simp [spec_l1Text.l0] at h
 | k + 1 => by
  have ih0 := spec_l1Text.mono_l k
  ·intro y0 y1
   unfold spec_l1Text.l0
   repeat' first
   | (with_reducible exact ih0 _ _)
   | (with_reducible exact LeO.refl _)
   | (with_reducible exact LeO.none _)
   | (with_reducible refine LeO.ite ?_ ?_)
   | (with_reducible refine LeO.bind ?_ (fun _ => ?_))
theorem spec_l1Text.mono : ∀ a0 k, LeO (spec_l1Text.f k a0) (spec_l1Text.f (k + 1) a0) := by
 intro a0 k
 have ih0 := spec_l1Text.mono_l k
 unfold spec_l1Text.f
 repeat' first
   | (with_reducible exact ih0 _ _)
   | (with_reducible exact LeO.refl _)
   | (with_reducible exact LeO.none _)
   | (with_reducible refine LeO.ite ?_ ?_)
   | (with_reducible refine LeO.bind ?_ (fun _ => ?_))
set_option maxHeartbeats 8000000 in
set_option maxRecDepth 100000 in
theorem spec_l1Text.calls (k : Nat) (a0 : ByteArray) (r : Bool) (w : World) (h : spec_l1Text.f k a0 = some r) :
  Calls Try.prog 69 #[.string a0] w fun e w' => e = .returned (.bool r) ∧ Drawn0 w w' := by
 have H : (spec_l1Text.l0 k a0 0) = some r := h
 clear h
 have H' := aM H
 clear H
 go_enter Try.func69, Try.ntmps69
 go_wp2
 go_loopg [3] k (fun kq v3 w' => ∃ (x3_1 : Int), v3 = .int .i64 x3_1 ∧ Aside0 (spec_l1Text.l0 kq a0 x3_1 = some r) ∧ Aside0 (kq ≤ k) ∧ Drawn0 w w')
 case atStart => exact ⟨(0), z1, H', ⟨Nat.le_refl _⟩, y3⟩
 case round =>
  clear H'
  obtain ⟨x3_1, rfl, HA, HK1, ⟨m1, rfl⟩⟩ := hrel
  cases gk with
  | zero => exact absurd HA.out (by simp [spec_l1Text.l0])
  | succ k1 =>
   have H := HA.out
   clear HA
   simp only [spec_l1Text.l0] at H
   by_cases c2 : x3_1 < (a0.size : Int)
   ·rw [if_pos c2] at H
    have c2b0 : decide (x3_1 < (a0.size : Int)) = true := dT c2
    clear c2
    by_cases c3 : 0 ≤ x3_1
    ·rw [if_pos c3] at H
     have c3b0 : decide (0 ≤ x3_1) = true := dT c3
     clear c3
     obtain ⟨rh, A5, H⟩ := oA_ H
     try dsimp only at H
     by_cases c6 : rh = true
     ·subst c6
      rw [if_pos rfl] at H
      have H' := aM H
      clear H
      have p4 : 0 ≤ (x3_1 : Int) := oD z2
      have q4 : x3_1 < (a0.size : Int) := oD z2
      have hx4 := bt_at a0 x3_1
      replace p4 := eq_true p4
      replace q4 := eq_true q4
      go_wp2_with (first | ((with_reducible refine av (f := 29) rfl ?_); refine ay (some 13) rfl rfl Try.func29 z0 rfl #[.int .u8 (bt a0 x3_1)] rfl z14 ?_; (with_reducible refine (spec_l1Open.calls (bt a0 x3_1) true _ A5.out).mono ?_); rintro e w' ⟨rfl, ⟨nd, rfl⟩⟩; refine ⟨_, rfl, ?_⟩))
      go_roundg k1
      case measure => have := HK1.out; omega
      case rel => exact ⟨(wrap64 (x3_1 + 1)), z1, H', ⟨by have := HK1.out; omega⟩, y3⟩
     ·replace c6 := Bool.eq_false_iff.mpr c6
      subst c6
      rw [if_neg nF_] at H
      obtain ⟨rg, A8, H⟩ := oA_ H
      try dsimp only at H
      by_cases c9 : rg = true
      ·subst c9
       rw [if_pos rfl] at H
       have H' := aM H
       clear H
       have p4 : 0 ≤ (x3_1 : Int) := oD z2
       have q4 : x3_1 < (a0.size : Int) := oD z2
       have hx4 := bt_at a0 x3_1
       replace p4 := eq_true p4
       replace q4 := eq_true q4
       go_wp2_with (first | ((with_reducible refine av (f := 29) rfl ?_); refine ay (some 13) rfl rfl Try.func29 z0 rfl #[.int .u8 (bt a0 x3_1)] rfl z14 ?_; (with_reducible refine (spec_l1Open.calls (bt a0 x3_1) false _ A5.out).mono ?_); rintro e w' ⟨rfl, ⟨nd, rfl⟩⟩; refine ⟨_, rfl, ?_⟩; have p7 : 0 ≤ (x3_1 : Int) := oD z2; have q7 : x3_1 < (a0.size : Int) := oD z2; have hx7 := bt_at a0 x3_1; replace p7 := eq_true p7; replace q7 := eq_true q7) | (go_at_call 85; (with_reducible refine (spec_l1Plain.calls (bt a0 x3_1) true _ A8.out).mono ?_); rintro e w' ⟨rfl, ⟨nd, rfl⟩⟩))
       go_roundg k1
       case measure => have := HK1.out; omega
       case rel => exact ⟨(wrap64 (x3_1 + 1)), z1, H', ⟨by have := HK1.out; omega⟩, y3⟩
      ·replace c9 := Bool.eq_false_iff.mpr c9
       subst c9
       rw [if_neg nF_] at H
       by_cases cP : (bt a0 x3_1) = 47
       ·rw [if_pos cP] at H
        have c11b0 : ((bt a0 x3_1) == 47) = true := qT cP
        have c11b1 : ((bt a0 x3_1) != 47) = false := nF cP
        clear cP
        have H' := aM H
        clear H
        have p4 : 0 ≤ (x3_1 : Int) := oD z2
        have q4 : x3_1 < (a0.size : Int) := oD z2
        have hx4 := bt_at a0 x3_1
        replace p4 := eq_true p4
        replace q4 := eq_true q4
        go_wp2_with (first | ((with_reducible refine av (f := 29) rfl ?_); refine ay (some 13) rfl rfl Try.func29 z0 rfl #[.int .u8 (bt a0 x3_1)] rfl z14 ?_; (with_reducible refine (spec_l1Open.calls (bt a0 x3_1) false _ A5.out).mono ?_); rintro e w' ⟨rfl, ⟨nd, rfl⟩⟩; refine ⟨_, rfl, ?_⟩; have p7 : 0 ≤ (x3_1 : Int) := oD z2; have q7 : x3_1 < (a0.size : Int) := oD z2; have hx7 := bt_at a0 x3_1; replace p7 := eq_true p7; replace q7 := eq_true q7) | (go_at_call 85; (with_reducible refine (spec_l1Plain.calls (bt a0 x3_1) false _ A8.out).mono ?_); rintro e w' ⟨rfl, ⟨nd, rfl⟩⟩; have p10 : 0 ≤ (x3_1 : Int) := oD z2; have q10 : x3_1 < (a0.size : Int) := oD z2; have hx10 := bt_at a0 x3_1; replace p10 := eq_true p10; replace q10 := eq_true q10))
        go_roundg k1
        case measure => have := HK1.out; omega
        case rel => exact ⟨(wrap64 (x3_1 + 1)), z1, H', ⟨by have := HK1.out; omega⟩, y3⟩
       ·rw [if_neg cP] at H
        have c11b0 : ((bt a0 x3_1) == 47) = false := qF cP
        have c11b1 : ((bt a0 x3_1) != 47) = true := nT cP
        obtain rfl := sI H
        have p4 : 0 ≤ (x3_1 : Int) := oD z2
        have q4 : x3_1 < (a0.size : Int) := oD z2
        have hx4 := bt_at a0 x3_1
        replace p4 := eq_true p4
        replace q4 := eq_true q4
        go_wp2_with (first | ((with_reducible refine av (f := 29) rfl ?_); refine ay (some 13) rfl rfl Try.func29 z0 rfl #[.int .u8 (bt a0 x3_1)] rfl z14 ?_; (with_reducible refine (spec_l1Open.calls (bt a0 x3_1) false _ A5.out).mono ?_); rintro e w' ⟨rfl, ⟨nd, rfl⟩⟩; refine ⟨_, rfl, ?_⟩; have p7 : 0 ≤ (x3_1 : Int) := oD z2; have q7 : x3_1 < (a0.size : Int) := oD z2; have hx7 := bt_at a0 x3_1; replace p7 := eq_true p7; replace q7 := eq_true q7) | (go_at_call 85; (with_reducible refine (spec_l1Plain.calls (bt a0 x3_1) false _ A8.out).mono ?_); rintro e w' ⟨rfl, ⟨nd, rfl⟩⟩; have p10 : 0 ≤ (x3_1 : Int) := oD z2; have q10 : x3_1 < (a0.size : Int) := oD z2; have hx10 := bt_at a0 x3_1; replace p10 := eq_true p10; replace q10 := eq_true q10))
        go_ret
        exact ⟨y1, y3⟩
    ·rw [if_neg c3] at H
     exact absurd H (by simp)
   ·rw [if_neg c2] at H
    have c2b0 : decide (x3_1 < (a0.size : Int)) = false := dF c2
    clear c2
    obtain rfl := sI H
    go_wp2
    go_ret
    exact ⟨y1, y3⟩

/-! ### spec_GoodText: function 48 -/
def spec_GoodText.f (k : Nat) (a0 : ByteArray) : Option (Bool) := (spec_l1Text.f k a0).bind fun n7 => (if n7 = true then (some (decide ((a0.size : Int) ≤ 300))) else (some false))
theorem spec_GoodText.mono : ∀ a0 k, LeO (spec_GoodText.f k a0) (spec_GoodText.f (k + 1) a0) := by
 intro a0 k
 unfold spec_GoodText.f
 repeat' first
   | (with_reducible exact spec_l1Text.mono _ _)
   | (with_reducible exact LeO.refl _)
   | (with_reducible exact LeO.none _)
   | (with_reducible refine LeO.ite ?_ ?_)
   | (with_reducible refine LeO.bind ?_ (fun _ => ?_))
set_option maxHeartbeats 8000000 in
set_option maxRecDepth 100000 in
theorem spec_GoodText.calls (k : Nat) (a0 : ByteArray) (r : Bool) (w : World) (h : spec_GoodText.f k a0 = some r) :
  Calls Try.prog 48 #[.string a0] w fun e w' => e = .returned (.bool r) ∧ Drawn0 w w' := by
 have H : ((spec_l1Text.f k a0).bind fun n7 => (if n7 = true then (some (decide ((a0.size : Int) ≤ 300))) else (some false))) = some r := h
 clear h
 obtain ⟨n7, A2, H⟩ := oA_ H
 try dsimp only at H
 by_cases c3 : n7 = true
 ·subst c3
  rw [if_pos rfl] at H
  obtain rfl := sI H
  go_enter Try.func48, Try.ntmps48
  go_wp2_with (first | ((with_reducible refine av (f := 69) rfl ?_); refine ay (some 4) rfl rfl Try.func69 z0 rfl #[.string a0] rfl z14 ?_; (with_reducible refine (spec_l1Text.calls k a0 true _ A2.out).mono ?_); rintro e w' ⟨rfl, ⟨nd, rfl⟩⟩; refine ⟨_, rfl, ?_⟩))
  go_ret
  exact ⟨y1, y3⟩
 ·replace c3 := Bool.eq_false_iff.mpr c3
  subst c3
  rw [if_neg nF_] at H
  obtain rfl := sI H
  go_enter Try.func48, Try.ntmps48
  go_wp2_with (first | ((with_reducible refine av (f := 69) rfl ?_); refine ay (some 4) rfl rfl Try.func69 z0 rfl #[.string a0] rfl z14 ?_; (with_reducible refine (spec_l1Text.calls k a0 false _ A2.out).mono ?_); rintro e w' ⟨rfl, ⟨nd, rfl⟩⟩; refine ⟨_, rfl, ?_⟩))
  go_ret
  exact ⟨y1, y3⟩

/-! ### spec_l1Balanced: function 49 -/
mutual
def spec_l1Balanced.l0 : Nat → ByteArray → Int → Int → Option (Bool)
 | 0, _, _, _ => none
 | k + 1, x0, x3, x4 => if x4 < (x0.size : Int) then (if 0 ≤ x4 then ((spec_l1Open.f (bt x0 x4)).bind fun pJ => (if pJ = true then (spec_l1Balanced.j1 k x0 (wrap64 (x3 + 1)) x4) else (spec_l1Balanced.j1 k x0 x3 x4))) else (none)) else (some (x3 == 0))
def spec_l1Balanced.j1 : Nat → ByteArray → Int → Int → Option (Bool)
 | 0, _, _, _ => none
 | k + 1, x0, x3, x4 => if 0 ≤ x4 then (if x4 < (x0.size : Int) then (if (bt x0 x4) = 47 then (if (wrap64 (x3 - 1)) < 0 then (some false) else (if (wrap64 (x3 - 1)) > 12 then (some false) else (spec_l1Balanced.l0 k x0 (wrap64 (x3 - 1)) (wrap64 (x4 + 1))))) else (if x3 < 0 then (some false) else (if x3 > 12 then (some false) else (spec_l1Balanced.l0 k x0 x3 (wrap64 (x4 + 1)))))) else (none)) else (none)
end
def spec_l1Balanced.f (k : Nat) (a0 : ByteArray) : Option (Bool) := spec_l1Balanced.l0 k a0 0 0
theorem spec_l1Balanced.mono_l : ∀ k, (∀ y0 y1 y2, LeO (spec_l1Balanced.l0 k y0 y1 y2) (spec_l1Balanced.l0 (k + 1) y0 y1 y2)) ∧ (∀ y0 y1 y2, LeO (spec_l1Balanced.j1 k y0 y1 y2) (spec_l1Balanced.j1 (k + 1) y0 y1 y2))
 | 0 => ⟨fun _ _ _ r h => by simp [spec_l1Balanced.l0] at h, fun _ _ _ r h => by simp [spec_l1Balanced.j1] at h⟩
 | k + 1 => by
  obtain ⟨ih0, ih1⟩ := spec_l1Balanced.mono_l k
  refine ⟨?_, ?_⟩
  ·intro y0 y1 y2
   unfold spec_l1Balanced.l0
   repeat' first
   | (with_reducible exact ih0 _ _ _)
   | (with_reducible exact ih1 _ _ _)
   | (with_reducible exact LeO.refl _)
   | (with_reducible exact LeO.none _)
   | (with_reducible refine LeO.ite ?_ ?_)
   | (with_reducible refine LeO.bind ?_ (fun _ => ?_))
  ·intro y0 y1 y2
   unfold spec_l1Balanced.j1
   repeat' first
   | (with_reducible exact ih0 _ _ _)
   | (with_reducible exact ih1 _ _ _)
   | (with_reducible exact LeO.refl _)
   | (with_reducible exact LeO.none _)
   | (with_reducible refine LeO.ite ?_ ?_)
   | (with_reducible refine LeO.bind ?_ (fun _ => ?_))
theorem spec_l1Balanced.mono : ∀ a0 k, LeO (spec_l1Balanced.f k a0) (spec_l1Balanced.f (k + 1) a0) := by
 intro a0 k
 obtain ⟨ih0, ih1⟩ := spec_l1Balanced.mono_l k
 unfold spec_l1Balanced.f
 repeat' first
   | (with_reducible exact ih0 _ _ _)
   | (with_reducible exact ih1 _ _ _)
   | (with_reducible exact LeO.refl _)
   | (with_reducible exact LeO.none _)
   | (with_reducible refine LeO.ite ?_ ?_)
   | (with_reducible refine LeO.bind ?_ (fun _ => ?_))
set_option maxHeartbeats 8000000 in
set_option maxRecDepth 100000 in
theorem spec_l1Balanced.calls (k : Nat) (a0 : ByteArray) (r : Bool) (w : World) (h : spec_l1Balanced.f k a0 = some r) :
  Calls Try.prog 49 #[.string a0] w fun e w' => e = .returned (.bool r) ∧ Drawn0 w w' := by
 have H : (spec_l1Balanced.l0 k a0 0 0) = some r := h
 clear h
 have H' := aM H
 clear H
 go_enter Try.func49, Try.ntmps49
 go_wp2
 go_loopg [3, 4] k (fun kq v3 v4 w' => ∃ (x3_1 : Int) (x4_1 : Int), v3 = .int .i64 x3_1 ∧ v4 = .int .i64 x4_1 ∧ Aside0 (spec_l1Balanced.l0 kq a0 x3_1 x4_1 = some r) ∧ Aside0 (kq ≤ k) ∧ Drawn0 w w')
 case atStart => exact ⟨(0), (0), z1, z1, H', ⟨Nat.le_refl _⟩, y3⟩
 case round =>
  clear H'
  obtain ⟨x3_1, x4_1, rfl, rfl, HA, HK1, ⟨m1, rfl⟩⟩ := hrel
  cases gk with
  | zero => exact absurd HA.out (by simp [spec_l1Balanced.l0])
  | succ k1 =>
   have H := HA.out
   clear HA
   simp only [spec_l1Balanced.l0] at H
   by_cases c2 : x4_1 < (a0.size : Int)
   ·rw [if_pos c2] at H
    have c2b0 : decide (x4_1 < (a0.size : Int)) = true := dT c2
    clear c2
    by_cases c3 : 0 ≤ x4_1
    ·rw [if_pos c3] at H
     have c3b0 : decide (0 ≤ x4_1) = true := dT c3
     clear c3
     obtain ⟨pJ, A5, H⟩ := oA_ H
     try dsimp only at H
     have iP := aM H
     clear H
     have p4 : 0 ≤ (x4_1 : Int) := oD z2
     have q4 : x4_1 < (a0.size : Int) := oD z2
     have hx4 := bt_at a0 x4_1
     replace p4 := eq_true p4
     replace q4 := eq_true q4
     go_upto_if 14 with (first | ((with_reducible refine av (f := 29) rfl ?_); refine ay (some 14) rfl rfl Try.func29 z0 rfl #[.int .u8 (bt a0 x4_1)] rfl z14 ?_; (with_reducible refine (spec_l1Open.calls (bt a0 x4_1) pJ _ A5.out).mono ?_); rintro e w' ⟨rfl, ⟨nd, rfl⟩⟩; refine ⟨_, rfl, ?_⟩))
     (try simp only [Act.put, sA, sB, sC])
     go_cut [3] (fun v3 wc => ∃ (kq : Nat) (x3_5 : Int), v3 = .int .i64 x3_5 ∧ Aside0 (spec_l1Balanced.j1 kq a0 x3_5 x4_1 = some r) ∧ Aside0 (kq ≤ k1) ∧ Drawn0 w wc)
     case first =>
      have H := iP.out
      clear iP
      by_cases c7 : pJ = true
      ·subst c7
       rw [if_pos rfl] at H
       have H' := aM H
       clear H
       go_wp2
       go_meet
       case rel => exact ⟨_, (wrap64 (x3_1 + 1)), z1, H', ⟨y2⟩, y3⟩
      ·replace c7 := Bool.eq_false_iff.mpr c7
       subst c7
       rw [if_neg nF_] at H
       have H' := aM H
       clear H
       go_wp2
       go_meet
       case rel => exact ⟨_, (x3_1), z1, H', ⟨y2⟩, y3⟩
     case rest =>
      clear iP
      try clear c2
      try clear c2b0
      try clear c3
      try clear c3b0
      try clear p4
      try clear q4
      try clear hx4
      try clear p4
      try clear q4
      obtain ⟨kq, x3_5, rfl, HA, gw, ⟨mc5, rfl⟩⟩ := hcut
      cases kq with
      | zero => exact absurd HA.out (by simp [spec_l1Balanced.j1])
      | succ kj5 =>
       have H := HA.out
       clear HA
       simp only [spec_l1Balanced.j1] at H
       by_cases c8 : 0 ≤ x4_1
       ·rw [if_pos c8] at H
        have c8b0 : decide (0 ≤ x4_1) = true := dT c8
        clear c8
        by_cases c9 : x4_1 < (a0.size : Int)
        ·rw [if_pos c9] at H
         have c9b0 : decide (x4_1 < (a0.size : Int)) = true := dT c9
         clear c9
         by_cases cP : (bt a0 x4_1) = 47
         ·rw [if_pos cP] at H
          have c11b0 : ((bt a0 x4_1) == 47) = true := qT cP
          have c11b1 : ((bt a0 x4_1) != 47) = false := nF cP
          clear cP
          by_cases b5 : (wrap64 (x3_5 - 1)) < 0
          ·rw [if_pos b5] at H
           have c12b0 : decide ((wrap64 (x3_5 - 1)) < 0) = true := dT b5
           clear b5
           obtain rfl := sI H
           have p10 : 0 ≤ (x4_1 : Int) := oD z2
           have q10 : x4_1 < (a0.size : Int) := oD z2
           have hx10 := bt_at a0 x4_1
           replace p10 := eq_true p10
           replace q10 := eq_true q10
           go_wp2
           go_ret
           exact ⟨y1, y3⟩
          ·rw [if_neg b5] at H
           have c12b0 : decide ((wrap64 (x3_5 - 1)) < 0) = false := dF b5
           clear b5
           by_cases ce : (wrap64 (x3_5 - 1)) > 12
           ·rw [if_pos ce] at H
            have c13b0 : decide (12 < (wrap64 (x3_5 - 1))) = true := dT ce
            clear ce
            obtain rfl := sI H
            have p10 : 0 ≤ (x4_1 : Int) := oD z2
            have q10 : x4_1 < (a0.size : Int) := oD z2
            have hx10 := bt_at a0 x4_1
            replace p10 := eq_true p10
            replace q10 := eq_true q10
            go_wp2
            go_ret
            exact ⟨y1, y3⟩
           ·rw [if_neg ce] at H
            have c13b0 : decide (12 < (wrap64 (x3_5 - 1))) = false := dF ce
            clear ce
            have H' := aM H
            clear H
            have p10 : 0 ≤ (x4_1 : Int) := oD z2
            have q10 : x4_1 < (a0.size : Int) := oD z2
            have hx10 := bt_at a0 x4_1
            replace p10 := eq_true p10
            replace q10 := eq_true q10
            go_wp2
            go_roundg kj5
            case measure => have := HK1.out; have := gw.out; omega
            case rel => exact ⟨(wrap64 (x3_5 - 1)), (wrap64 (x4_1 + 1)), z1, z1, H', ⟨by have := HK1.out; have := gw.out; omega⟩, y3⟩
         ·rw [if_neg cP] at H
          have c11b0 : ((bt a0 x4_1) == 47) = false := qF cP
          have c11b1 : ((bt a0 x4_1) != 47) = true := nT cP
          by_cases cD : x3_5 < 0
          ·rw [if_pos cD] at H
           have c14b0 : decide (x3_5 < 0) = true := dT cD
           clear cD
           obtain rfl := sI H
           have p10 : 0 ≤ (x4_1 : Int) := oD z2
           have q10 : x4_1 < (a0.size : Int) := oD z2
           have hx10 := bt_at a0 x4_1
           replace p10 := eq_true p10
           replace q10 := eq_true q10
           go_wp2
           go_ret
           exact ⟨y1, y3⟩
          ·rw [if_neg cD] at H
           have c14b0 : decide (x3_5 < 0) = false := dF cD
           clear cD
           by_cases cF : x3_5 > 12
           ·rw [if_pos cF] at H
            have c15b0 : decide (12 < x3_5) = true := dT cF
            clear cF
            obtain rfl := sI H
            have p10 : 0 ≤ (x4_1 : Int) := oD z2
            have q10 : x4_1 < (a0.size : Int) := oD z2
            have hx10 := bt_at a0 x4_1
            replace p10 := eq_true p10
            replace q10 := eq_true q10
            go_wp2
            go_ret
            exact ⟨y1, y3⟩
           ·rw [if_neg cF] at H
            have c15b0 : decide (12 < x3_5) = false := dF cF
            clear cF
            have H' := aM H
            clear H
            have p10 : 0 ≤ (x4_1 : Int) := oD z2
            have q10 : x4_1 < (a0.size : Int) := oD z2
            have hx10 := bt_at a0 x4_1
            replace p10 := eq_true p10
            replace q10 := eq_true q10
            go_wp2
            go_roundg kj5
            case measure => have := HK1.out; have := gw.out; omega
            case rel => exact ⟨(x3_5), (wrap64 (x4_1 + 1)), z1, z1, H', ⟨by have := HK1.out; have := gw.out; omega⟩, y3⟩
        ·rw [if_neg c9] at H
         exact absurd H (by simp)
       ·rw [if_neg c8] at H
        exact absurd H (by simp)
    ·rw [if_neg c3] at H
     exact absurd H (by simp)
   ·rw [if_neg c2] at H
    have c2b0 : decide (x4_1 < (a0.size : Int)) = false := dF c2
    clear c2
    obtain rfl := sI H
    go_wp2
    go_ret
    exact ⟨y1, y3⟩

/-! ### spec_GoodDoc: function 28 -/
def spec_GoodDoc.f (k : Nat) (a0 : ByteArray) : Option (Bool) := (spec_GoodText.f k a0).bind fun n6 => (if n6 = true then ((spec_l1Balanced.f k a0).bind fun n5 => (some n5)) else (some false))
theorem spec_GoodDoc.mono : ∀ a0 k, LeO (spec_GoodDoc.f k a0) (spec_GoodDoc.f (k + 1) a0) := by
 intro a0 k
 unfold spec_GoodDoc.f
 repeat' first
   | (with_reducible exact spec_GoodText.mono _ _)
   | (with_reducible exact spec_l1Balanced.mono _ _)
   | (with_reducible exact LeO.refl _)
   | (with_reducible exact LeO.none _)
   | (with_reducible refine LeO.ite ?_ ?_)
   | (with_reducible refine LeO.bind ?_ (fun _ => ?_))
set_option maxHeartbeats 8000000 in
set_option maxRecDepth 100000 in
theorem spec_GoodDoc.calls (k : Nat) (a0 : ByteArray) (r : Bool) (w : World) (h : spec_GoodDoc.f k a0 = some r) :
  Calls Try.prog 28 #[.string a0] w fun e w' => e = .returned (.bool r) ∧ Drawn0 w w' := by
 have H : ((spec_GoodText.f k a0).bind fun n6 => (if n6 = true then ((spec_l1Balanced.f k a0).bind fun n5 => (some n5)) else (some false))) = some r := h
 clear h
 obtain ⟨n6, A2, H⟩ := oA_ H
 try dsimp only at H
 by_cases c3 : n6 = true
 ·subst c3
  rw [if_pos rfl] at H
  obtain ⟨n5, A4, H⟩ := oA_ H
  try dsimp only at H
  obtain rfl := sI H
  go_enter Try.func28, Try.ntmps28
  go_wp2_with (first | ((with_reducible refine av (f := 48) rfl ?_); refine ay (some 4) rfl rfl Try.func48 z0 rfl #[.string a0] rfl z14 ?_; (with_reducible refine (spec_GoodText.calls k a0 true _ A2.out).mono ?_); rintro e w' ⟨rfl, ⟨nd, rfl⟩⟩; refine ⟨_, rfl, ?_⟩) | (go_at_call 49; (with_reducible refine (spec_l1Balanced.calls k a0 n5 _ A4.out).mono ?_); rintro e w' ⟨rfl, ⟨nd, rfl⟩⟩))
  go_ret
  exact ⟨y1, y3⟩
 ·replace c3 := Bool.eq_false_iff.mpr c3
  subst c3
  rw [if_neg nF_] at H
  obtain rfl := sI H
  go_enter Try.func28, Try.ntmps28
  go_wp2_with (first | ((with_reducible refine av (f := 48) rfl ?_); refine ay (some 4) rfl rfl Try.func48 z0 rfl #[.string a0] rfl z14 ?_; (with_reducible refine (spec_GoodText.calls k a0 false _ A2.out).mono ?_); rintro e w' ⟨rfl, ⟨nd, rfl⟩⟩; refine ⟨_, rfl, ?_⟩))
  go_ret
  exact ⟨y1, y3⟩

end Go.Proofs.Ytmigfgcpdelnfaa.AFnUndoneBy
