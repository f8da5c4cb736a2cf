-- this session's own text: written by wip/tools/ownprint.py over the kit's print
import Derived.Test.YtmkenlejdaphnaaAFnRopesx0
namespace Go.Proofs.Ytmkenlejdaphnaa.AFnRopes
open Go.RowKit Go.Proofs.YtmkenlejdaphnaaW.PrintWords Go.Proofs.YtmkenlejdaphnaaW.PrintLast Go.Proofs.YtmkenlejdaphnaaW.PrintMore
attribute [local go_sem] max2_int min2_int max_two min_two max_three min_three max_four min_four   -- for this text's walks alone
set_option linter.unusedVariables false
set_option linter.unusedSimpArgs false

/-! ### spec_l1In: function 50 -/
def spec_l1In.f (a0 : Int) (a1 : Int) (a2 : Int) : Option (Bool) := if a0 ≥ a1 then (some (decide (a0 ≤ a2))) else (some false)
set_option maxHeartbeats 8000000 in
set_option maxRecDepth 100000 in
theorem spec_l1In.calls (a0 : Int) (a1 : Int) (a2 : Int) (r : Bool) (w : World) (h : spec_l1In.f a0 a1 a2 = some r) :
  Calls Try.prog 50 #[.int .i64 a0, .int .i64 a1, .int .i64 a2] w fun e w' => e = .returned (.bool r) ∧ Drawn0 w w' := by
 have H : (if a0 ≥ a1 then (some (decide (a0 ≤ a2))) else (some false)) = some r := h
 clear h
 by_cases c4 : a0 ≥ a1
 ·rw [if_pos c4] at H
  have c4b0 : decide (a1 ≤ a0) = true := dT c4
  clear c4
  obtain rfl := sI H
  go_enter Try.func50, Try.ntmps50
  go_wp2
  go_ret
  exact ⟨y1, y3⟩
 ·rw [if_neg c4] at H
  have c4b0 : decide (a1 ≤ a0) = false := dF c4
  clear c4
  obtain rfl := sI H
  go_enter Try.func50, Try.ntmps50
  go_wp2
  go_ret
  exact ⟨y1, y3⟩

/-! ### spec_l1Open: function 93 -/
def spec_l1Open.f (a0 : Int) : Option (Bool) := if a0 ≥ 65 then (some (decide (a0 ≤ 70))) else (some false)
set_option maxHeartbeats 8000000 in
set_option maxRecDepth 100000 in
theorem spec_l1Open.calls (a0 : Int) (r : Bool) (w : World) (h : spec_l1Open.f a0 = some r) :
  Calls Try.prog 93 #[.int .u8 a0] w fun e w' => e = .returned (.bool r) ∧ Drawn0 w w' := by
 have H : (if a0 ≥ 65 then (some (decide (a0 ≤ 70))) else (some false)) = some r := h
 clear h
 by_cases c2 : a0 ≥ 65
 ·rw [if_pos c2] at H
  have c2b0 : decide (65 ≤ a0) = true := dT c2
  clear c2
  obtain rfl := sI H
  go_enter Try.func93, Try.ntmps93
  go_wp2
  go_ret
  exact ⟨y1, y3⟩
 ·rw [if_neg c2] at H
  have c2b0 : decide (65 ≤ a0) = false := dF c2
  clear c2
  obtain rfl := sI H
  go_enter Try.func93, Try.ntmps93
  go_wp2
  go_ret
  exact ⟨y1, y3⟩

/-! ### spec_l1Plain: function 94 -/
def spec_l1Plain.f (a0 : Int) : Option (Bool) := if a0 ≥ 97 then (if a0 ≤ 122 then (some true) else (if a0 ≥ 48 then (if a0 ≤ 57 then (some true) else (if a0 = 32 then (some true) else (if a0 = 46 then (some true) else (some (a0 == 44))))) else (if a0 = 32 then (some true) else (if a0 = 46 then (some true) else (some (a0 == 44)))))) else (if a0 ≥ 48 then (if a0 ≤ 57 then (some true) else (if a0 = 32 then (some true) else (if a0 = 46 then (some true) else (some (a0 == 44))))) else (if a0 = 32 then (some true) else (if a0 = 46 then (some true) else (some (a0 == 44)))))
set_option maxHeartbeats 8000000 in
set_option maxRecDepth 100000 in
theorem spec_l1Plain.calls (a0 : Int) (r : Bool) (w : World) (h : spec_l1Plain.f a0 = some r) :
  Calls Try.prog 94 #[.int .u8 a0] w fun e w' => e = .returned (.bool r) ∧ Drawn0 w w' := by
 have H : (if a0 ≥ 97 then (if a0 ≤ 122 then (some true) else (if a0 ≥ 48 then (if a0 ≤ 57 then (some true) else (if a0 = 32 then (some true) else (if a0 = 46 then (some true) else (some (a0 == 44))))) else (if a0 = 32 then (some true) else (if a0 = 46 then (some true) else (some (a0 == 44)))))) else (if a0 ≥ 48 then (if a0 ≤ 57 then (some true) else (if a0 = 32 then (some true) else (if a0 = 46 then (some true) else (some (a0 == 44))))) else (if a0 = 32 then (some true) else (if a0 = 46 then (some true) else (some (a0 == 44)))))) = some r := h
 clear h
 by_cases c2 : a0 ≥ 97
 ·rw [if_pos c2] at H
  have c2b0 : decide (97 ≤ a0) = true := dT c2
  clear c2
  by_cases c3 : a0 ≤ 122
  ·rw [if_pos c3] at H
   have c3b0 : decide (a0 ≤ 122) = true := dT c3
   clear c3
   obtain rfl := sI H
   go_enter Try.func94, Try.ntmps94
   go_wp2
   go_ret
   exact ⟨y1, y3⟩
  ·rw [if_neg c3] at H
   have c3b0 : decide (a0 ≤ 122) = false := dF c3
   clear c3
   by_cases c4 : a0 ≥ 48
   ·rw [if_pos c4] at H
    have c4b0 : decide (48 ≤ a0) = true := dT c4
    clear c4
    by_cases c5 : a0 ≤ 57
    ·rw [if_pos c5] at H
     have c5b0 : decide (a0 ≤ 57) = true := dT c5
     clear c5
     obtain rfl := sI H
     go_enter Try.func94, Try.ntmps94
     go_wp2
     go_ret
     exact ⟨y1, y3⟩
    ·rw [if_neg c5] at H
     have c5b0 : decide (a0 ≤ 57) = false := dF c5
     clear c5
     by_cases c6 : a0 = 32
     ·rw [if_pos c6] at H
      have c6b0 : (a0 == 32) = true := qT c6
      have c6b1 : (a0 != 32) = false := nF c6
      clear c6
      obtain rfl := sI H
      go_enter Try.func94, Try.ntmps94
      go_wp2
      go_ret
      exact ⟨y1, y3⟩
     ·rw [if_neg c6] at H
      have c6b0 : (a0 == 32) = false := qF c6
      have c6b1 : (a0 != 32) = true := nT c6
      by_cases c7 : a0 = 46
      ·rw [if_pos c7] at H
       have c7b0 : (a0 == 46) = true := qT c7
       have c7b1 : (a0 != 46) = false := nF c7
       clear c7
       obtain rfl := sI H
       go_enter Try.func94, Try.ntmps94
       go_wp2
       go_ret
       exact ⟨y1, y3⟩
      ·rw [if_neg c7] at H
       have c7b0 : (a0 == 46) = false := qF c7
       have c7b1 : (a0 != 46) = true := nT c7
       obtain rfl := sI H
       go_enter Try.func94, Try.ntmps94
       go_wp2
       go_ret
       exact ⟨y1, y3⟩
   ·rw [if_neg c4] at H
    have c4b0 : decide (48 ≤ a0) = false := dF c4
    clear c4
    by_cases c8 : a0 = 32
    ·rw [if_pos c8] at H
     have c8b0 : (a0 == 32) = true := qT c8
     have c8b1 : (a0 != 32) = false := nF c8
     clear c8
     obtain rfl := sI H
     go_enter Try.func94, Try.ntmps94
     go_wp2
     go_ret
     exact ⟨y1, y3⟩
    ·rw [if_neg c8] at H
     have c8b0 : (a0 == 32) = false := qF c8
     have c8b1 : (a0 != 32) = true := nT c8
     by_cases c9 : a0 = 46
     ·rw [if_pos c9] at H
      have c9b0 : (a0 == 46) = true := qT c9
      have c9b1 : (a0 != 46) = false := nF c9
      clear c9
      obtain rfl := sI H
      go_enter Try.func94, Try.ntmps94
      go_wp2
      go_ret
      exact ⟨y1, y3⟩
     ·rw [if_neg c9] at H
      have c9b0 : (a0 == 46) = false := qF c9
      have c9b1 : (a0 != 46) = true := nT c9
      obtain rfl := sI H
      go_enter Try.func94, Try.ntmps94
      go_wp2
      go_ret
      exact ⟨y1, y3⟩
 ·rw [if_neg c2] at H
  have c2b0 : decide (97 ≤ a0) = false := dF c2
  clear c2
  by_cases eH : a0 ≥ 48
  ·rw [if_pos eH] at H
   have c10b0 : decide (48 ≤ a0) = true := dT eH
   clear eH
   by_cases e9 : a0 ≤ 57
   ·rw [if_pos e9] at H
    have c11b0 : decide (a0 ≤ 57) = true := dT e9
    clear e9
    obtain rfl := sI H
    go_enter Try.func94, Try.ntmps94
    go_wp2
    go_ret
    exact ⟨y1, y3⟩
   ·rw [if_neg e9] at H
    have c11b0 : decide (a0 ≤ 57) = false := dF e9
    clear e9
    by_cases eZ : a0 = 32
    ·rw [if_pos eZ] at H
     have c12b0 : (a0 == 32) = true := qT eZ
     have c12b1 : (a0 != 32) = false := nF eZ
     clear eZ
     obtain rfl := sI H
     go_enter Try.func94, Try.ntmps94
     go_wp2
     go_ret
     exact ⟨y1, y3⟩
    ·rw [if_neg eZ] at H
     have c12b0 : (a0 == 32) = false := qF eZ
     have c12b1 : (a0 != 32) = true := nT eZ
     by_cases fj : a0 = 46
     ·rw [if_pos fj] at H
      have c13b0 : (a0 == 46) = true := qT fj
      have c13b1 : (a0 != 46) = false := nF fj
      clear fj
      obtain rfl := sI H
      go_enter Try.func94, Try.ntmps94
      go_wp2
      go_ret
      exact ⟨y1, y3⟩
     ·rw [if_neg fj] at H
      have c13b0 : (a0 == 46) = false := qF fj
      have c13b1 : (a0 != 46) = true := nT fj
      obtain rfl := sI H
      go_enter Try.func94, Try.ntmps94
      go_wp2
      go_ret
      exact ⟨y1, y3⟩
  ·rw [if_neg eH] at H
   have c10b0 : decide (48 ≤ a0) = false := dF eH
   clear eH
   by_cases f5 : a0 = 32
   ·rw [if_pos f5] at H
    have c14b0 : (a0 == 32) = true := qT f5
    have c14b1 : (a0 != 32) = false := nF f5
    clear f5
    obtain rfl := sI H
    go_enter Try.func94, Try.ntmps94
    go_wp2
    go_ret
    exact ⟨y1, y3⟩
   ·rw [if_neg f5] at H
    have c14b0 : (a0 == 32) = false := qF f5
    have c14b1 : (a0 != 32) = true := nT f5
    by_cases fe : a0 = 46
    ·rw [if_pos fe] at H
     have c15b0 : (a0 == 46) = true := qT fe
     have c15b1 : (a0 != 46) = false := nF fe
     clear fe
     obtain rfl := sI H
     go_enter Try.func94, Try.ntmps94
     go_wp2
     go_ret
     exact ⟨y1, y3⟩
    ·rw [if_neg fe] at H
     have c15b0 : (a0 == 46) = false := qF fe
     have c15b1 : (a0 != 46) = true := nT fe
     obtain rfl := sI H
     go_enter Try.func94, Try.ntmps94
     go_wp2
     go_ret
     exact ⟨y1, y3⟩

/-! ### spec_l1Text: function 76 -/
def spec_l1Text.l0 : Nat → ByteArray → Int → Option (Bool)
 | 0, _, _ => none
 | k + 1, x0, x3 => if x3 < (x0.size : Int) then (if 0 ≤ x3 then ((spec_l1Open.f (bt x0 x3)).bind fun q9 => (if q9 = true then (spec_l1Text.l0 k x0 (wrap64 (x3 + 1))) else ((spec_l1Plain.f (bt x0 x3)).bind fun q6 => (if q6 = true then (spec_l1Text.l0 k x0 (wrap64 (x3 + 1))) else (if (bt x0 x3) = 47 then (spec_l1Text.l0 k x0 (wrap64 (x3 + 1))) else (some false)))))) else (none)) else (some true)
def spec_l1Text.f (k : Nat) (a0 : ByteArray) : Option (Bool) := spec_l1Text.l0 k a0 0
theorem spec_l1Text.mono_l : ∀ k, (∀ y0 y1, LeO (spec_l1Text.l0 k y0 y1) (spec_l1Text.l0 (k + 1) y0 y1))
 | 0 => fun _ _ r h => by simp [spec_l1Text.l0] at h
 | k + 1 => by
  have ih0 := spec_l1Text.mono_l k
  ·intro y0 y1
   unfold spec_l1Text.l0
   repeat' first
   | (with_reducible exact ih0 _ _)
   | (with_reducible exact LeO.refl _)
   | (with_reducible exact LeO.none _)
   | (with_reducible refine LeO.ite ?_ ?_)
   | (with_reducible refine LeO.bind ?_ (fun _ => ?_))
theorem spec_l1Text.mono : ∀ a0 k, LeO (spec_l1Text.f k a0) (spec_l1Text.f (k + 1) a0) := by
 intro a0 k
 have ih0 := spec_l1Text.mono_l k
 unfold spec_l1Text.f
 repeat' first
   | (with_reducible exact ih0 _ _)
   | (with_reducible exact LeO.refl _)
   | (with_reducible exact LeO.none _)
   | (with_reducible refine LeO.ite ?_ ?_)
   | (with_reducible refine LeO.bind ?_ (fun _ => ?_))
set_option maxHeartbeats 8000000 in
set_option maxRecDepth 100000 in
theorem spec_l1Text.calls (k : Nat) (a0 : ByteArray) (r : Bool) (w : World) (h : spec_l1Text.f k a0 = some r) :
  Calls Try.prog 76 #[.string a0] w fun e w' => e = .returned (.bool r) ∧ Drawn0 w w' := by
 have H : (spec_l1Text.l0 k a0 0) = some r := h
 clear h
 have H' := aM H
 clear H
 go_enter Try.func76, Try.ntmps76
 go_wp2
 go_loopg [3] k (fun kq v3 w' => ∃ (x3_1 : Int), v3 = .int .i64 x3_1 ∧ Aside0 (spec_l1Text.l0 kq a0 x3_1 = some r) ∧ Aside0 (kq ≤ k) ∧ Drawn0 w w')
 case atStart => exact ⟨(0), z2, H', ⟨Nat.le_refl _⟩, y3⟩
 case round =>
  clear H'
  obtain ⟨x3_1, rfl, HA, HK1, ⟨m1, rfl⟩⟩ := hrel
  cases gk with
  | zero => exact absurd HA.out (by simp [spec_l1Text.l0])
  | succ k1 =>
   have H := HA.out
   clear HA
   simp only [spec_l1Text.l0] at H
   by_cases c2 : x3_1 < (a0.size : Int)
   ·rw [if_pos c2] at H
    have c2b0 : decide (x3_1 < (a0.size : Int)) = true := dT c2
    clear c2
    by_cases c3 : 0 ≤ x3_1
    ·rw [if_pos c3] at H
     have c3b0 : decide (0 ≤ x3_1) = true := dT c3
     clear c3
     obtain ⟨q9, A5, H⟩ := oA_ H
     try dsimp only at H
     by_cases c6 : q9 = true
     ·subst c6
      rw [if_pos rfl] at H
      have H' := aM H
      clear H
      have p4 : 0 ≤ (x3_1 : Int) := oD z3
      have q4 : x3_1 < (a0.size : Int) := oD z3
      have hx4 := bt_at a0 x3_1
      replace p4 := eq_true p4
      replace q4 := eq_true q4
      go_wp2_with (first | ((with_reducible refine aK (f := 93) rfl ?_); refine aT (some 13) rfl rfl Try.func93 z1 rfl #[.int .u8 (bt a0 x3_1)] rfl z21 ?_; (with_reducible refine (spec_l1Open.calls (bt a0 x3_1) true _ A5.out).mono ?_); rintro e w' ⟨rfl, ⟨nd, rfl⟩⟩; refine ⟨_, rfl, ?_⟩))
      go_roundg k1
      case measure => have := HK1.out; omega
      case rel => exact ⟨(wrap64 (x3_1 + 1)), z2, H', ⟨y0⟩, y3⟩
     ·replace c6 := Bool.eq_false_iff.mpr c6
      subst c6
      rw [if_neg nF_] at H
      obtain ⟨q6, A8, H⟩ := oA_ H
      try dsimp only at H
      by_cases c9 : q6 = true
      ·subst c9
       rw [if_pos rfl] at H
       have H' := aM H
       clear H
       have p4 : 0 ≤ (x3_1 : Int) := oD z3
       have q4 : x3_1 < (a0.size : Int) := oD z3
       have hx4 := bt_at a0 x3_1
       replace p4 := eq_true p4
       replace q4 := eq_true q4
       go_wp2_with (first | ((with_reducible refine aK (f := 93) rfl ?_); refine aT (some 13) rfl rfl Try.func93 z1 rfl #[.int .u8 (bt a0 x3_1)] rfl z21 ?_; (with_reducible refine (spec_l1Open.calls (bt a0 x3_1) false _ A5.out).mono ?_); rintro e w' ⟨rfl, ⟨nd, rfl⟩⟩; refine ⟨_, rfl, ?_⟩; have p7 : 0 ≤ (x3_1 : Int) := oD z3; have q7 : x3_1 < (a0.size : Int) := oD z3; have hx7 := bt_at a0 x3_1; replace p7 := eq_true p7; replace q7 := eq_true q7) | (go_at_call 94; (with_reducible refine (spec_l1Plain.calls (bt a0 x3_1) true _ A8.out).mono ?_); rintro e w' ⟨rfl, ⟨nd, rfl⟩⟩))
       go_roundg k1
       case measure => have := HK1.out; omega
       case rel => exact ⟨(wrap64 (x3_1 + 1)), z2, H', ⟨y0⟩, y3⟩
      ·replace c9 := Bool.eq_false_iff.mpr c9
       subst c9
       rw [if_neg nF_] at H
       by_cases e9 : (bt a0 x3_1) = 47
       ·rw [if_pos e9] at H
        have c11b0 : ((bt a0 x3_1) == 47) = true := qT e9
        have c11b1 : ((bt a0 x3_1) != 47) = false := nF e9
        clear e9
        have H' := aM H
        clear H
        have p4 : 0 ≤ (x3_1 : Int) := oD z3
        have q4 : x3_1 < (a0.size : Int) := oD z3
        have hx4 := bt_at a0 x3_1
        replace p4 := eq_true p4
        replace q4 := eq_true q4
        go_wp2_with (first | ((with_reducible refine aK (f := 93) rfl ?_); refine aT (some 13) rfl rfl Try.func93 z1 rfl #[.int .u8 (bt a0 x3_1)] rfl z21 ?_; (with_reducible refine (spec_l1Open.calls (bt a0 x3_1) false _ A5.out).mono ?_); rintro e w' ⟨rfl, ⟨nd, rfl⟩⟩; refine ⟨_, rfl, ?_⟩; have p7 : 0 ≤ (x3_1 : Int) := oD z3; have q7 : x3_1 < (a0.size : Int) := oD z3; have hx7 := bt_at a0 x3_1; replace p7 := eq_true p7; replace q7 := eq_true q7) | (go_at_call 94; (with_reducible refine (spec_l1Plain.calls (bt a0 x3_1) false _ A8.out).mono ?_); rintro e w' ⟨rfl, ⟨nd, rfl⟩⟩; have p10 : 0 ≤ (x3_1 : Int) := oD z3; have q10 : x3_1 < (a0.size : Int) := oD z3; have hx10 := bt_at a0 x3_1; replace p10 := eq_true p10; replace q10 := eq_true q10))
        go_roundg k1
        case measure => have := HK1.out; omega
        case rel => exact ⟨(wrap64 (x3_1 + 1)), z2, H', ⟨y0⟩, y3⟩
       ·rw [if_neg e9] at H
        have c11b0 : ((bt a0 x3_1) == 47) = false := qF e9
        have c11b1 : ((bt a0 x3_1) != 47) = true := nT e9
        obtain rfl := sI H
        have p4 : 0 ≤ (x3_1 : Int) := oD z3
        have q4 : x3_1 < (a0.size : Int) := oD z3
        have hx4 := bt_at a0 x3_1
        replace p4 := eq_true p4
        replace q4 := eq_true q4
        go_wp2_with (first | ((with_reducible refine aK (f := 93) rfl ?_); refine aT (some 13) rfl rfl Try.func93 z1 rfl #[.int .u8 (bt a0 x3_1)] rfl z21 ?_; (with_reducible refine (spec_l1Open.calls (bt a0 x3_1) false _ A5.out).mono ?_); rintro e w' ⟨rfl, ⟨nd, rfl⟩⟩; refine ⟨_, rfl, ?_⟩; have p7 : 0 ≤ (x3_1 : Int) := oD z3; have q7 : x3_1 < (a0.size : Int) := oD z3; have hx7 := bt_at a0 x3_1; replace p7 := eq_true p7; replace q7 := eq_true q7) | (go_at_call 94; (with_reducible refine (spec_l1Plain.calls (bt a0 x3_1) false _ A8.out).mono ?_); rintro e w' ⟨rfl, ⟨nd, rfl⟩⟩; have p10 : 0 ≤ (x3_1 : Int) := oD z3; have q10 : x3_1 < (a0.size : Int) := oD z3; have hx10 := bt_at a0 x3_1; replace p10 := eq_true p10; replace q10 := eq_true q10))
        go_ret
        exact ⟨y1, y3⟩
    ·rw [if_neg c3] at H
     exact absurd H (by simp)
   ·rw [if_neg c2] at H
    have c2b0 : decide (x3_1 < (a0.size : Int)) = false := dF c2
    clear c2
    obtain rfl := sI H
    go_wp2
    go_ret
    exact ⟨y1, y3⟩

end Go.Proofs.Ytmkenlejdaphnaa.AFnRopes
