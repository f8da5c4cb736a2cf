-- this session's own text: written by wip/tools/ownprint.py over the kit's print
import Derived.Test.YtblnnbaeiggmoaaAFnExactEditRopex0
import Derived.Test.YtblnnbaeiggmoaaAFnExactEditRopex6
namespace Go.Proofs.Ytblnnbaeiggmoaa.AFnExactEditRope
open Go.RowKit Go.Proofs.YtblnnbaeiggmoaaW.PrintWords Go.Proofs.YtblnnbaeiggmoaaW.PrintLast Go.Proofs.YtblnnbaeiggmoaaW.PrintMore
attribute [local go_sem] max2_int min2_int max_two min_two max_three min_three max_four min_four   -- for this text's walks alone
set_option linter.unusedVariables false
set_option linter.unusedSimpArgs false

/-! ### impl_isPlain: function 76 -/
def impl_isPlain.f (a0 : Int) : Option (Bool) := if a0 ≥ 97 then (if a0 ≤ 122 then (some true) else (if a0 ≥ 48 then (if a0 ≤ 57 then (some true) else (if a0 = 32 then (some true) else (if a0 = 46 then (some true) else (some (a0 == 44))))) else (if a0 = 32 then (some true) else (if a0 = 46 then (some true) else (some (a0 == 44)))))) else (if a0 ≥ 48 then (if a0 ≤ 57 then (some true) else (if a0 = 32 then (some true) else (if a0 = 46 then (some true) else (some (a0 == 44))))) else (if a0 = 32 then (some true) else (if a0 = 46 then (some true) else (some (a0 == 44)))))
set_option maxHeartbeats 8000000 in
set_option maxRecDepth 100000 in
theorem impl_isPlain.calls (a0 : Int) (r : Bool) (w : World) (h : impl_isPlain.f a0 = some r) :
  Calls Try.prog 76 #[.int .u8 a0] w fun e w' => e = .returned (.bool r) ∧ Drawn0 w w' := by
 have H : (if a0 ≥ 97 then (if a0 ≤ 122 then (some true) else (if a0 ≥ 48 then (if a0 ≤ 57 then (some true) else (if a0 = 32 then (some true) else (if a0 = 46 then (some true) else (some (a0 == 44))))) else (if a0 = 32 then (some true) else (if a0 = 46 then (some true) else (some (a0 == 44)))))) else (if a0 ≥ 48 then (if a0 ≤ 57 then (some true) else (if a0 = 32 then (some true) else (if a0 = 46 then (some true) else (some (a0 == 44))))) else (if a0 = 32 then (some true) else (if a0 = 46 then (some true) else (some (a0 == 44)))))) = some r := h
 clear h
 by_cases c2 : a0 ≥ 97
 ·rw [if_pos c2] at H
  have c2b0 : decide (97 ≤ a0) = true := dT c2
  clear c2
  by_cases c3 : a0 ≤ 122
  ·rw [if_pos c3] at H
   have c3b0 : decide (a0 ≤ 122) = true := dT c3
   clear c3
   obtain rfl := sI H
   go_enter Try.func76, Try.ntmps76
   go_wp2
   go_ret
   exact ⟨y1, y2⟩
  ·rw [if_neg c3] at H
   have c3b0 : decide (a0 ≤ 122) = false := dF c3
   clear c3
   by_cases c4 : a0 ≥ 48
   ·rw [if_pos c4] at H
    have c4b0 : decide (48 ≤ a0) = true := dT c4
    clear c4
    by_cases c5 : a0 ≤ 57
    ·rw [if_pos c5] at H
     have c5b0 : decide (a0 ≤ 57) = true := dT c5
     clear c5
     obtain rfl := sI H
     go_enter Try.func76, Try.ntmps76
     go_wp2
     go_ret
     exact ⟨y1, y2⟩
    ·rw [if_neg c5] at H
     have c5b0 : decide (a0 ≤ 57) = false := dF c5
     clear c5
     by_cases c6 : a0 = 32
     ·rw [if_pos c6] at H
      have c6b0 : (a0 == 32) = true := qT c6
      have c6b1 : (a0 != 32) = false := nF c6
      clear c6
      obtain rfl := sI H
      go_enter Try.func76, Try.ntmps76
      go_wp2
      go_ret
      exact ⟨y1, y2⟩
     ·rw [if_neg c6] at H
      have c6b0 : (a0 == 32) = false := qF c6
      have c6b1 : (a0 != 32) = true := nT c6
      by_cases c7 : a0 = 46
      ·rw [if_pos c7] at H
       have c7b0 : (a0 == 46) = true := qT c7
       have c7b1 : (a0 != 46) = false := nF c7
       clear c7
       obtain rfl := sI H
       go_enter Try.func76, Try.ntmps76
       go_wp2
       go_ret
       exact ⟨y1, y2⟩
      ·rw [if_neg c7] at H
       have c7b0 : (a0 == 46) = false := qF c7
       have c7b1 : (a0 != 46) = true := nT c7
       obtain rfl := sI H
       go_enter Try.func76, Try.ntmps76
       go_wp2
       go_ret
       exact ⟨y1, y2⟩
   ·rw [if_neg c4] at H
    have c4b0 : decide (48 ≤ a0) = false := dF c4
    clear c4
    by_cases c8 : a0 = 32
    ·rw [if_pos c8] at H
     have c8b0 : (a0 == 32) = true := qT c8
     have c8b1 : (a0 != 32) = false := nF c8
     clear c8
     obtain rfl := sI H
     go_enter Try.func76, Try.ntmps76
     go_wp2
     go_ret
     exact ⟨y1, y2⟩
    ·rw [if_neg c8] at H
     have c8b0 : (a0 == 32) = false := qF c8
     have c8b1 : (a0 != 32) = true := nT c8
     by_cases c9 : a0 = 46
     ·rw [if_pos c9] at H
      have c9b0 : (a0 == 46) = true := qT c9
      have c9b1 : (a0 != 46) = false := nF c9
      clear c9
      obtain rfl := sI H
      go_enter Try.func76, Try.ntmps76
      go_wp2
      go_ret
      exact ⟨y1, y2⟩
     ·rw [if_neg c9] at H
      have c9b0 : (a0 == 46) = false := qF c9
      have c9b1 : (a0 != 46) = true := nT c9
      obtain rfl := sI H
      go_enter Try.func76, Try.ntmps76
      go_wp2
      go_ret
      exact ⟨y1, y2⟩
 ·rw [if_neg c2] at H
  have c2b0 : decide (97 ≤ a0) = false := dF c2
  clear c2
  by_cases cL : a0 ≥ 48
  ·rw [if_pos cL] at H
   have c10b0 : decide (48 ≤ a0) = true := dT cL
   clear cL
   by_cases dH : a0 ≤ 57
   ·rw [if_pos dH] at H
    have c11b0 : decide (a0 ≤ 57) = true := dT dH
    clear dH
    obtain rfl := sI H
    go_enter Try.func76, Try.ntmps76
    go_wp2
    go_ret
    exact ⟨y1, y2⟩
   ·rw [if_neg dH] at H
    have c11b0 : decide (a0 ≤ 57) = false := dF dH
    clear dH
    by_cases eT : a0 = 32
    ·rw [if_pos eT] at H
     have c12b0 : (a0 == 32) = true := qT eT
     have c12b1 : (a0 != 32) = false := nF eT
     clear eT
     obtain rfl := sI H
     go_enter Try.func76, Try.ntmps76
     go_wp2
     go_ret
     exact ⟨y1, y2⟩
    ·rw [if_neg eT] at H
     have c12b0 : (a0 == 32) = false := qF eT
     have c12b1 : (a0 != 32) = true := nT eT
     by_cases dM : a0 = 46
     ·rw [if_pos dM] at H
      have c13b0 : (a0 == 46) = true := qT dM
      have c13b1 : (a0 != 46) = false := nF dM
      clear dM
      obtain rfl := sI H
      go_enter Try.func76, Try.ntmps76
      go_wp2
      go_ret
      exact ⟨y1, y2⟩
     ·rw [if_neg dM] at H
      have c13b0 : (a0 == 46) = false := qF dM
      have c13b1 : (a0 != 46) = true := nT dM
      obtain rfl := sI H
      go_enter Try.func76, Try.ntmps76
      go_wp2
      go_ret
      exact ⟨y1, y2⟩
  ·rw [if_neg cL] at H
   have c10b0 : decide (48 ≤ a0) = false := dF cL
   clear cL
   by_cases fG : a0 = 32
   ·rw [if_pos fG] at H
    have c14b0 : (a0 == 32) = true := qT fG
    have c14b1 : (a0 != 32) = false := nF fG
    clear fG
    obtain rfl := sI H
    go_enter Try.func76, Try.ntmps76
    go_wp2
    go_ret
    exact ⟨y1, y2⟩
   ·rw [if_neg fG] at H
    have c14b0 : (a0 == 32) = false := qF fG
    have c14b1 : (a0 != 32) = true := nT fG
    by_cases ex : a0 = 46
    ·rw [if_pos ex] at H
     have c15b0 : (a0 == 46) = true := qT ex
     have c15b1 : (a0 != 46) = false := nF ex
     clear ex
     obtain rfl := sI H
     go_enter Try.func76, Try.ntmps76
     go_wp2
     go_ret
     exact ⟨y1, y2⟩
    ·rw [if_neg ex] at H
     have c15b0 : (a0 == 46) = false := qF ex
     have c15b1 : (a0 != 46) = true := nT ex
     obtain rfl := sI H
     go_enter Try.func76, Try.ntmps76
     go_wp2
     go_ret
     exact ⟨y1, y2⟩

/-! ### impl_GoodText: function 56 -/
def impl_GoodText.l0 : Nat → ByteArray → Int → Int → Option (Bool)
 | 0, _, _, _ => none
 | k + 1, x0, x5, x6 => if x6 < x5 then (if 0 ≤ x6 then (if x6 < (x0.size : Int) then ((impl_isName.f (bt x0 x6)).bind fun mU => (if mU = true then (impl_GoodText.l0 k x0 x5 (wrap64 (x6 + 1))) else ((impl_isPlain.f (bt x0 x6)).bind fun jL => (if jL = true then (impl_GoodText.l0 k x0 x5 (wrap64 (x6 + 1))) else (if (bt x0 x6) = 47 then (impl_GoodText.l0 k x0 x5 (wrap64 (x6 + 1))) else (some false)))))) else (none)) else (none)) else (some (decide ((x0.size : Int) ≤ 300)))
def impl_GoodText.f (k : Nat) (a0 : ByteArray) : Option (Bool) := impl_GoodText.l0 k a0 (a0.size : Int) 0
theorem impl_GoodText.mono_l : ∀ k, (∀ y0 y1 y2, LeO (impl_GoodText.l0 k y0 y1 y2) (impl_GoodText.l0 (k + 1) y0 y1 y2))
 | 0 => fun _ _ _ r h => by simp [impl_GoodText.l0] at h
 | k + 1 => by
  have ih0 := impl_GoodText.mono_l k
  ·intro y0 y1 y2
   unfold impl_GoodText.l0
   repeat' first
   | (with_reducible exact ih0 _ _ _)
   | (with_reducible exact LeO.refl _)
   | (with_reducible exact LeO.none _)
   | (with_reducible refine LeO.ite ?_ ?_)
   | (with_reducible refine LeO.bind ?_ (fun _ => ?_))
   | exact ih0 _ _ _
   | exact LeO.none _
   | refine LeO.ite ?_ ?_
   | refine LeO.bind ?_ (fun _ => ?_)
theorem impl_GoodText.mono : ∀ a0 k, LeO (impl_GoodText.f k a0) (impl_GoodText.f (k + 1) a0) := by
 intro a0 k
 have ih0 := impl_GoodText.mono_l k
 unfold impl_GoodText.f
 repeat' first
   | (with_reducible exact ih0 _ _ _)
   | (with_reducible exact LeO.refl _)
   | (with_reducible exact LeO.none _)
   | (with_reducible refine LeO.ite ?_ ?_)
   | (with_reducible refine LeO.bind ?_ (fun _ => ?_))
   | exact ih0 _ _ _
   | exact LeO.none _
   | refine LeO.ite ?_ ?_
   | refine LeO.bind ?_ (fun _ => ?_)
set_option maxHeartbeats 8000000 in
set_option maxRecDepth 100000 in
theorem impl_GoodText.calls (k : Nat) (a0 : ByteArray) (r : Bool) (w : World) (h : impl_GoodText.f k a0 = some r) :
  Calls Try.prog 56 #[.string a0] w fun e w' => e = .returned (.bool r) ∧ Drawn0 w w' := by
 have H : (impl_GoodText.l0 k a0 (a0.size : Int) 0) = some r := h
 clear h
 have H' := aM H
 clear H
 go_enter Try.func56, Try.ntmps56
 go_wp2
 go_loopg [6] k (fun kq v6 w' => ∃ (x6_1 : Int), v6 = .int .i64 x6_1 ∧ Aside0 (impl_GoodText.l0 kq a0 (a0.size : Int) x6_1 = some r) ∧ Aside0 (kq ≤ k) ∧ Drawn0 w w')
 case atStart => exact ⟨(0), z1, H', ⟨Nat.le_refl _⟩, y2⟩
 case round =>
  clear H'
  obtain ⟨x6_1, rfl, HA, HK1, ⟨m1, rfl⟩⟩ := hrel
  cases gk with
  | zero => exact absurd HA.out (by simp [impl_GoodText.l0])
  | succ k1 =>
   have H := HA.out
   clear HA
   simp only [impl_GoodText.l0] at H
   by_cases c2 : x6_1 < (a0.size : Int)
   ·rw [if_pos c2] at H
    have c2b0 : decide (x6_1 < (a0.size : Int)) = true := dT c2
    clear c2
    by_cases c3 : 0 ≤ x6_1
    ·rw [if_pos c3] at H
     have c3b0 : decide (0 ≤ x6_1) = true := dT c3
     clear c3
     by_cases c4 : x6_1 < (a0.size : Int)
     ·rw [if_pos c4] at H
      have c4b0 : decide (x6_1 < (a0.size : Int)) = true := dT c4
      clear c4
      replace H := oB H
      obtain ⟨mU, fU, H⟩ := H
      try dsimp only at H
      have A6 := aM fU
      clear fU
      by_cases c7 : mU = true
      ·subst c7
       rw [if_pos rfl] at H
       have H' := aM H
       clear H
       have p5 : 0 ≤ (x6_1 : Int) := oD z2
       have q5 : x6_1 < (a0.size : Int) := oD z2
       have hx5 := bt_at a0 x6_1
       replace p5 := eq_true p5
       replace q5 := eq_true q5
       go_wp2_with (first | ((with_reducible refine aI (f := 75) rfl ?_); refine aN (some 12) rfl rfl Try.func75 z0 rfl #[.int .u8 (bt a0 x6_1)] rfl z12 ?_; (with_reducible refine (impl_isName.calls (bt a0 x6_1) true _ A6.out).mono ?_); rintro e w' ⟨rfl, ⟨nd, rfl⟩⟩; refine ⟨_, rfl, ?_⟩))
       go_roundg k1
       case measure => have := HK1.out; omega
       case rel => exact ⟨(wrap64 (x6_1 + 1)), z1, H', ⟨y0⟩, y2⟩
      ·replace c7 := Bool.eq_false_iff.mpr c7
       subst c7
       rw [if_neg (show ¬ (false = true) by decide)] at H
       replace H := oB H
       obtain ⟨jL, oV, H⟩ := H
       try dsimp only at H
       have A9 := aM oV
       clear oV
       by_cases cL : jL = true
       ·subst cL
        rw [if_pos rfl] at H
        have H' := aM H
        clear H
        have p5 : 0 ≤ (x6_1 : Int) := oD z2
        have q5 : x6_1 < (a0.size : Int) := oD z2
        have hx5 := bt_at a0 x6_1
        replace p5 := eq_true p5
        replace q5 := eq_true q5
        go_wp2_with (first | ((with_reducible refine aI (f := 75) rfl ?_); refine aN (some 12) rfl rfl Try.func75 z0 rfl #[.int .u8 (bt a0 x6_1)] rfl z12 ?_; (with_reducible refine (impl_isName.calls (bt a0 x6_1) false _ A6.out).mono ?_); rintro e w' ⟨rfl, ⟨nd, rfl⟩⟩; refine ⟨_, rfl, ?_⟩; have p8 : 0 ≤ (x6_1 : Int) := oD z2; have q8 : x6_1 < (a0.size : Int) := oD z2; have hx8 := bt_at a0 x6_1; replace p8 := eq_true p8; replace q8 := eq_true q8) | (go_at_call 76; (with_reducible refine (impl_isPlain.calls (bt a0 x6_1) true _ A9.out).mono ?_); rintro e w' ⟨rfl, ⟨nd, rfl⟩⟩))
        go_roundg k1
        case measure => have := HK1.out; omega
        case rel => exact ⟨(wrap64 (x6_1 + 1)), z1, H', ⟨y0⟩, y2⟩
       ·replace cL := Bool.eq_false_iff.mpr cL
        subst cL
        rw [if_neg (show ¬ (false = true) by decide)] at H
        by_cases eT : (bt a0 x6_1) = 47
        ·rw [if_pos eT] at H
         have c12b0 : ((bt a0 x6_1) == 47) = true := qT eT
         have c12b1 : ((bt a0 x6_1) != 47) = false := nF eT
         clear eT
         have H' := aM H
         clear H
         have p5 : 0 ≤ (x6_1 : Int) := oD z2
         have q5 : x6_1 < (a0.size : Int) := oD z2
         have hx5 := bt_at a0 x6_1
         replace p5 := eq_true p5
         replace q5 := eq_true q5
         go_wp2_with (first | ((with_reducible refine aI (f := 75) rfl ?_); refine aN (some 12) rfl rfl Try.func75 z0 rfl #[.int .u8 (bt a0 x6_1)] rfl z12 ?_; (with_reducible refine (impl_isName.calls (bt a0 x6_1) false _ A6.out).mono ?_); rintro e w' ⟨rfl, ⟨nd, rfl⟩⟩; refine ⟨_, rfl, ?_⟩; have p8 : 0 ≤ (x6_1 : Int) := oD z2; have q8 : x6_1 < (a0.size : Int) := oD z2; have hx8 := bt_at a0 x6_1; replace p8 := eq_true p8; replace q8 := eq_true q8) | (go_at_call 76; (with_reducible refine (impl_isPlain.calls (bt a0 x6_1) false _ A9.out).mono ?_); rintro e w' ⟨rfl, ⟨nd, rfl⟩⟩; have p11 : 0 ≤ (x6_1 : Int) := oD z2; have q11 : x6_1 < (a0.size : Int) := oD z2; have hx11 := bt_at a0 x6_1; replace p11 := eq_true p11; replace q11 := eq_true q11))
         go_roundg k1
         case measure => have := HK1.out; omega
         case rel => exact ⟨(wrap64 (x6_1 + 1)), z1, H', ⟨y0⟩, y2⟩
        ·rw [if_neg eT] at H
         have c12b0 : ((bt a0 x6_1) == 47) = false := qF eT
         have c12b1 : ((bt a0 x6_1) != 47) = true := nT eT
         obtain rfl := sI H
         have p5 : 0 ≤ (x6_1 : Int) := oD z2
         have q5 : x6_1 < (a0.size : Int) := oD z2
         have hx5 := bt_at a0 x6_1
         replace p5 := eq_true p5
         replace q5 := eq_true q5
         go_wp2_with (first | ((with_reducible refine aI (f := 75) rfl ?_); refine aN (some 12) rfl rfl Try.func75 z0 rfl #[.int .u8 (bt a0 x6_1)] rfl z12 ?_; (with_reducible refine (impl_isName.calls (bt a0 x6_1) false _ A6.out).mono ?_); rintro e w' ⟨rfl, ⟨nd, rfl⟩⟩; refine ⟨_, rfl, ?_⟩; have p8 : 0 ≤ (x6_1 : Int) := oD z2; have q8 : x6_1 < (a0.size : Int) := oD z2; have hx8 := bt_at a0 x6_1; replace p8 := eq_true p8; replace q8 := eq_true q8) | (go_at_call 76; (with_reducible refine (impl_isPlain.calls (bt a0 x6_1) false _ A9.out).mono ?_); rintro e w' ⟨rfl, ⟨nd, rfl⟩⟩; have p11 : 0 ≤ (x6_1 : Int) := oD z2; have q11 : x6_1 < (a0.size : Int) := oD z2; have hx11 := bt_at a0 x6_1; replace p11 := eq_true p11; replace q11 := eq_true q11))
         go_ret
         exact ⟨y1, y2⟩
     ·rw [if_neg c4] at H
      exact absurd H (by simp)
    ·rw [if_neg c3] at H
     exact absurd H (by simp)
   ·rw [if_neg c2] at H
    have c2b0 : decide (x6_1 < (a0.size : Int)) = false := dF c2
    clear c2
    obtain rfl := sI H
    go_wp2
    go_ret
    exact ⟨y1, y2⟩

/-! ### impl_Part_isPart: function 74 -/
def impl_Part_isPart.f (k : Nat) (a0_0 : Int) (a0_1 : ByteArray) (a0_2 : ByteArray) : Option (Bool) := if a0_0 = 0 then (if a0_1.toList = ([] : List UInt8) then (if a0_2.toList = ([] : List UInt8) then (some false) else ((impl_GoodText.f k a0_2).bind fun lg => (some lg))) else (if a0_2.toList = ([] : List UInt8) then ((impl_GoodText.f k a0_1).bind fun jd => (some jd)) else (some false))) else (if a0_0 ≥ 1 then (if a0_0 ≤ 300 then (if a0_1.toList = ([] : List UInt8) then (some (a0_2.toList == ([] : List UInt8))) else (some false)) else (some false)) else (some false))
theorem impl_Part_isPart.mono : ∀ a0 a1 a2 k, LeO (impl_Part_isPart.f k a0 a1 a2) (impl_Part_isPart.f (k + 1) a0 a1 a2) := by
 intro a0 a1 a2 k
 unfold impl_Part_isPart.f
 repeat' first
   | (with_reducible exact impl_GoodText.mono _ _)
   | (with_reducible exact LeO.refl _)
   | (with_reducible exact LeO.none _)
   | (with_reducible refine LeO.ite ?_ ?_)
   | (with_reducible refine LeO.bind ?_ (fun _ => ?_))
   | exact impl_GoodText.mono _ _
   | exact LeO.none _
   | refine LeO.ite ?_ ?_
   | refine LeO.bind ?_ (fun _ => ?_)
set_option maxHeartbeats 8000000 in
set_option maxRecDepth 100000 in
theorem impl_Part_isPart.calls (k : Nat) (a0_0 : Int) (a0_1 : ByteArray) (a0_2 : ByteArray) (r : Bool) (w : World) (h : impl_Part_isPart.f k a0_0 a0_1 a0_2 = some r) :
  Calls Try.prog 74 #[.agg #[.int .i64 a0_0, .string a0_1, .string a0_2]] w fun e w' => e = .returned (.bool r) ∧ Below w.heap.size w w' := by
 have hu59 := Try.underlying59
 have HB := aM (Below.refl w.heap.size w)
 have H : (if a0_0 = 0 then (if a0_1.toList = ([] : List UInt8) then (if a0_2.toList = ([] : List UInt8) then (some false) else ((impl_GoodText.f k a0_2).bind fun lg => (some lg))) else (if a0_2.toList = ([] : List UInt8) then ((impl_GoodText.f k a0_1).bind fun jd => (some jd)) else (some false))) else (if a0_0 ≥ 1 then (if a0_0 ≤ 300 then (if a0_1.toList = ([] : List UInt8) then (some (a0_2.toList == ([] : List UInt8))) else (some false)) else (some false)) else (some false))) = some r := h
 clear h
 by_cases c2 : a0_0 = 0
 ·rw [if_pos c2] at H
  have c2b0 : (a0_0 == 0) = true := qT c2
  have c2b1 : (a0_0 != 0) = false := nF c2
  clear c2
  by_cases c3 : a0_1.toList = ([] : List UInt8)
  ·rw [if_pos c3] at H
   have c3b0 : (a0_1.toList == ([] : List UInt8)) = true := qT c3
   have c3b1 : (a0_1.toList != ([] : List UInt8)) = false := nF c3
   clear c3
   by_cases c4 : a0_2.toList = ([] : List UInt8)
   ·rw [if_pos c4] at H
    have c4b0 : (a0_2.toList == ([] : List UInt8)) = true := qT c4
    have c4b1 : (a0_2.toList != ([] : List UInt8)) = false := nF c4
    clear c4
    obtain rfl := sI H
    go_enter Try.func74, Try.ntmps74
    go_wp2_with (first | ((with_reducible refine aJ (N := 1) rfl ?_); refine aK ?hg (N := 1) ?hd (cs := #[.int .i64 a0_0, .string a0_1, .string a0_2]) (t := 59) ?hr ?_; (case hd => rfl); (case hg => rfl); (case hr => first | (go_simp; done) | (go_simp; rfl)); intro bR hg w5 hbox hb; have a6 := aM (ay z11 hb); have ba := aM (hbox); have bb := aM ((by rw [hg]; exact (az z11) : w.heap.size ≤ bR)); have bf := aM ((by rw [hg]; exact (az z11) : w.heap.size ≤ bR)); clear HB; have HB := a6; have bK := ba; have gH := bb; have gJ := bf; clear a6 ba bb bf; clear hb hbox hg; have dL : w5.cell? ⟨bR, 0, none⟩ = some (.int .i64 a0_0) := (bC bK.out 0).trans rfl; have jP : w5.cell? ⟨bR, 1, none⟩ = some (.string a0_1) := (bC bK.out 1).trans rfl; have jO : w5.cell? ⟨bR, 2, none⟩ = some (.string a0_2) := (bC bK.out 2).trans rfl; have dK := bF bK.out 0; have jN := bF bK.out 1; have jM := bF bK.out 2))
    all_goals (try (exfalso; rename_i h_; rw [c3b0] at h_; cases h_; done))
    all_goals (try (exfalso; rename_i h_; rw [c4b0] at h_; cases h_; done))
    go_ret
    exact ⟨y3, y15⟩
   ·rw [if_neg c4] at H
    have c4b0 : (a0_2.toList == ([] : List UInt8)) = false := qF c4
    have c4b1 : (a0_2.toList != ([] : List UInt8)) = true := nT c4
    replace H := oB H
    obtain ⟨lg, jI, H⟩ := H
    try dsimp only at H
    have A7 := aM jI
    clear jI
    obtain rfl := sI H
    go_enter Try.func74, Try.ntmps74
    go_wp2_with (first | ((with_reducible refine aJ (N := 1) rfl ?_); refine aK ?hg (N := 1) ?hd (cs := #[.int .i64 a0_0, .string a0_1, .string a0_2]) (t := 59) ?hr ?_; (case hd => rfl); (case hg => rfl); (case hr => first | (go_simp; done) | (go_simp; rfl)); intro bR hg w8 hbox hb; have a6 := aM (ay z11 hb); have ba := aM (hbox); have bb := aM ((by rw [hg]; exact (az z11) : w.heap.size ≤ bR)); have bf := aM ((by rw [hg]; exact (az z11) : w.heap.size ≤ bR)); clear HB; have HB := a6; have bK := ba; have gH := bb; have gJ := bf; clear a6 ba bb bf; clear hb hbox hg; have dp : w8.cell? ⟨bR, 0, none⟩ = some (.int .i64 a0_0) := (bC bK.out 0).trans rfl; have ec : w8.cell? ⟨bR, 1, none⟩ = some (.string a0_1) := (bC bK.out 1).trans rfl; have eb : w8.cell? ⟨bR, 2, none⟩ = some (.string a0_2) := (bC bK.out 2).trans rfl; have dn := bF bK.out 0; have d5 := bF bK.out 1; have dZ := bF bK.out 2) | (go_at_call 56; (with_reducible refine (impl_GoodText.calls k a0_2 lg _ A7.out).mono ?_); rintro e w' ⟨rfl, ⟨nd, rfl⟩⟩))
    all_goals (try (exfalso; rename_i h_; rw [c3b0] at h_; cases h_; done))
    all_goals (try (exfalso; rename_i h_; rw [c4b0] at h_; cases h_; done))
    go_ret
    exact ⟨y3, y15⟩
  ·rw [if_neg c3] at H
   have c3b0 : (a0_1.toList == ([] : List UInt8)) = false := qF c3
   have c3b1 : (a0_1.toList != ([] : List UInt8)) = true := nT c3
   by_cases cL : a0_2.toList = ([] : List UInt8)
   ·rw [if_pos cL] at H
    have c10b0 : (a0_2.toList == ([] : List UInt8)) = true := qT cL
    have c10b1 : (a0_2.toList != ([] : List UInt8)) = false := nF cL
    clear cL
    replace H := oB H
    obtain ⟨jd, lZ, H⟩ := H
    try dsimp only at H
    have oH := aM lZ
    clear lZ
    obtain rfl := sI H
    go_enter Try.func74, Try.ntmps74
    go_wp2_with (first | ((with_reducible refine aJ (N := 1) rfl ?_); refine aK ?hg (N := 1) ?hd (cs := #[.int .i64 a0_0, .string a0_1, .string a0_2]) (t := 59) ?hr ?_; (case hd => rfl); (case hg => rfl); (case hr => first | (go_simp; done) | (go_simp; rfl)); intro bR hg w12 hbox hb; have a6 := aM (ay z11 hb); have ba := aM (hbox); have bb := aM ((by rw [hg]; exact (az z11) : w.heap.size ≤ bR)); have bf := aM ((by rw [hg]; exact (az z11) : w.heap.size ≤ bR)); clear HB; have HB := a6; have bK := ba; have gH := bb; have gJ := bf; clear a6 ba bb bf; clear hb hbox hg; have kJ : w12.cell? ⟨bR, 0, none⟩ = some (.int .i64 a0_0) := (bC bK.out 0).trans rfl; have hcz13_1 : w12.cell? ⟨bR, 1, none⟩ = some (.string a0_1) := (bC bK.out 1).trans rfl; have hcz13_2 : w12.cell? ⟨bR, 2, none⟩ = some (.string a0_2) := (bC bK.out 2).trans rfl; have km := bF bK.out 0; have hfz13_1 := bF bK.out 1; have hfz13_2 := bF bK.out 2) | (go_at_call 56; (with_reducible refine (impl_GoodText.calls k a0_1 jd _ oH.out).mono ?_); rintro e w' ⟨rfl, ⟨nd, rfl⟩⟩))
    all_goals (try (exfalso; rename_i h_; rw [c3b0] at h_; cases h_; done))
    all_goals (try (exfalso; rename_i h_; rw [c10b0] at h_; cases h_; done))
    go_ret
    exact ⟨y3, y15⟩
   ·rw [if_neg cL] at H
    have c10b0 : (a0_2.toList == ([] : List UInt8)) = false := qF cL
    have c10b1 : (a0_2.toList != ([] : List UInt8)) = true := nT cL
    obtain rfl := sI H
    go_enter Try.func74, Try.ntmps74
    go_wp2_with (first | ((with_reducible refine aJ (N := 1) rfl ?_); refine aK ?hg (N := 1) ?hd (cs := #[.int .i64 a0_0, .string a0_1, .string a0_2]) (t := 59) ?hr ?_; (case hd => rfl); (case hg => rfl); (case hr => first | (go_simp; done) | (go_simp; rfl)); intro bR hg w14 hbox hb; have a6 := aM (ay z11 hb); have ba := aM (hbox); have bb := aM ((by rw [hg]; exact (az z11) : w.heap.size ≤ bR)); have bf := aM ((by rw [hg]; exact (az z11) : w.heap.size ≤ bR)); clear HB; have HB := a6; have bK := ba; have gH := bb; have gJ := bf; clear a6 ba bb bf; clear hb hbox hg; have eN : w14.cell? ⟨bR, 0, none⟩ = some (.int .i64 a0_0) := (bC bK.out 0).trans rfl; have fA : w14.cell? ⟨bR, 1, none⟩ = some (.string a0_1) := (bC bK.out 1).trans rfl; have fz : w14.cell? ⟨bR, 2, none⟩ = some (.string a0_2) := (bC bK.out 2).trans rfl; have eH := bF bK.out 0; have fo := bF bK.out 1; have fm := bF bK.out 2))
    all_goals (try (exfalso; rename_i h_; rw [c3b0] at h_; cases h_; done))
    all_goals (try (exfalso; rename_i h_; rw [c10b0] at h_; cases h_; done))
    go_ret
    exact ⟨y3, y15⟩
 ·rw [if_neg c2] at H
  have c2b0 : (a0_0 == 0) = false := qF c2
  have c2b1 : (a0_0 != 0) = true := nT c2
  by_cases fL : a0_0 ≥ 1
  ·rw [if_pos fL] at H
   have c16b0 : decide (1 ≤ a0_0) = true := dT fL
   clear fL
   by_cases ei : a0_0 ≤ 300
   ·rw [if_pos ei] at H
    have c17b0 : decide (a0_0 ≤ 300) = true := dT ei
    clear ei
    by_cases gF : a0_1.toList = ([] : List UInt8)
    ·rw [if_pos gF] at H
     have c18b0 : (a0_1.toList == ([] : List UInt8)) = true := qT gF
     have c18b1 : (a0_1.toList != ([] : List UInt8)) = false := nF gF
     clear gF
     obtain rfl := sI H
     go_enter Try.func74, Try.ntmps74
     go_wp2_with (first | ((with_reducible refine aJ (N := 1) rfl ?_); refine aK ?hg (N := 1) ?hd (cs := #[.int .i64 a0_0, .string a0_1, .string a0_2]) (t := 59) ?hr ?_; (case hd => rfl); (case hg => rfl); (case hr => first | (go_simp; done) | (go_simp; rfl)); intro bR hg w19 hbox hb; have a6 := aM (ay z11 hb); have ba := aM (hbox); have bb := aM ((by rw [hg]; exact (az z11) : w.heap.size ≤ bR)); have bf := aM ((by rw [hg]; exact (az z11) : w.heap.size ≤ bR)); clear HB; have HB := a6; have bK := ba; have gH := bb; have gJ := bf; clear a6 ba bb bf; clear hb hbox hg; have fx : w19.cell? ⟨bR, 0, none⟩ = some (.int .i64 a0_0) := (bC bK.out 0).trans rfl; have fw : w19.cell? ⟨bR, 1, none⟩ = some (.string a0_1) := (bC bK.out 1).trans rfl; have fv : w19.cell? ⟨bR, 2, none⟩ = some (.string a0_2) := (bC bK.out 2).trans rfl; have fj := bF bK.out 0; have fi := bF bK.out 1; have fh := bF bK.out 2))
     all_goals (try (exfalso; rename_i h_; rw [c18b0] at h_; cases h_; done))
     go_ret
     exact ⟨y3, y15⟩
    ·rw [if_neg gF] at H
     have c18b0 : (a0_1.toList == ([] : List UInt8)) = false := qF gF
     have c18b1 : (a0_1.toList != ([] : List UInt8)) = true := nT gF
     obtain rfl := sI H
     go_enter Try.func74, Try.ntmps74
     go_wp2_with (first | ((with_reducible refine aJ (N := 1) rfl ?_); refine aK ?hg (N := 1) ?hd (cs := #[.int .i64 a0_0, .string a0_1, .string a0_2]) (t := 59) ?hr ?_; (case hd => rfl); (case hg => rfl); (case hr => first | (go_simp; done) | (go_simp; rfl)); intro bR hg w21 hbox hb; have a6 := aM (ay z11 hb); have ba := aM (hbox); have bb := aM ((by rw [hg]; exact (az z11) : w.heap.size ≤ bR)); have bf := aM ((by rw [hg]; exact (az z11) : w.heap.size ≤ bR)); clear HB; have HB := a6; have bK := ba; have gH := bb; have gJ := bf; clear a6 ba bb bf; clear hb hbox hg; have dy : w21.cell? ⟨bR, 0, none⟩ = some (.int .i64 a0_0) := (bC bK.out 0).trans rfl; have fu : w21.cell? ⟨bR, 1, none⟩ = some (.string a0_1) := (bC bK.out 1).trans rfl; have ft : w21.cell? ⟨bR, 2, none⟩ = some (.string a0_2) := (bC bK.out 2).trans rfl; have dx := bF bK.out 0; have fg := bF bK.out 1; have ff := bF bK.out 2))
     all_goals (try (exfalso; rename_i h_; rw [c18b0] at h_; cases h_; done))
     go_ret
     exact ⟨y3, y15⟩
   ·rw [if_neg ei] at H
    have c17b0 : decide (a0_0 ≤ 300) = false := dF ei
    clear ei
    obtain rfl := sI H
    go_enter Try.func74, Try.ntmps74
    go_wp2_with (first | ((with_reducible refine aJ (N := 1) rfl ?_); refine aK ?hg (N := 1) ?hd (cs := #[.int .i64 a0_0, .string a0_1, .string a0_2]) (t := 59) ?hr ?_; (case hd => rfl); (case hg => rfl); (case hr => first | (go_simp; done) | (go_simp; rfl)); intro bR hg w23 hbox hb; have a6 := aM (ay z11 hb); have ba := aM (hbox); have bb := aM ((by rw [hg]; exact (az z11) : w.heap.size ≤ bR)); have bf := aM ((by rw [hg]; exact (az z11) : w.heap.size ≤ bR)); clear HB; have HB := a6; have bK := ba; have gH := bb; have gJ := bf; clear a6 ba bb bf; clear hb hbox hg; have kA : w23.cell? ⟨bR, 0, none⟩ = some (.int .i64 a0_0) := (bC bK.out 0).trans rfl; have kz : w23.cell? ⟨bR, 1, none⟩ = some (.string a0_1) := (bC bK.out 1).trans rfl; have ky : w23.cell? ⟨bR, 2, none⟩ = some (.string a0_2) := (bC bK.out 2).trans rfl; have kb := bF bK.out 0; have ka := bF bK.out 1; have j9 := bF bK.out 2))
    go_ret
    exact ⟨y3, y15⟩
  ·rw [if_neg fL] at H
   have c16b0 : decide (1 ≤ a0_0) = false := dF fL
   clear fL
   obtain rfl := sI H
   go_enter Try.func74, Try.ntmps74
   go_wp2_with (first | ((with_reducible refine aJ (N := 1) rfl ?_); refine aK ?hg (N := 1) ?hd (cs := #[.int .i64 a0_0, .string a0_1, .string a0_2]) (t := 59) ?hr ?_; (case hd => rfl); (case hg => rfl); (case hr => first | (go_simp; done) | (go_simp; rfl)); intro bR hg w25 hbox hb; have a6 := aM (ay z11 hb); have ba := aM (hbox); have bb := aM ((by rw [hg]; exact (az z11) : w.heap.size ≤ bR)); have bf := aM ((by rw [hg]; exact (az z11) : w.heap.size ≤ bR)); clear HB; have HB := a6; have bK := ba; have gH := bb; have gJ := bf; clear a6 ba bb bf; clear hb hbox hg; have gi : w25.cell? ⟨bR, 0, none⟩ = some (.int .i64 a0_0) := (bC bK.out 0).trans rfl; have gh : w25.cell? ⟨bR, 1, none⟩ = some (.string a0_1) := (bC bK.out 1).trans rfl; have gc : w25.cell? ⟨bR, 2, none⟩ = some (.string a0_2) := (bC bK.out 2).trans rfl; have f5 := bF bK.out 0; have fZ := bF bK.out 1; have fY := bF bK.out 2))
   go_ret
   exact ⟨y3, y15⟩

/-! ### impl_GoodOp_1: function 73 -/
def impl_GoodOp_1.f (k : Nat) (a0_0 : Int) (a0_1 : ByteArray) (a0_2 : ByteArray) : Option (Bool) := (impl_Part_isPart.f k a0_0 a0_1 a0_2).bind fun ld => (some (!ld))
theorem impl_GoodOp_1.mono : ∀ a0 a1 a2 k, LeO (impl_GoodOp_1.f k a0 a1 a2) (impl_GoodOp_1.f (k + 1) a0 a1 a2) := by
 intro a0 a1 a2 k
 unfold impl_GoodOp_1.f
 repeat' first
   | (with_reducible exact impl_Part_isPart.mono _ _ _ _)
   | (with_reducible exact LeO.refl _)
   | (with_reducible exact LeO.none _)
   | (with_reducible refine LeO.ite ?_ ?_)
   | (with_reducible refine LeO.bind ?_ (fun _ => ?_))
   | exact impl_Part_isPart.mono _ _ _ _
   | exact LeO.none _
   | refine LeO.ite ?_ ?_
   | refine LeO.bind ?_ (fun _ => ?_)
set_option maxHeartbeats 8000000 in
set_option maxRecDepth 100000 in
theorem impl_GoodOp_1.calls (k : Nat) (a0_0 : Int) (a0_1 : ByteArray) (a0_2 : ByteArray) (r : Bool) (w : World) (h : impl_GoodOp_1.f k a0_0 a0_1 a0_2 = some r) :
  Calls Try.prog 73 #[.agg #[.int .i64 a0_0, .string a0_1, .string a0_2]] w fun e w' => e = .returned (.bool r) ∧ Below w.heap.size w w' := by
 have hu59 := Try.underlying59
 have HB := aM (Below.refl w.heap.size w)
 have H : ((impl_Part_isPart.f k a0_0 a0_1 a0_2).bind fun ld => (some (!ld))) = some r := h
 clear h
 replace H := oB H
 obtain ⟨ld, lW, H⟩ := H
 try dsimp only at H
 have A2 := aM lW
 clear lW
 obtain rfl := sI H
 go_enter Try.func73, Try.ntmps73
 go_wp2_with (first | ((with_reducible refine aJ (N := 1) rfl ?_); refine aK ?hg (N := 1) ?hd (cs := #[.int .i64 a0_0, .string a0_1, .string a0_2]) (t := 59) ?hr ?_; (case hd => rfl); (case hg => rfl); (case hr => first | (go_simp; done) | (go_simp; rfl)); intro gX hg w3 hbox hb; have a6 := aM (ay z11 hb); have ba := aM (hbox); have bb := aM ((by rw [hg]; exact (az z11) : w.heap.size ≤ gX)); have bf := aM ((by rw [hg]; exact (az z11) : w.heap.size ≤ gX)); clear HB; have HB := a6; have fK := ba; have GW211 := bb; have mD := bf; clear a6 ba bb bf; clear hb hbox hg; have hcz4_0 : w3.cell? ⟨gX, 0, none⟩ = some (.int .i64 a0_0) := (bC fK.out 0).trans rfl; have hcz4_1 : w3.cell? ⟨gX, 1, none⟩ = some (.string a0_1) := (bC fK.out 1).trans rfl; have hcz4_2 : w3.cell? ⟨gX, 2, none⟩ = some (.string a0_2) := (bC fK.out 2).trans rfl; have hfz4_0 := bF fK.out 0; have hfz4_1 := bF fK.out 1; have hfz4_2 := bF fK.out 2) | ((with_reducible refine aI (f := 74) rfl ?_); refine aN (some 4) rfl rfl Try.func74 z0 rfl #[.agg #[.int .i64 a0_0, .string a0_1, .string a0_2]] rfl z12 ?_; (with_reducible refine (impl_Part_isPart.calls k a0_0 a0_1 a0_2 ld _ A2.out).mono ?_); rintro e w5 ⟨rfl, hb⟩; refine ⟨_, rfl, ?_⟩; have a6 := aM (af (g := gX) (o := .cells #[.int .i64 a0_0, .string a0_1, .string a0_2] 59 (0, 0)) (by (with_reducible repeat (first | refine ar ?_ _ | refine aq ?_ | refine au ?_ _)); exact fK.out) hb); have ba := aM (ay (by repeat (first | (with_reducible first | exact HB.out | apply bA | apply pD | apply bD | refine ax ?_ mD.out) | exact HB.out)) hb); clear fK; clear HB; have fK := a6; have HB := ba; clear a6 ba; (try clear hb); (try clear hb2); (try clear hk); (try clear hi)))
 go_ret
 exact ⟨y3, by repeat (first | (with_reducible first | exact HB.out | apply bA | apply pD | apply bD | refine ax ?_ mD.out) | exact HB.out)⟩

/-! ### impl_Part_82: function 82 -/
def impl_Part_82.l0 : Nat → List (S59) → Int → Int → Option (Int)
 | 0, _, _, _ => none
 | k + 1, x0, x7, x8 => if x8 < x7 then (if 0 ≤ x8 then (if x8 < (x0.length : Int) then ((impl_GoodOp_1.f k ((rd_T59 x0 x8).f0) ((rd_T59 x0 x8).f1) ((rd_T59 x0 x8).f2)).bind fun mT => (if mT = true then (some x8) else (impl_Part_82.l0 k x0 x7 (wrap64 (x8 + 1))))) else (none)) else (none)) else (some (-1))
def impl_Part_82.f (k : Nat) (l0 : List (S59))  : Option (Int) := impl_Part_82.l0 k l0 (l0.length : Int) 0
theorem impl_Part_82.mono_l : ∀ k, (∀ y0 y1 y2, LeO (impl_Part_82.l0 k y0 y1 y2) (impl_Part_82.l0 (k + 1) y0 y1 y2))
 | 0 => fun _ _ _ r h => by simp [impl_Part_82.l0] at h
 | k + 1 => by
  have ih0 := impl_Part_82.mono_l k
  ·intro y0 y1 y2
   unfold impl_Part_82.l0
   repeat' first
   | (with_reducible exact ih0 _ _ _)
   | (with_reducible exact impl_GoodOp_1.mono _ _ _ _)
   | (with_reducible exact LeO.refl _)
   | (with_reducible exact LeO.none _)
   | (with_reducible refine LeO.ite ?_ ?_)
   | (with_reducible refine LeO.bind ?_ (fun _ => ?_))
   | exact ih0 _ _ _
   | exact impl_GoodOp_1.mono _ _ _ _
   | exact LeO.none _
   | refine LeO.ite ?_ ?_
   | refine LeO.bind ?_ (fun _ => ?_)
theorem impl_Part_82.mono : ∀ a0 k, LeO (impl_Part_82.f k a0) (impl_Part_82.f (k + 1) a0) := by
 intro a0 k
 have ih0 := impl_Part_82.mono_l k
 unfold impl_Part_82.f
 repeat' first
   | (with_reducible exact ih0 _ _ _)
   | (with_reducible exact impl_GoodOp_1.mono _ _ _ _)
   | (with_reducible exact LeO.refl _)
   | (with_reducible exact LeO.none _)
   | (with_reducible refine LeO.ite ?_ ?_)
   | (with_reducible refine LeO.bind ?_ (fun _ => ?_))
   | exact ih0 _ _ _
   | exact impl_GoodOp_1.mono _ _ _ _
   | exact LeO.none _
   | refine LeO.ite ?_ ?_
   | refine LeO.bind ?_ (fun _ => ?_)
set_option maxHeartbeats 8000000 in
set_option maxRecDepth 100000 in
theorem impl_Part_82.calls (k : Nat) (A0 : Option Addr) (c0 : Nat) (l0 : List (S59))  (r : Int) (w : World) (hr0 : Kd.C k59 w A0 l0.length l0) (hc0 : l0.length ≤ c0) (h : impl_Part_82.f k l0 = some r) :
  Calls Try.prog 82 #[.slice A0 l0.length c0, .func (.func 73) #[] #[]] w fun e w' => e = .returned (.int .i64 r) ∧ Below w.heap.size w w' := by
 have hu59 := Try.underlying59
 have bY := aM hr0
 have cQ := aM hc0
 clear hr0 hc0
 have HB := aM (Below.refl w.heap.size w)
 have H : (impl_Part_82.l0 k l0 (l0.length : Int) 0) = some r := h
 clear h
 have H' := aM H
 clear H
 go_enter Try.func82, Try.ntmps82
 go_wp2
 go_loopg [8] k (fun kq v8 w' => ∃ (x8_1 : Int), v8 = .int .i64 x8_1 ∧ Aside0 (impl_Part_82.l0 kq l0 (l0.length : Int) x8_1 = some r) ∧ Aside0 (kq ≤ k) ∧ Aside0 (Below w.heap.size w w'))
 case atStart => exact ⟨(0), z1, H', ⟨Nat.le_refl _⟩, ⟨y4⟩⟩
 case round =>
  clear H'
  try clear p2
  obtain ⟨x8_1, rfl, HA, HK1, HB⟩ := hrel
  cases gk with
  | zero => exact absurd HA.out (by simp [impl_Part_82.l0])
  | succ k1 =>
   have H := HA.out
   clear HA
   simp only [impl_Part_82.l0] at H
   by_cases c3 : x8_1 < (l0.length : Int)
   ·rw [if_pos c3] at H
    have c3b0 : decide (x8_1 < (l0.length : Int)) = true := dT c3
    clear c3
    by_cases c4 : 0 ≤ x8_1
    ·rw [if_pos c4] at H
     have c4b0 : decide (0 ≤ x8_1) = true := dT c4
     clear c4
     by_cases c5 : x8_1 < (l0.length : Int)
     ·rw [if_pos c5] at H
      have c5b0 : decide (x8_1 < (l0.length : Int)) = true := dT c5
      clear c5
      replace H := oB H
      obtain ⟨mT, fU, H⟩ := H
      try dsimp only at H
      have A6 := aM fU
      clear fU
      by_cases c7 : mT = true
      ·subst c7
       rw [if_pos rfl] at H
       obtain rfl := sI H
       have p213 : 0 ≤ (x8_1 : Int) := oD z2
       have q213 : x8_1 < (l0.length : Int) := oD z2
       obtain ⟨ad213, e213, hx213_0, hx213_1, hx213_2⟩ := at_T59 bY.out x8_1 p213 q213
       cases e213
       replace hx213_0 := (HB.out.cell (World.block_lt_of_cell? w _ hx213_0)).trans hx213_0
       replace hx213_1 := (HB.out.cell (World.block_lt_of_cell? w _ hx213_1)).trans hx213_1
       replace hx213_2 := (HB.out.cell (World.block_lt_of_cell? w _ hx213_2)).trans hx213_2
       replace p213 := eq_true p213
       replace q213 := eq_true q213
       go_wp2_with (first | (go_at_call 73; (with_reducible refine (impl_GoodOp_1.calls k1 ((rd_T59 l0 x8_1).f0) ((rd_T59 l0 x8_1).f1) ((rd_T59 l0 x8_1).f2) true _ A6.out).mono ?_); rintro e w8 ⟨rfl, hb⟩; have a6 := aM (ay z11 hb); clear HB; have HB := a6; clear a6; (try clear hb); (try clear hb2); (try clear hk); (try clear hi)))
       go_ret
       exact ⟨y3, y4⟩
      ·replace c7 := Bool.eq_false_iff.mpr c7
       subst c7
       rw [if_neg (show ¬ (false = true) by decide)] at H
       have H' := aM H
       clear H
       have p213 : 0 ≤ (x8_1 : Int) := oD z2
       have q213 : x8_1 < (l0.length : Int) := oD z2
       obtain ⟨ad213, e213, hx213_0, hx213_1, hx213_2⟩ := at_T59 bY.out x8_1 p213 q213
       cases e213
       replace hx213_0 := (HB.out.cell (World.block_lt_of_cell? w _ hx213_0)).trans hx213_0
       replace hx213_1 := (HB.out.cell (World.block_lt_of_cell? w _ hx213_1)).trans hx213_1
       replace hx213_2 := (HB.out.cell (World.block_lt_of_cell? w _ hx213_2)).trans hx213_2
       replace p213 := eq_true p213
       replace q213 := eq_true q213
       go_wp2_with (first | (go_at_call 73; (with_reducible refine (impl_GoodOp_1.calls k1 ((rd_T59 l0 x8_1).f0) ((rd_T59 l0 x8_1).f1) ((rd_T59 l0 x8_1).f2) false _ A6.out).mono ?_); rintro e w9 ⟨rfl, hb⟩; have a6 := aM (ay z11 hb); clear HB; have HB := a6; clear a6; (try clear hb); (try clear hb2); (try clear hk); (try clear hi)))
       go_roundg k1
       case measure => have := HK1.out; omega
       case rel => exact ⟨(wrap64 (x8_1 + 1)), z1, H', ⟨y0⟩, ⟨y4⟩⟩
     ·rw [if_neg c5] at H
      exact absurd H (by simp)
    ·rw [if_neg c4] at H
     exact absurd H (by simp)
   ·rw [if_neg c3] at H
    have c3b0 : decide (x8_1 < (l0.length : Int)) = false := dF c3
    clear c3
    obtain rfl := sI H
    go_wp2
    go_ret
    exact ⟨y3, y4⟩

/-! ### impl_Part_72: function 72 -/
def impl_Part_72.f (k : Nat) (l0 : List (S59))  : Option (Bool) := (impl_Part_82.f k l0).bind fun lc => (some (decide (lc ≥ 0)))
theorem impl_Part_72.mono : ∀ a0 k, LeO (impl_Part_72.f k a0) (impl_Part_72.f (k + 1) a0) := by
 intro a0 k
 unfold impl_Part_72.f
 repeat' first
   | (with_reducible exact impl_Part_82.mono _ _)
   | (with_reducible exact LeO.refl _)
   | (with_reducible exact LeO.none _)
   | (with_reducible refine LeO.ite ?_ ?_)
   | (with_reducible refine LeO.bind ?_ (fun _ => ?_))
   | exact impl_Part_82.mono _ _
   | exact LeO.none _
   | refine LeO.ite ?_ ?_
   | refine LeO.bind ?_ (fun _ => ?_)
set_option maxHeartbeats 8000000 in
set_option maxRecDepth 100000 in
theorem impl_Part_72.calls (k : Nat) (A0 : Option Addr) (c0 : Nat) (l0 : List (S59))  (r : Bool) (w : World) (hr0 : Kd.C k59 w A0 l0.length l0) (hc0 : l0.length ≤ c0) (h : impl_Part_72.f k l0 = some r) :
  Calls Try.prog 72 #[.slice A0 l0.length c0, .func (.func 73) #[] #[]] w fun e w' => e = .returned (.bool r) ∧ Below w.heap.size w w' := by
 have bY := aM hr0
 have cQ := aM hc0
 clear hr0 hc0
 have HB := aM (Below.refl w.heap.size w)
 have H : ((impl_Part_82.f k l0).bind fun lc => (some (decide (lc ≥ 0)))) = some r := h
 clear h
 replace H := oB H
 obtain ⟨lc, fT, H⟩ := H
 try dsimp only at H
 have A3 := aM fT
 clear fT
 obtain rfl := sI H
 go_enter Try.func72, Try.ntmps72
 go_wp2_with (first | ((with_reducible refine aI (f := 82) rfl ?_); refine aN (some 7) rfl rfl Try.func82 z0 rfl #[.slice A0 l0.length c0, .func (.func 73) #[] #[]] rfl z12 ?_; (with_reducible refine (impl_Part_82.calls k _ _ l0  lc _ ?side1 ?side2 A3.out).mono ?_); (case side1 => repeat (first | exact bY.out | (with_reducible refine aE ?_ _) | (with_reducible refine aG ?_ _) | (with_reducible refine aH ?_))); (case side2 => exact cQ.out); rintro e w4 ⟨rfl, hb⟩; refine ⟨_, rfl, ?_⟩; have a6 := aM (ay z11 hb); clear HB; have HB := a6; clear a6; (try clear hb); (try clear hb2); (try clear hk); (try clear hi)))
 go_ret
 exact ⟨y3, y4⟩

/-! ### impl_GoodOp: function 55 -/
def impl_GoodOp.f (k : Nat) (l0 : List (S59)) : Option (Bool) := if (l0.length : Int) > 60 then (some false) else ((impl_Part_72.f k l0).bind fun lb => (if lb = true then (some false) else ((impl_sizes.f k l0).bind fun jt => (if jt.1 ≤ 300 then (some (decide (jt.2 ≤ 300))) else (some false)))))
theorem impl_GoodOp.mono : ∀ a0 k, LeO (impl_GoodOp.f k a0) (impl_GoodOp.f (k + 1) a0) := by
 intro a0 k
 unfold impl_GoodOp.f
 repeat' first
   | (with_reducible exact impl_Part_72.mono _ _)
   | (with_reducible exact impl_sizes.mono _ _)
   | (with_reducible exact LeO.refl _)
   | (with_reducible exact LeO.none _)
   | (with_reducible refine LeO.ite ?_ ?_)
   | (with_reducible refine LeO.bind ?_ (fun _ => ?_))
   | exact impl_Part_72.mono _ _
   | exact impl_sizes.mono _ _
   | exact LeO.none _
   | refine LeO.ite ?_ ?_
   | refine LeO.bind ?_ (fun _ => ?_)
set_option maxHeartbeats 8000000 in
set_option maxRecDepth 100000 in
theorem impl_GoodOp.calls (k : Nat) (A0 : Option Addr) (c0 : Nat) (l0 : List (S59)) (r : Bool) (w : World) (hr0 : Kd.C k59 w A0 l0.length l0) (hc0 : l0.length ≤ c0) (h : impl_GoodOp.f k l0 = some r) :
  Calls Try.prog 55 #[.slice A0 l0.length c0] w fun e w' => e = .returned (.bool r) ∧ Below w.heap.size w w' := by
 have bY := aM hr0
 have cQ := aM hc0
 clear hr0 hc0
 have HB := aM (Below.refl w.heap.size w)
 have H : (if (l0.length : Int) > 60 then (some false) else ((impl_Part_72.f k l0).bind fun lb => (if lb = true then (some false) else ((impl_sizes.f k l0).bind fun jt => (if jt.1 ≤ 300 then (some (decide (jt.2 ≤ 300))) else (some false)))))) = some r := h
 clear h
 by_cases c2 : (l0.length : Int) > 60
 ·rw [if_pos c2] at H
  have c2b0 : decide (60 < (l0.length : Int)) = true := dT c2
  have c2b1 : decide (60 < l0.length) = true := dT (by omega)
  clear c2
  obtain rfl := sI H
  go_enter Try.func55, Try.ntmps55
  go_wp2
  go_ret
  exact ⟨y3, y4⟩
 ·rw [if_neg c2] at H
  have c2b0 : decide (60 < (l0.length : Int)) = false := dF c2
  have c2b1 : decide (60 < l0.length) = false := dF (by omega)
  clear c2
  replace H := oB H
  obtain ⟨lb, fT, H⟩ := H
  try dsimp only at H
  have A3 := aM fT
  clear fT
  by_cases c4 : lb = true
  ·subst c4
   rw [if_pos rfl] at H
   obtain rfl := sI H
   go_enter Try.func55, Try.ntmps55
   go_wp2_with (first | (go_at_call 72; (with_reducible refine (impl_Part_72.calls k _ _ l0  true _ ?side1 ?side2 A3.out).mono ?_); (case side1 => repeat (first | exact bY.out | (with_reducible refine aE ?_ _) | (with_reducible refine aG ?_ _) | (with_reducible refine aH ?_))); (case side2 => exact cQ.out); rintro e w5 ⟨rfl, hb⟩; have a6 := aM (ay z11 hb); clear HB; have HB := a6; clear a6; (try clear hb); (try clear hb2); (try clear hk); (try clear hi)))
   go_ret
   exact ⟨y3, y4⟩
  ·replace c4 := Bool.eq_false_iff.mpr c4
   subst c4
   rw [if_neg (show ¬ (false = true) by decide)] at H
   replace H := oB H
   obtain ⟨⟨la, nC⟩, fU, H⟩ := H
   try dsimp only at H
   have A6 := aM fU
   clear fU
   by_cases c7 : la ≤ 300
   ·rw [if_pos c7] at H
    have c7b0 : decide (la ≤ 300) = true := dT c7
    clear c7
    obtain rfl := sI H
    go_enter Try.func55, Try.ntmps55
    go_wp2_with (first | (go_at_call 72; (with_reducible refine (impl_Part_72.calls k _ _ l0  false _ ?side1 ?side2 A3.out).mono ?_); (case side1 => repeat (first | exact bY.out | (with_reducible refine aE ?_ _) | (with_reducible refine aG ?_ _) | (with_reducible refine aH ?_))); (case side2 => exact cQ.out); rintro e w8 ⟨rfl, hb⟩; have a6 := aM (ay z11 hb); clear HB; have HB := a6; clear a6; (try clear hb); (try clear hb2); (try clear hk); (try clear hi)) | ((with_reducible refine aI (f := 57) rfl ?_); refine aN (some 14) rfl rfl Try.func57 z0 rfl #[.slice A0 l0.length c0] rfl z12 ?_; (with_reducible refine (impl_sizes.calls k _ _ l0 la nC _ ?side1 ?side2 A6.out).mono ?_); (case side1 => repeat (first | exact (aD bY.out HB.out) | (with_reducible refine aE ?_ _) | (with_reducible refine aG ?_ _) | (with_reducible refine aH ?_))); (case side2 => exact cQ.out); rintro e w9 ⟨rfl, hb⟩; refine ⟨_, rfl, ?_⟩; have a6 := aM (ay z11 hb); clear HB; have HB := a6; clear a6; (try clear hb); (try clear hb2); (try clear hk); (try clear hi)))
    go_ret
    exact ⟨y3, y4⟩
   ·rw [if_neg c7] at H
    have c7b0 : decide (la ≤ 300) = false := dF c7
    clear c7
    obtain rfl := sI H
    go_enter Try.func55, Try.ntmps55
    go_wp2_with (first | (go_at_call 72; (with_reducible refine (impl_Part_72.calls k _ _ l0  false _ ?side1 ?side2 A3.out).mono ?_); (case side1 => repeat (first | exact bY.out | (with_reducible refine aE ?_ _) | (with_reducible refine aG ?_ _) | (with_reducible refine aH ?_))); (case side2 => exact cQ.out); rintro e w10 ⟨rfl, hb⟩; have a6 := aM (ay z11 hb); clear HB; have HB := a6; clear a6; (try clear hb); (try clear hb2); (try clear hk); (try clear hi)) | ((with_reducible refine aI (f := 57) rfl ?_); refine aN (some 14) rfl rfl Try.func57 z0 rfl #[.slice A0 l0.length c0] rfl z12 ?_; (with_reducible refine (impl_sizes.calls k _ _ l0 la nC _ ?side1 ?side2 A6.out).mono ?_); (case side1 => repeat (first | exact (aD bY.out HB.out) | (with_reducible refine aE ?_ _) | (with_reducible refine aG ?_ _) | (with_reducible refine aH ?_))); (case side2 => exact cQ.out); rintro e w11 ⟨rfl, hb⟩; refine ⟨_, rfl, ?_⟩; have a6 := aM (ay z11 hb); clear HB; have HB := a6; clear a6; (try clear hb); (try clear hb2); (try clear hk); (try clear hi)))
    go_ret
    exact ⟨y3, y4⟩

end Go.Proofs.Ytblnnbaeiggmoaa.AFnExactEditRope
