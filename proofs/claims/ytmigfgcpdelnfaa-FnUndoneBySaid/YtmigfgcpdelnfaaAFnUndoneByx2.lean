-- this session's own text: written by wip/tools/ownprint.py over the kit's print
import Derived.Test.YtmigfgcpdelnfaaAFnUndoneByx0
import Derived.Test.YtmigfgcpdelnfaaAFnUndoneByx1
namespace Go.Proofs.Ytmigfgcpdelnfaa.AFnUndoneBy
open Go.RowKit Go.Proofs.YtmigfgcpdelnfaaW.PrintWords Go.Proofs.YtmigfgcpdelnfaaW.PrintLast Go.Proofs.YtmigfgcpdelnfaaW.PrintMore
attribute [local go_sem] max2_int min2_int max_two min_two max_three min_three max_four min_four   -- for this text's walks alone
set_option linter.unusedVariables false
set_option linter.unusedSimpArgs false

/-! ### spec_l1Match: function 31 -/
mutual
def spec_l1Match.j0 : Nat → ByteArray → Int → Int → Option (Int)
 | 0, _, _, _ => none
 | k + 1, x0, x1, x5 => spec_l1Match.l0 k x0 x5 0 x1
def spec_l1Match.l0 : Nat → ByteArray → Int → Int → Int → Option (Int)
 | 0, _, _, _, _ => none
 | k + 1, x0, x5, x6, x7 => if x7 ≥ 0 then (spec_l1Match.j2 k x0 x5 x6 x7 (decide (x7 < (x0.size : Int)))) else (spec_l1Match.j2 k x0 x5 x6 x7 false)
def spec_l1Match.j2 : Nat → ByteArray → Int → Int → Int → Bool → Option (Int)
 | 0, _, _, _, _, _ => none
 | k + 1, x0, x5, x6, x7, x20 => if x20 = true then (if 0 ≤ x7 then (if x7 < (x0.size : Int) then ((spec_l1Open.f (bt x0 x7)).bind fun pI => (if pI = true then (spec_l1Match.j3 k x0 x5 (wrap64 (x6 + x5)) x7) else (spec_l1Match.j3 k x0 x5 x6 x7))) else (none)) else (none)) else (some (-1))
def spec_l1Match.j3 : Nat → ByteArray → Int → Int → Int → Option (Int)
 | 0, _, _, _, _ => none
 | k + 1, x0, x5, x6, x7 => if 0 ≤ x7 then (if x7 < (x0.size : Int) then (if (bt x0 x7) = 47 then (if (wrap64 (x6 - x5)) = 0 then (some x7) else (spec_l1Match.l0 k x0 x5 (wrap64 (x6 - x5)) (wrap64 (x7 + x5)))) else (if x6 = 0 then (some x7) else (spec_l1Match.l0 k x0 x5 x6 (wrap64 (x7 + x5))))) else (none)) else (none)
end
def spec_l1Match.f (k : Nat) (a0 : ByteArray) (a1 : Int) : Option (Int) := if 0 ≤ a1 then (if a1 < (a0.size : Int) then (if (bt a0 a1) = 47 then (spec_l1Match.j0 k a0 a1 (-1)) else (spec_l1Match.j0 k a0 a1 1)) else (none)) else (none)
theorem spec_l1Match.mono_l : ∀ k, (∀ y0 y1 y2, LeO (spec_l1Match.j0 k y0 y1 y2) (spec_l1Match.j0 (k + 1) y0 y1 y2)) ∧ (∀ y0 y1 y2 y3, LeO (spec_l1Match.l0 k y0 y1 y2 y3) (spec_l1Match.l0 (k + 1) y0 y1 y2 y3)) ∧ (∀ y0 y1 y2 y3 y4, LeO (spec_l1Match.j2 k y0 y1 y2 y3 y4) (spec_l1Match.j2 (k + 1) y0 y1 y2 y3 y4)) ∧ (∀ y0 y1 y2 y3, LeO (spec_l1Match.j3 k y0 y1 y2 y3) (spec_l1Match.j3 (k + 1) y0 y1 y2 y3))
 | 0 => ⟨fun _ _ _ r h => by simp [spec_l1Match.j0] at h, fun _ _ _ _ r h => by simp [spec_l1Match.l0] at h, fun _ _ _ _ _ r h => by simp [spec_l1Match.j2] at h, fun _ _ _ _ r h => by simp [spec_l1Match.j3] at h⟩
 | k + 1 => by
  obtain ⟨ih0, ih1, ih2, ih3⟩ := spec_l1Match.mono_l k
  refine ⟨?_, ?_, ?_, ?_⟩
  ·intro y0 y1 y2
   unfold spec_l1Match.j0
   repeat' first
   | (with_reducible exact ih0 _ _ _)
   | (with_reducible exact ih1 _ _ _ _)
   | (with_reducible exact ih2 _ _ _ _ _)
   | (with_reducible exact ih3 _ _ _ _)
   | (with_reducible exact LeO.refl _)
   | (with_reducible exact LeO.none _)
   | (with_reducible refine LeO.ite ?_ ?_)
   | (with_reducible refine LeO.bind ?_ (fun _ => ?_))
  ·intro y0 y1 y2 y3
   unfold spec_l1Match.l0
   repeat' first
   | (with_reducible exact ih0 _ _ _)
   | (with_reducible exact ih1 _ _ _ _)
   | (with_reducible exact ih2 _ _ _ _ _)
   | (with_reducible exact ih3 _ _ _ _)
   | (with_reducible exact LeO.refl _)
   | (with_reducible exact LeO.none _)
   | (with_reducible refine LeO.ite ?_ ?_)
   | (with_reducible refine LeO.bind ?_ (fun _ => ?_))
  ·intro y0 y1 y2 y3 y4
   unfold spec_l1Match.j2
   repeat' first
   | (with_reducible exact ih0 _ _ _)
   | (with_reducible exact ih1 _ _ _ _)
   | (with_reducible exact ih2 _ _ _ _ _)
   | (with_reducible exact ih3 _ _ _ _)
   | (with_reducible exact LeO.refl _)
   | (with_reducible exact LeO.none _)
   | (with_reducible refine LeO.ite ?_ ?_)
   | (with_reducible refine LeO.bind ?_ (fun _ => ?_))
  ·intro y0 y1 y2 y3
   unfold spec_l1Match.j3
   repeat' first
   | (with_reducible exact ih0 _ _ _)
   | (with_reducible exact ih1 _ _ _ _)
   | (with_reducible exact ih2 _ _ _ _ _)
   | (with_reducible exact ih3 _ _ _ _)
   | (with_reducible exact LeO.refl _)
   | (with_reducible exact LeO.none _)
   | (with_reducible refine LeO.ite ?_ ?_)
   | (with_reducible refine LeO.bind ?_ (fun _ => ?_))
theorem spec_l1Match.mono : ∀ a0 a1 k, LeO (spec_l1Match.f k a0 a1) (spec_l1Match.f (k + 1) a0 a1) := by
 intro a0 a1 k
 obtain ⟨ih0, ih1, ih2, ih3⟩ := spec_l1Match.mono_l k
 unfold spec_l1Match.f
 repeat' first
   | (with_reducible exact ih0 _ _ _)
   | (with_reducible exact ih1 _ _ _ _)
   | (with_reducible exact ih2 _ _ _ _ _)
   | (with_reducible exact ih3 _ _ _ _)
   | (with_reducible exact LeO.refl _)
   | (with_reducible exact LeO.none _)
   | (with_reducible refine LeO.ite ?_ ?_)
   | (with_reducible refine LeO.bind ?_ (fun _ => ?_))
set_option maxHeartbeats 8000000 in
set_option maxRecDepth 100000 in
theorem spec_l1Match.calls (k : Nat) (a0 : ByteArray) (a1 : Int) (r : Int) (w : World) (h : spec_l1Match.f k a0 a1 = some r) :
  Calls Try.prog 31 #[.string a0, .int .i64 a1] w fun e w' => e = .returned (.int .i64 r) ∧ Drawn0 w w' := by
 have H : (if 0 ≤ a1 then (if a1 < (a0.size : Int) then (if (bt a0 a1) = 47 then (spec_l1Match.j0 k a0 a1 (-1)) else (spec_l1Match.j0 k a0 a1 1)) else (none)) else (none)) = some r := h
 clear h
 by_cases c3 : 0 ≤ a1
 ·rw [if_pos c3] at H
  have c3b0 : decide (0 ≤ a1) = true := dT c3
  clear c3
  by_cases c4 : a1 < (a0.size : Int)
  ·rw [if_pos c4] at H
   have c4b0 : decide (a1 < (a0.size : Int)) = true := dT c4
   clear c4
   have iP := aM H
   clear H
   have p5 : 0 ≤ (a1 : Int) := oD z2
   have q5 : a1 < (a0.size : Int) := oD z2
   have hx5 := bt_at a0 a1
   replace p5 := eq_true p5
   replace q5 := eq_true q5
   go_enter Try.func31, Try.ntmps31
   go_upto_if 11 with (fail)
   go_cut [5] (fun v5 wc => ∃ (kq : Nat) (x5_5 : Int), v5 = .int .i64 x5_5 ∧ Aside0 (spec_l1Match.j0 kq a0 a1 x5_5 = some r) ∧ Aside0 (kq ≤ k) ∧ Drawn0 w wc)
   case first =>
    have H := iP.out
    clear iP
    by_cases c7 : (bt a0 a1) = 47
    ·rw [if_pos c7] at H
     have c7b0 : ((bt a0 a1) == 47) = true := qT c7
     have c7b1 : ((bt a0 a1) != 47) = false := nF c7
     clear c7
     (first | rw [c7b0] | (simp only [i64_w, i32_w]; rw [c7b0]) | skip)
     have H' := aM H
     clear H
     go_wp2
     go_meet
     case rel => exact ⟨_, ((-1)), z1, H', ⟨y0⟩, y3⟩
    ·rw [if_neg c7] at H
     have c7b0 : ((bt a0 a1) == 47) = false := qF c7
     have c7b1 : ((bt a0 a1) != 47) = true := nT c7
     (first | rw [c7b0] | (simp only [i64_w, i32_w]; rw [c7b0]) | skip)
     have H' := aM H
     clear H
     go_wp2
     go_meet
     case rel => exact ⟨_, (1), z1, H', ⟨y0⟩, y3⟩
   case rest =>
    clear iP
    try clear c3
    try clear c3b0
    try clear c4
    try clear c4b0
    try clear p5
    try clear q5
    try clear hx5
    try clear p5
    try clear q5
    obtain ⟨kq, x5_5, rfl, HA, gw, ⟨mc5, rfl⟩⟩ := hcut
    cases kq with
    | zero => exact absurd HA.out (by simp [spec_l1Match.j0])
    | succ kj5 =>
     have H := HA.out
     clear HA
     simp only [spec_l1Match.j0] at H
     have H' := aM H
     clear H
     go_wp2
     go_loopg [6, 7] kj5 (fun kq v6 v7 w' => ∃ (x6_2 : Int) (x7_2 : Int), v6 = .int .i64 x6_2 ∧ v7 = .int .i64 x7_2 ∧ Aside0 (spec_l1Match.l0 kq a0 x5_5 x6_2 x7_2 = some r) ∧ Aside0 (kq ≤ kj5) ∧ Drawn0 w w')
     case atStart => exact ⟨(0), (a1), z1, z1, H', ⟨Nat.le_refl _⟩, y3⟩
     case round =>
      clear H'
      try clear c3
      try clear c3b0
      try clear c4
      try clear c4b0
      try clear p5
      try clear q5
      try clear hx5
      try clear p5
      try clear q5
      obtain ⟨x6_2, x7_2, rfl, rfl, HA, HK2, ⟨m2, rfl⟩⟩ := hrel
      cases gk with
      | zero => exact absurd HA.out (by simp [spec_l1Match.l0])
      | succ k2 =>
       have H := HA.out
       clear HA
       simp only [spec_l1Match.l0] at H
       have ui := aM H
       clear H
       go_upto_region 6 with (fail)
       go_cut [20] (fun v20 wc => ∃ (kq : Nat) (x20_7 : Bool), v20 = .bool x20_7 ∧ Aside0 (spec_l1Match.j2 kq a0 x5_5 x6_2 x7_2 x20_7 = some r) ∧ Aside0 (kq ≤ k2) ∧ Drawn0 w wc)
       case first =>
        have H := ui.out
        clear ui
        by_cases c9 : x7_2 ≥ 0
        ·rw [if_pos c9] at H
         have c9b0 : decide (0 ≤ x7_2) = true := dT c9
         clear c9
         (first | rw [c9b0] | (simp only [i64_w, i32_w]; rw [c9b0]) | skip)
         have H' := aM H
         clear H
         go_wp2
         go_meet
         case rel => exact ⟨_, (decide (x7_2 < (a0.size : Int))), z1, H', ⟨by have := gw.out; have := HK2.out; first | omega | exact Nat.le_refl _⟩, y3⟩
        ·rw [if_neg c9] at H
         have c9b0 : decide (0 ≤ x7_2) = false := dF c9
         clear c9
         (first | rw [c9b0] | (simp only [i64_w, i32_w]; rw [c9b0]) | skip)
         have H' := aM H
         clear H
         go_wp2
         go_meet
         case rel => exact ⟨_, (false), z1, H', ⟨by have := gw.out; have := HK2.out; first | omega | exact Nat.le_refl _⟩, y3⟩
       case rest =>
        clear ui
        try clear p2
        try clear c3
        try clear c3b0
        try clear c4
        try clear c4b0
        try clear c5
        try clear p5
        try clear q5
        try clear hx5
        try clear c7
        try clear c7b0
        try clear c7b1
        try clear p2
        try clear p5
        try clear q5
        obtain ⟨kq, x20_7, rfl, HA, rT, ⟨mc7, rfl⟩⟩ := hcut
        cases kq with
        | zero => exact absurd HA.out (by simp [spec_l1Match.j2])
        | succ kj7 =>
         have H := HA.out
         clear HA
         simp only [spec_l1Match.j2] at H
         by_cases dk : x20_7 = true
         ·subst dk
          rw [if_pos rfl] at H
          by_cases cP : 0 ≤ x7_2
          ·rw [if_pos cP] at H
           have c11b0 : decide (0 ≤ x7_2) = true := dT cP
           clear cP
           by_cases b5 : x7_2 < (a0.size : Int)
           ·rw [if_pos b5] at H
            have c12b0 : decide (x7_2 < (a0.size : Int)) = true := dT b5
            clear b5
            obtain ⟨pI, mh, H⟩ := oA_ H
            try dsimp only at H
            have rF := aM H
            clear H
            have p13 : 0 ≤ (x7_2 : Int) := oD z2
            have q13 : x7_2 < (a0.size : Int) := oD z2
            have hx13 := bt_at a0 x7_2
            replace p13 := eq_true p13
            replace q13 := eq_true q13
            go_upto_if 27 with (first | ((with_reducible refine av (f := 29) rfl ?_); refine ay (some 27) rfl rfl Try.func29 z0 rfl #[.int .u8 (bt a0 x7_2)] rfl z14 ?_; (with_reducible refine (spec_l1Open.calls (bt a0 x7_2) pI _ mh.out).mono ?_); rintro e w' ⟨rfl, ⟨nd, rfl⟩⟩; refine ⟨_, rfl, ?_⟩))
            (try simp only [Act.put, sA, sB, sC])
            go_cut [6] (fun v6 wc => ∃ (kq : Nat) (x6_14 : Int), v6 = .int .i64 x6_14 ∧ Aside0 (spec_l1Match.j3 kq a0 x5_5 x6_14 x7_2 = some r) ∧ Aside0 (kq ≤ kj7) ∧ Drawn0 w wc)
            case first =>
             have H := rF.out
             clear rF
             by_cases eu : pI = true
             ·subst eu
              rw [if_pos rfl] at H
              have H' := aM H
              clear H
              go_wp2
              go_meet
              case rel => exact ⟨_, (wrap64 (x6_2 + x5_5)), z1, H', ⟨by have := gw.out; have := HK2.out; have := rT.out; first | omega | exact Nat.le_refl _⟩, y3⟩
             ·replace eu := Bool.eq_false_iff.mpr eu
              subst eu
              rw [if_neg nF_] at H
              have H' := aM H
              clear H
              go_wp2
              go_meet
              case rel => exact ⟨_, (x6_2), z1, H', ⟨by have := gw.out; have := HK2.out; have := rT.out; first | omega | exact Nat.le_refl _⟩, y3⟩
            case rest =>
             clear rF
             try clear p2
             try clear c3
             try clear c3b0
             try clear c4
             try clear c4b0
             try clear c5
             try clear p5
             try clear q5
             try clear hx5
             try clear c7
             try clear c7b0
             try clear c7b1
             try clear dk
             try clear cP
             try clear c11b0
             try clear b5
             try clear c12b0
             try clear p13
             try clear q13
             try clear hx13
             try clear p13
             try clear p2
             try clear p5
             try clear q13
             try clear q5
             obtain ⟨kq, x6_14, rfl, HA, p0, ⟨mc14, rfl⟩⟩ := hcut
             cases kq with
             | zero => exact absurd HA.out (by simp [spec_l1Match.j3])
             | succ kj14 =>
              have H := HA.out
              clear HA
              simp only [spec_l1Match.j3] at H
              by_cases e4 : 0 ≤ x7_2
              ·rw [if_pos e4] at H
               have c17b0 : decide (0 ≤ x7_2) = true := dT e4
               clear e4
               by_cases e8 : x7_2 < (a0.size : Int)
               ·rw [if_pos e8] at H
                have c18b0 : decide (x7_2 < (a0.size : Int)) = true := dT e8
                clear e8
                by_cases cE : (bt a0 x7_2) = 47
                ·rw [if_pos cE] at H
                 have c20b0 : ((bt a0 x7_2) == 47) = true := qT cE
                 have c20b1 : ((bt a0 x7_2) != 47) = false := nF cE
                 clear cE
                 by_cases dX : (wrap64 (x6_14 - x5_5)) = 0
                 ·rw [if_pos dX] at H
                  have c21b0 : ((wrap64 (x6_14 - x5_5)) == 0) = true := qT dX
                  have c21b1 : ((wrap64 (x6_14 - x5_5)) != 0) = false := nF dX
                  clear dX
                  obtain rfl := sI H
                  have p19 : 0 ≤ (x7_2 : Int) := oD z2
                  have q19 : x7_2 < (a0.size : Int) := oD z2
                  have hx19 := bt_at a0 x7_2
                  replace p19 := eq_true p19
                  replace q19 := eq_true q19
                  go_wp2
                  go_ret
                  exact ⟨y1, y3⟩
                 ·rw [if_neg dX] at H
                  have c21b0 : ((wrap64 (x6_14 - x5_5)) == 0) = false := qF dX
                  have c21b1 : ((wrap64 (x6_14 - x5_5)) != 0) = true := nT dX
                  have H' := aM H
                  clear H
                  have p19 : 0 ≤ (x7_2 : Int) := oD z2
                  have q19 : x7_2 < (a0.size : Int) := oD z2
                  have hx19 := bt_at a0 x7_2
                  replace p19 := eq_true p19
                  replace q19 := eq_true q19
                  go_wp2
                  go_roundg kj14
                  case measure => have := gw.out; have := HK2.out; have := rT.out; have := p0.out; omega
                  case rel => exact ⟨(wrap64 (x6_14 - x5_5)), (wrap64 (x7_2 + x5_5)), z1, z1, H', ⟨by have := gw.out; have := HK2.out; have := rT.out; have := p0.out; omega⟩, y3⟩
                ·rw [if_neg cE] at H
                 have c20b0 : ((bt a0 x7_2) == 47) = false := qF cE
                 have c20b1 : ((bt a0 x7_2) != 47) = true := nT cE
                 by_cases gG : x6_14 = 0
                 ·rw [if_pos gG] at H
                  have c22b0 : (x6_14 == 0) = true := qT gG
                  have c22b1 : (x6_14 != 0) = false := nF gG
                  clear gG
                  obtain rfl := sI H
                  have p19 : 0 ≤ (x7_2 : Int) := oD z2
                  have q19 : x7_2 < (a0.size : Int) := oD z2
                  have hx19 := bt_at a0 x7_2
                  replace p19 := eq_true p19
                  replace q19 := eq_true q19
                  go_wp2
                  go_ret
                  exact ⟨y1, y3⟩
                 ·rw [if_neg gG] at H
                  have c22b0 : (x6_14 == 0) = false := qF gG
                  have c22b1 : (x6_14 != 0) = true := nT gG
                  have H' := aM H
                  clear H
                  have p19 : 0 ≤ (x7_2 : Int) := oD z2
                  have q19 : x7_2 < (a0.size : Int) := oD z2
                  have hx19 := bt_at a0 x7_2
                  replace p19 := eq_true p19
                  replace q19 := eq_true q19
                  go_wp2
                  go_roundg kj14
                  case measure => have := gw.out; have := HK2.out; have := rT.out; have := p0.out; omega
                  case rel => exact ⟨(x6_14), (wrap64 (x7_2 + x5_5)), z1, z1, H', ⟨by have := gw.out; have := HK2.out; have := rT.out; have := p0.out; omega⟩, y3⟩
               ·rw [if_neg e8] at H
                exact absurd H (by simp)
              ·rw [if_neg e4] at H
               exact absurd H (by simp)
           ·rw [if_neg b5] at H
            exact absurd H (by simp)
          ·rw [if_neg cP] at H
           exact absurd H (by simp)
         ·replace dk := Bool.eq_false_iff.mpr dk
          subst dk
          rw [if_neg nF_] at H
          obtain rfl := sI H
          go_wp2
          go_ret
          exact ⟨y1, y3⟩
  ·rw [if_neg c4] at H
   exact absurd H (by simp)
 ·rw [if_neg c3] at H
  exact absurd H (by simp)

/-! ### spec_l1In: function 71 -/
def spec_l1In.f (a0 : Int) (a1 : Int) (a2 : Int) : Option (Bool) := if a0 ≥ a1 then (some (decide (a0 ≤ a2))) else (some false)
set_option maxHeartbeats 8000000 in
set_option maxRecDepth 100000 in
theorem spec_l1In.calls (a0 : Int) (a1 : Int) (a2 : Int) (r : Bool) (w : World) (h : spec_l1In.f a0 a1 a2 = some r) :
  Calls Try.prog 71 #[.int .i64 a0, .int .i64 a1, .int .i64 a2] w fun e w' => e = .returned (.bool r) ∧ Drawn0 w w' := by
 have H : (if a0 ≥ a1 then (some (decide (a0 ≤ a2))) else (some false)) = some r := h
 clear h
 by_cases c4 : a0 ≥ a1
 ·rw [if_pos c4] at H
  have c4b0 : decide (a1 ≤ a0) = true := dT c4
  clear c4
  obtain rfl := sI H
  go_enter Try.func71, Try.ntmps71
  go_wp2
  go_ret
  exact ⟨y1, y3⟩
 ·rw [if_neg c4] at H
  have c4b0 : decide (a1 ≤ a0) = false := dF c4
  clear c4
  obtain rfl := sI H
  go_enter Try.func71, Try.ntmps71
  go_wp2
  go_ret
  exact ⟨y1, y3⟩

end Go.Proofs.Ytmigfgcpdelnfaa.AFnUndoneBy
