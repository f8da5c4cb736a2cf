-- this session's own text: written by wip/tools/ownprint.py over the kit's print
import Derived.Test.YtifllccpfiobfaaAFnExactMergeThreex0
import Derived.Test.YtifllccpfiobfaaAFnExactMergeThreex1
import Derived.Test.YtifllccpfiobfaaAFnExactMergeThreex2
import Derived.Test.YtifllccpfiobfaaAFnExactMergeThreex3
namespace Go.Proofs.Ytifllccpfiobfaa.AFnExactMergeThree
open Go.RowKit Go.Proofs.YtifllccpfiobfaaW.PrintWords Go.Proofs.YtifllccpfiobfaaW.PrintLast Go.Proofs.YtifllccpfiobfaaW.PrintMore
attribute [local go_sem] max2_int min2_int max_two min_two max_three min_three max_four min_four   -- for this text's walks alone
set_option linter.unusedVariables false
set_option linter.unusedSimpArgs false

/-! ### spec_l9Diff: function 39 -/
mutual
def spec_l9Diff.l0 : Nat → ByteArray → ByteArray → List (List Int) → List (S44) → Int → Int → Option ((List (S44)))
 | 0, _, _, _, _, _, _ => none
 | k + 1, x0, x1, x5, x6, x7, x8 => if x7 < (x0.size : Int) then (spec_l9Diff.j1 k x0 x1 x5 x6 x7 x8 true) else (spec_l9Diff.j1 k x0 x1 x5 x6 x7 x8 (decide (x8 < (x1.size : Int))))
def spec_l9Diff.j1 : Nat → ByteArray → ByteArray → List (List Int) → List (S44) → Int → Int → Bool → Option ((List (S44)))
 | 0, _, _, _, _, _, _, _ => none
 | k + 1, x0, x1, x5, x6, x7, x8, x21 => if x21 = true then (if x7 < (x0.size : Int) then (if x8 < (x1.size : Int) then (if 0 ≤ x7 then (if 0 ≤ x8 then (spec_l9Diff.j2 k x0 x1 x5 x6 x7 x8 ((bt x0 x7) == (bt x1 x8))) else (none)) else (none)) else (spec_l9Diff.j2 k x0 x1 x5 x6 x7 x8 false)) else (spec_l9Diff.j2 k x0 x1 x5 x6 x7 x8 false)) else (some x6)
def spec_l9Diff.j2 : Nat → ByteArray → ByteArray → List (List Int) → List (S44) → Int → Int → Bool → Option ((List (S44)))
 | 0, _, _, _, _, _, _, _ => none
 | k + 1, x0, x1, x5, x6, x7, x8, x32 => if x32 = true then ((spec_l3Add.f k x6 1 (⟨#[]⟩ : ByteArray) (⟨#[]⟩ : ByteArray)).bind fun jL => (spec_l9Diff.l0 k x0 x1 x5 jL (wrap64 (x7 + 1)) (wrap64 (x8 + 1)))) else (if x8 = (x1.size : Int) then (spec_l9Diff.j3 k x0 x1 x5 x6 x7 x8 true) else (if x7 < (x0.size : Int) then (if 0 ≤ (wrap64 (x7 + 1)) then (if (wrap64 (x7 + 1)) < (x5.length : Int) then (if 0 ≤ x8 then (if x8 < ((rd_L1 x5 (wrap64 (x7 + 1))).length : Int) then (if 0 ≤ x7 then (if x7 < (x5.length : Int) then (if x8 < ((rd_L1 x5 x7).length : Int) then (spec_l9Diff.j3 k x0 x1 x5 x6 x7 x8 ((rd (rd_L1 x5 (wrap64 (x7 + 1))) x8) == (rd (rd_L1 x5 x7) x8))) else (none)) else (none)) else (none)) else (none)) else (none)) else (none)) else (none)) else (spec_l9Diff.j3 k x0 x1 x5 x6 x7 x8 false)))
def spec_l9Diff.j3 : Nat → ByteArray → ByteArray → List (List Int) → List (S44) → Int → Int → Bool → Option ((List (S44)))
 | 0, _, _, _, _, _, _, _ => none
 | k + 1, x0, x1, x5, x6, x7, x8, x59 => if x59 = true then (if 0 ≤ x7 then (if x7 ≤ (wrap64 (x7 + 1)) then (if (wrap64 (x7 + 1)) ≤ (x0.size : Int) then ((spec_l3Add.f k x6 0 (⟨#[]⟩ : ByteArray) (x0.extract (x7 : Int).toNat ((wrap64 (x7 + 1)) : Int).toNat)).bind fun jK => (spec_l9Diff.l0 k x0 x1 x5 jK (wrap64 (x7 + 1)) x8)) else (none)) else (none)) else (none)) else (if 0 ≤ x8 then (if x8 ≤ (wrap64 (x8 + 1)) then (if (wrap64 (x8 + 1)) ≤ (x1.size : Int) then ((spec_l3Add.f k x6 0 (x1.extract (x8 : Int).toNat ((wrap64 (x8 + 1)) : Int).toNat) (⟨#[]⟩ : ByteArray)).bind fun jJ => (spec_l9Diff.l0 k x0 x1 x5 jJ x7 (wrap64 (x8 + 1)))) else (none)) else (none)) else (none))
end
def spec_l9Diff.f (k : Nat) (a0 : ByteArray) (a1 : ByteArray) : Option ((List (S44))) := (spec_l9Table.f k a0 a1).bind fun bZ => (spec_l9Diff.l0 k a0 a1 bZ ([] : List (S44)) 0 0)
theorem spec_l9Diff.mono_l : ∀ k, (∀ y0 y1 y2 y3 y4 y5, LeO (spec_l9Diff.l0 k y0 y1 y2 y3 y4 y5) (spec_l9Diff.l0 (k + 1) y0 y1 y2 y3 y4 y5)) ∧ (∀ y0 y1 y2 y3 y4 y5 y6, LeO (spec_l9Diff.j1 k y0 y1 y2 y3 y4 y5 y6) (spec_l9Diff.j1 (k + 1) y0 y1 y2 y3 y4 y5 y6)) ∧ (∀ y0 y1 y2 y3 y4 y5 y6, LeO (spec_l9Diff.j2 k y0 y1 y2 y3 y4 y5 y6) (spec_l9Diff.j2 (k + 1) y0 y1 y2 y3 y4 y5 y6)) ∧ (∀ y0 y1 y2 y3 y4 y5 y6, LeO (spec_l9Diff.j3 k y0 y1 y2 y3 y4 y5 y6) (spec_l9Diff.j3 (k + 1) y0 y1 y2 y3 y4 y5 y6))
 | 0 => ⟨fun _ _ _ _ _ _ r h => by simp [spec_l9Diff.l0] at h, fun _ _ _ _ _ _ _ r h => by simp [spec_l9Diff.j1] at h, fun _ _ _ _ _ _ _ r h => by simp [spec_l9Diff.j2] at h, fun _ _ _ _ _ _ _ r h => by simp [spec_l9Diff.j3] at h⟩
 | k + 1 => by
  obtain ⟨ih0, ih1, ih2, ih3⟩ := spec_l9Diff.mono_l k
  refine ⟨?_, ?_, ?_, ?_⟩
  ·intro y0 y1 y2 y3 y4 y5
   unfold spec_l9Diff.l0
   repeat' first
   | (with_reducible exact ih0 _ _ _ _ _ _)
   | (with_reducible exact ih1 _ _ _ _ _ _ _)
   | (with_reducible exact ih2 _ _ _ _ _ _ _)
   | (with_reducible exact ih3 _ _ _ _ _ _ _)
   | (with_reducible exact spec_l3Add.mono _ _ _ _ _)
   | (with_reducible exact spec_l9Table.mono _ _ _)
   | (with_reducible exact LeO.refl _)
   | (with_reducible exact LeO.none _)
   | (with_reducible refine LeO.ite ?_ ?_)
   | (with_reducible refine LeO.bind ?_ (fun _ => ?_))
   | exact ih0 _ _ _ _ _ _
   | exact ih1 _ _ _ _ _ _ _
   | exact ih2 _ _ _ _ _ _ _
   | exact ih3 _ _ _ _ _ _ _
   | exact spec_l3Add.mono _ _ _ _ _
   | exact spec_l9Table.mono _ _ _
   | exact LeO.none _
   | refine LeO.ite ?_ ?_
   | refine LeO.bind ?_ (fun _ => ?_)
  ·intro y0 y1 y2 y3 y4 y5 y6
   unfold spec_l9Diff.j1
   repeat' first
   | (with_reducible exact ih0 _ _ _ _ _ _)
   | (with_reducible exact ih1 _ _ _ _ _ _ _)
   | (with_reducible exact ih2 _ _ _ _ _ _ _)
   | (with_reducible exact ih3 _ _ _ _ _ _ _)
   | (with_reducible exact spec_l3Add.mono _ _ _ _ _)
   | (with_reducible exact spec_l9Table.mono _ _ _)
   | (with_reducible exact LeO.refl _)
   | (with_reducible exact LeO.none _)
   | (with_reducible refine LeO.ite ?_ ?_)
   | (with_reducible refine LeO.bind ?_ (fun _ => ?_))
   | exact ih0 _ _ _ _ _ _
   | exact ih1 _ _ _ _ _ _ _
   | exact ih2 _ _ _ _ _ _ _
   | exact ih3 _ _ _ _ _ _ _
   | exact spec_l3Add.mono _ _ _ _ _
   | exact spec_l9Table.mono _ _ _
   | exact LeO.none _
   | refine LeO.ite ?_ ?_
   | refine LeO.bind ?_ (fun _ => ?_)
  ·intro y0 y1 y2 y3 y4 y5 y6
   unfold spec_l9Diff.j2
   repeat' first
   | (with_reducible exact ih0 _ _ _ _ _ _)
   | (with_reducible exact ih1 _ _ _ _ _ _ _)
   | (with_reducible exact ih2 _ _ _ _ _ _ _)
   | (with_reducible exact ih3 _ _ _ _ _ _ _)
   | (with_reducible exact spec_l3Add.mono _ _ _ _ _)
   | (with_reducible exact spec_l9Table.mono _ _ _)
   | (with_reducible exact LeO.refl _)
   | (with_reducible exact LeO.none _)
   | (with_reducible refine LeO.ite ?_ ?_)
   | (with_reducible refine LeO.bind ?_ (fun _ => ?_))
   | exact ih0 _ _ _ _ _ _
   | exact ih1 _ _ _ _ _ _ _
   | exact ih2 _ _ _ _ _ _ _
   | exact ih3 _ _ _ _ _ _ _
   | exact spec_l3Add.mono _ _ _ _ _
   | exact spec_l9Table.mono _ _ _
   | exact LeO.none _
   | refine LeO.ite ?_ ?_
   | refine LeO.bind ?_ (fun _ => ?_)
  ·intro y0 y1 y2 y3 y4 y5 y6
   unfold spec_l9Diff.j3
   repeat' first
   | (with_reducible exact ih0 _ _ _ _ _ _)
   | (with_reducible exact ih1 _ _ _ _ _ _ _)
   | (with_reducible exact ih2 _ _ _ _ _ _ _)
   | (with_reducible exact ih3 _ _ _ _ _ _ _)
   | (with_reducible exact spec_l3Add.mono _ _ _ _ _)
   | (with_reducible exact spec_l9Table.mono _ _ _)
   | (with_reducible exact LeO.refl _)
   | (with_reducible exact LeO.none _)
   | (with_reducible refine LeO.ite ?_ ?_)
   | (with_reducible refine LeO.bind ?_ (fun _ => ?_))
   | exact ih0 _ _ _ _ _ _
   | exact ih1 _ _ _ _ _ _ _
   | exact ih2 _ _ _ _ _ _ _
   | exact ih3 _ _ _ _ _ _ _
   | exact spec_l3Add.mono _ _ _ _ _
   | exact spec_l9Table.mono _ _ _
   | exact LeO.none _
   | refine LeO.ite ?_ ?_
   | refine LeO.bind ?_ (fun _ => ?_)
theorem spec_l9Diff.mono : ∀ a0 a1 k, LeO (spec_l9Diff.f k a0 a1) (spec_l9Diff.f (k + 1) a0 a1) := by
 intro a0 a1 k
 obtain ⟨ih0, ih1, ih2, ih3⟩ := spec_l9Diff.mono_l k
 unfold spec_l9Diff.f
 repeat' first
   | (with_reducible exact ih0 _ _ _ _ _ _)
   | (with_reducible exact ih1 _ _ _ _ _ _ _)
   | (with_reducible exact ih2 _ _ _ _ _ _ _)
   | (with_reducible exact ih3 _ _ _ _ _ _ _)
   | (with_reducible exact spec_l3Add.mono _ _ _ _ _)
   | (with_reducible exact spec_l9Table.mono _ _ _)
   | (with_reducible exact LeO.refl _)
   | (with_reducible exact LeO.none _)
   | (with_reducible refine LeO.ite ?_ ?_)
   | (with_reducible refine LeO.bind ?_ (fun _ => ?_))
   | exact ih0 _ _ _ _ _ _
   | exact ih1 _ _ _ _ _ _ _
   | exact ih2 _ _ _ _ _ _ _
   | exact ih3 _ _ _ _ _ _ _
   | exact spec_l3Add.mono _ _ _ _ _
   | exact spec_l9Table.mono _ _ _
   | exact LeO.none _
   | refine LeO.ite ?_ ?_
   | refine LeO.bind ?_ (fun _ => ?_)
set_option maxHeartbeats 8000000 in
set_option maxRecDepth 100000 in
theorem spec_l9Diff.calls (k : Nat) (a0 : ByteArray) (a1 : ByteArray) (r : List (S44)) (w : World) (h : spec_l9Diff.f k a0 a1 = some r) :
  Calls Try.prog 39 #[.string a0, .string a1] w fun e w' => ∃ v0_ : Value, e = .returned (v0_) ∧ Kd.R k44 44 w' w.heap.size (fun _ => True) v0_ r ∧ Below w.heap.size w w' := by
 have hu44 := Try.underlying44
 have HB := aM (Below.refl w.heap.size w)
 have H : ((spec_l9Table.f k a0 a1).bind fun bZ => (spec_l9Diff.l0 k a0 a1 bZ ([] : List (S44)) 0 0)) = some r := h
 clear h
 replace H := oB H
 obtain ⟨bZ, eF, H⟩ := H
 try dsimp only at H
 have A3 := aM eF
 clear eF
 have H' := aM H
 clear H
 go_enter Try.func39, Try.ntmps39
 go_wp2_with (first | (go_at_call 49; (with_reducible refine (spec_l9Table.calls k a0 a1 bZ _ A3.out).mono ?_); rintro e w4 ⟨v162, rfl, ho0, hb⟩; have aT := aM (Kd.S_lower ho0 (aq z9)); have aU := aM (ap z9 hb); clear HB; have kW := aT; have HB := aU; clear aT aU; (try clear hb); (try clear hb2); (try clear hk); (try clear hi); (try clear ho0)))
 repeat (go_quiet (first | (go_at_call 49; (with_reducible refine (spec_l9Table.calls k a0 a1 bZ _ A3.out).mono ?_); rintro e w4 ⟨v162, rfl, ho0, hb⟩; have aT := aM (Kd.S_lower ho0 (aq z9)); have aU := aM (ap z9 hb); clear HB; have kW := aT; have HB := aU; clear aT aU; (try clear hb); (try clear hb2); (try clear hk); (try clear hi); (try clear ho0))); try go_wp2_with (first | (go_at_call 49; (with_reducible refine (spec_l9Table.calls k a0 a1 bZ _ A3.out).mono ?_); rintro e w4 ⟨v162, rfl, ho0, hb⟩; have aT := aM (Kd.S_lower ho0 (aq z9)); have aU := aM (ap z9 hb); clear HB; have kW := aT; have HB := aU; clear aT aU; (try clear hb); (try clear hb2); (try clear hk); (try clear hi); (try clear ho0))))
 go_loopg [6, 7, 8] k (fun kq v6 v7 v8 w' => ∃ (x6_1 : List (S44)) (x7_1 : Int) (x8_1 : Int), v7 = .int .i64 x7_1 ∧ v8 = .int .i64 x8_1 ∧ Aside0 (spec_l9Diff.l0 kq a0 a1 bZ x6_1 x7_1 x8_1 = some r) ∧ Aside0 (kq ≤ k) ∧ Aside0 (Kd.S (Kd.slice 3 (Kd.int .i64)) 41 w' w.heap.size (fun _ => True) v162 bZ) ∧ Aside0 (Kd.R k44 44 w' w.heap.size (fun _ => True) v6 x6_1) ∧ Aside0 (Below w.heap.size w w'))
 case atStart => exact ⟨(([] : List (S44))), (0), (0), z1, z1, H', ⟨Nat.le_refl _⟩, ⟨by (with_reducible repeat (first | apply Kd.S_alloc | apply Kd.S_drewN | apply Kd.S_drew)); exact kW.out⟩, ⟨y21⟩, ⟨y5⟩⟩
 case round =>
  clear H'
  try clear p2
  try clear c3
  obtain ⟨x6_1, x7_1, x8_1, rfl, rfl, HA, HK1, aW, a4, HB⟩ := hrel
  cases gk with
  | zero => exact absurd HA.out (by simp [spec_l9Diff.l0])
  | succ k1 =>
   have H := HA.out
   clear HA
   simp only [spec_l9Diff.l0] at H
   have nL := aM H
   clear H
   go_upto_region 5 with (fail)
   repeat (go_quiet (fail); go_upto_region 5 with (fail))
   go_cut [21] (fun v21 wc => ∃ (kq : Nat) (x21_4 : Bool), v21 = .bool x21_4 ∧ Aside0 (spec_l9Diff.j1 kq a0 a1 bZ x6_1 x7_1 x8_1 x21_4 = some r) ∧ Aside0 (kq ≤ k1) ∧ Aside0 (Kd.S (Kd.slice 3 (Kd.int .i64)) 41 wc w.heap.size (fun _ => True) v162 bZ) ∧ Aside0 (Kd.R k44 44 wc w.heap.size (fun _ => True) u6 x6_1) ∧ Aside0 (Below w.heap.size w wc))
   case first =>
    have H := nL.out
    clear nL
    by_cases c6 : x7_1 < (a0.size : Int)
    ·rw [if_pos c6] at H
     have c6b0 : decide (x7_1 < (a0.size : Int)) = true := dT c6
     clear c6
     (first | rw [c6b0] | (simp only [i64_w, i32_w]; rw [c6b0]) | skip)
     have H' := aM H
     clear H
     go_wp2
     repeat (go_quiet (fail); try go_wp2)
     go_meet
     case rel => exact ⟨_, (true), z1, H', ⟨by have := HK1.out; first | omega | exact Nat.le_refl _⟩, ⟨y6⟩, ⟨y11⟩, ⟨y5⟩⟩
    ·rw [if_neg c6] at H
     have c6b0 : decide (x7_1 < (a0.size : Int)) = false := dF c6
     clear c6
     (first | rw [c6b0] | (simp only [i64_w, i32_w]; rw [c6b0]) | skip)
     have H' := aM H
     clear H
     go_wp2
     repeat (go_quiet (fail); try go_wp2)
     go_meet
     case rel => exact ⟨_, (decide (x8_1 < (a1.size : Int))), z1, H', ⟨by have := HK1.out; first | omega | exact Nat.le_refl _⟩, ⟨y6⟩, ⟨y11⟩, ⟨y5⟩⟩
   case rest =>
    clear nL
    try clear p2
    try clear c3
    try clear c6
    try clear c6b0
    try clear p2
    obtain ⟨kq, x21_4, rfl, HA, j8, aW, a4, HB⟩ := hcut
    cases kq with
    | zero => exact absurd HA.out (by simp [spec_l9Diff.j1])
    | succ kj4 =>
     have H := HA.out
     clear HA
     simp only [spec_l9Diff.j1] at H
     by_cases c7 : x21_4 = true
     ·subst c7
      rw [if_pos rfl] at H
      have nK := aM H
      clear H
      go_upto_region 8 with (fail)
      repeat (go_quiet (fail); go_upto_region 8 with (fail))
      go_cut [32] (fun v32 wc => ∃ (kq : Nat) (x32_7 : Bool), v32 = .bool x32_7 ∧ Aside0 (spec_l9Diff.j2 kq a0 a1 bZ x6_1 x7_1 x8_1 x32_7 = some r) ∧ Aside0 (kq ≤ kj4) ∧ Aside0 (Kd.S (Kd.slice 3 (Kd.int .i64)) 41 wc w.heap.size (fun _ => True) v162 bZ) ∧ Aside0 (Kd.R k44 44 wc w.heap.size (fun _ => True) u6 x6_1) ∧ Aside0 (Below w.heap.size w wc))
      case first =>
       have H := nK.out
       clear nK
       by_cases c9 : x7_1 < (a0.size : Int)
       ·rw [if_pos c9] at H
        have c9b0 : decide (x7_1 < (a0.size : Int)) = true := dT c9
        clear c9
        (first | rw [c9b0] | (simp only [i64_w, i32_w]; rw [c9b0]) | skip)
        by_cases bz : x8_1 < (a1.size : Int)
        ·rw [if_pos bz] at H
         have c10b0 : decide (x8_1 < (a1.size : Int)) = true := dT bz
         clear bz
         by_cases bV : 0 ≤ x7_1
         ·rw [if_pos bV] at H
          have c11b0 : decide (0 ≤ x7_1) = true := dT bV
          clear bV
          by_cases bR : 0 ≤ x8_1
          ·rw [if_pos bR] at H
           have c13b0 : decide (0 ≤ x8_1) = true := dT bR
           clear bR
           have H' := aM H
           clear H
           have p12 : 0 ≤ (x7_1 : Int) := oD z2
           have q12 : x7_1 < (a0.size : Int) := oD z2
           have hx12 := bt_at a0 x7_1
           replace p12 := eq_true p12
           replace q12 := eq_true q12
           have p14 : 0 ≤ (x8_1 : Int) := oD z2
           have q14 : x8_1 < (a1.size : Int) := oD z2
           have hx14 := bt_at a1 x8_1
           replace p14 := eq_true p14
           replace q14 := eq_true q14
           go_wp2
           repeat (go_quiet (fail); try go_wp2)
           go_meet
           case rel => exact ⟨_, (((bt a0 x7_1) == (bt a1 x8_1))), z1, H', ⟨by have := HK1.out; have := j8.out; first | omega | exact Nat.le_refl _⟩, ⟨y6⟩, ⟨y11⟩, ⟨y5⟩⟩
          ·rw [if_neg bR] at H
           exact absurd H (by simp)
         ·rw [if_neg bV] at H
          exact absurd H (by simp)
        ·rw [if_neg bz] at H
         have c10b0 : decide (x8_1 < (a1.size : Int)) = false := dF bz
         clear bz
         have H' := aM H
         clear H
         go_wp2
         repeat (go_quiet (fail); try go_wp2)
         go_meet
         case rel => exact ⟨_, (false), z1, H', ⟨by have := HK1.out; have := j8.out; first | omega | exact Nat.le_refl _⟩, ⟨y6⟩, ⟨y11⟩, ⟨y5⟩⟩
       ·rw [if_neg c9] at H
        have c9b0 : decide (x7_1 < (a0.size : Int)) = false := dF c9
        clear c9
        (first | rw [c9b0] | (simp only [i64_w, i32_w]; rw [c9b0]) | skip)
        have H' := aM H
        clear H
        go_wp2
        repeat (go_quiet (fail); try go_wp2)
        go_meet
        case rel => exact ⟨_, (false), z1, H', ⟨by have := HK1.out; have := j8.out; first | omega | exact Nat.le_refl _⟩, ⟨y6⟩, ⟨y11⟩, ⟨y5⟩⟩
      case rest =>
       clear nK
       try clear c1
       try clear p1
       try clear q1
       try clear hx1
       try clear p2
       try clear c3
       try clear c6
       try clear c6b0
       try clear c7
       try clear c9
       try clear c9b0
       try clear bz
       try clear c10b0
       try clear bV
       try clear c11b0
       try clear p12
       try clear q12
       try clear hx12
       try clear bR
       try clear c13b0
       try clear p14
       try clear q14
       try clear hx14
       try clear p12
       try clear p14
       try clear p2
       try clear q12
       try clear q14
       obtain ⟨kq, x32_7, rfl, HA, lz, aW, a4, HB⟩ := hcut
       cases kq with
       | zero => exact absurd HA.out (by simp [spec_l9Diff.j2])
       | succ kj7 =>
        have H := HA.out
        clear HA
        simp only [spec_l9Diff.j2] at H
        by_cases ck : x32_7 = true
        ·subst ck
         rw [if_pos rfl] at H
         replace H := oB H
         obtain ⟨jL, fu, H⟩ := H
         try dsimp only at H
         have j9 := aM fu
         clear fu
         have H' := aM H
         clear H
         obtain ⟨fq, e9, eo17⟩ := Kd.R_slice a4.out
         subst eo17
         go_wp2_with (first | (go_at_call 50; (with_reducible refine (spec_l3Add.calls kj7 (fun k_ => some k_ = (.slice fq x6_1.length e9 : Value).ownBlock) (.slice fq x6_1.length e9) x6_1 1 (⟨#[]⟩ : ByteArray) (⟨#[]⟩ : ByteArray) jL w _ ?side1 ?side2 j9.out).mono ?_); (case side1 => repeat (first | (with_reducible first | exact HB.out | apply bA | apply pD | apply bD) | exact HB.out)); (case side2 => exact Kd.R_tight rfl a4.out); rintro e w18 ⟨v165, rfl, ho0, hb, hkp⟩; have aT := aM (Kd.S_mono (ok' := fun k_ => True) (Kd.S_keptB ((Kd.S_apart' aW.out (Kd.R_typed a4.out) (by decide))) hkp (fun k_ hk_ hs_ => (hk_.2) hs_)) (fun k_ hk_ => trivial)); have aU := aM (af (ok' := fun k_ => True) ho0 (fun k_ hk_ => trivial)); have aX := aM (hb); clear aW; clear HB; clear a4; have aW := aT; have kV := aU; have HB := aX; clear aT aU aX; (try clear hb); (try clear hkp); (try clear ho0)))
         repeat (go_quiet (first | (go_at_call 50; (with_reducible refine (spec_l3Add.calls kj7 (fun k_ => some k_ = (.slice fq x6_1.length e9 : Value).ownBlock) (.slice fq x6_1.length e9) x6_1 1 (⟨#[]⟩ : ByteArray) (⟨#[]⟩ : ByteArray) jL w _ ?side1 ?side2 j9.out).mono ?_); (case side1 => repeat (first | (with_reducible first | exact HB.out | apply bA | apply pD | apply bD) | exact HB.out)); (case side2 => exact Kd.R_tight rfl a4.out); rintro e w18 ⟨v165, rfl, ho0, hb, hkp⟩; have aT := aM (Kd.S_mono (ok' := fun k_ => True) (Kd.S_keptB ((Kd.S_apart' aW.out (Kd.R_typed a4.out) (by decide))) hkp (fun k_ hk_ hs_ => (hk_.2) hs_)) (fun k_ hk_ => trivial)); have aU := aM (af (ok' := fun k_ => True) ho0 (fun k_ hk_ => trivial)); have aX := aM (hb); clear aW; clear HB; clear a4; have aW := aT; have kV := aU; have HB := aX; clear aT aU aX; (try clear hb); (try clear hkp); (try clear ho0))); try go_wp2_with (first | (go_at_call 50; (with_reducible refine (spec_l3Add.calls kj7 (fun k_ => some k_ = (.slice fq x6_1.length e9 : Value).ownBlock) (.slice fq x6_1.length e9) x6_1 1 (⟨#[]⟩ : ByteArray) (⟨#[]⟩ : ByteArray) jL w _ ?side1 ?side2 j9.out).mono ?_); (case side1 => repeat (first | (with_reducible first | exact HB.out | apply bA | apply pD | apply bD) | exact HB.out)); (case side2 => exact Kd.R_tight rfl a4.out); rintro e w18 ⟨v165, rfl, ho0, hb, hkp⟩; have aT := aM (Kd.S_mono (ok' := fun k_ => True) (Kd.S_keptB ((Kd.S_apart' aW.out (Kd.R_typed a4.out) (by decide))) hkp (fun k_ hk_ hs_ => (hk_.2) hs_)) (fun k_ hk_ => trivial)); have aU := aM (af (ok' := fun k_ => True) ho0 (fun k_ hk_ => trivial)); have aX := aM (hb); clear aW; clear HB; clear a4; have aW := aT; have kV := aU; have HB := aX; clear aT aU aX; (try clear hb); (try clear hkp); (try clear ho0))))
         go_roundg kj7
         case measure => have := HK1.out; have := j8.out; have := lz.out; omega
         case rel => exact ⟨(jL), (wrap64 (x7_1 + 1)), (wrap64 (x8_1 + 1)), z1, z1, H', ⟨by have := HK1.out; have := j8.out; have := lz.out; omega⟩, ⟨y6⟩, ⟨by (with_reducible repeat (first | apply ac | apply ab | apply aa)); exact kV.out⟩, ⟨y5⟩⟩
        ·replace ck := Bool.eq_false_iff.mpr ck
         subst ck
         rw [if_neg (show ¬ (false = true) by decide)] at H
         have iC := aM H
         clear H
         go_upto_region 12 with (fail)
         repeat (go_quiet (fail); go_upto_region 12 with (fail))
         go_cut [59] (fun v59 wc => ∃ (kq : Nat) (x59_18 : Bool), v59 = .bool x59_18 ∧ Aside0 (spec_l9Diff.j3 kq a0 a1 bZ x6_1 x7_1 x8_1 x59_18 = some r) ∧ Aside0 (kq ≤ kj7) ∧ Aside0 (Kd.S (Kd.slice 3 (Kd.int .i64)) 41 wc w.heap.size (fun _ => True) v162 bZ) ∧ Aside0 (Kd.R k44 44 wc w.heap.size (fun _ => True) u6 x6_1) ∧ Aside0 (Below w.heap.size w wc))
         case first =>
          have H := iC.out
          clear iC
          by_cases dd : x8_1 = (a1.size : Int)
          ·rw [if_pos dd] at H
           have c20b0 : (x8_1 == (a1.size : Int)) = true := qT dd
           have c20b1 : (x8_1 != (a1.size : Int)) = false := nF dd
           clear dd
           (first | rw [c20b0] | (simp only [i64_w, i32_w]; rw [c20b0]) | skip)
           have H' := aM H
           clear H
           go_wp2
           repeat (go_quiet (fail); try go_wp2)
           go_meet
           case rel => exact ⟨_, (true), z1, H', ⟨by have := HK1.out; have := j8.out; have := lz.out; first | omega | exact Nat.le_refl _⟩, ⟨y6⟩, ⟨y11⟩, ⟨y5⟩⟩
          ·rw [if_neg dd] at H
           have c20b0 : (x8_1 == (a1.size : Int)) = false := qF dd
           have c20b1 : (x8_1 != (a1.size : Int)) = true := nT dd
           (first | rw [c20b0] | (simp only [i64_w, i32_w]; rw [c20b0]) | skip)
           by_cases cF : x7_1 < (a0.size : Int)
           ·rw [if_pos cF] at H
            have c21b0 : decide (x7_1 < (a0.size : Int)) = true := dT cF
            clear cF
            obtain ⟨dS, fC⟩ : ∃ j_ : Int, (wrap64 (x7_1 + 1)) = j_ := ⟨_, rfl⟩
            replace H : (if 0 ≤ (dS) then (if (dS) < (bZ.length : Int) then (if 0 ≤ x8_1 then (if x8_1 < ((rd_L1 bZ (dS)).length : Int) then (if 0 ≤ x7_1 then (if x7_1 < (bZ.length : Int) then (if x8_1 < ((rd_L1 bZ x7_1).length : Int) then (spec_l9Diff.j3 kj7 a0 a1 bZ x6_1 x7_1 x8_1 ((rd (rd_L1 bZ (dS)) x8_1) == (rd (rd_L1 bZ x7_1) x8_1))) else (none)) else (none)) else (none)) else (none)) else (none)) else (none)) else (none)) = some r := by first | (rw [fC] at H; exact H) | (simp only [fC] at H ⊢; exact H)
            have hji22w : (IntKind.i64.wrap (x7_1 + 1)) = dS := (i64_w _).trans fC
            by_cases dw : 0 ≤ (dS)
            ·rw [if_pos dw] at H
             have c23b0 : decide (0 ≤ (dS)) = true := dT dw
             clear dw
             by_cases dN : (dS) < (bZ.length : Int)
             ·rw [if_pos dN] at H
              have c24b0 : decide ((dS) < (bZ.length : Int)) = true := dT dN
              clear dN
              by_cases eA : 0 ≤ x8_1
              ·rw [if_pos eA] at H
               have c25b0 : decide (0 ≤ x8_1) = true := dT eA
               clear eA
               by_cases eD : x8_1 < ((rd_L1 bZ (dS)).length : Int)
               ·rw [if_pos eD] at H
                have c26b0 : decide (x8_1 < ((rd_L1 bZ (dS)).length : Int)) = true := dT eD
                clear eD
                by_cases fa : 0 ≤ x7_1
                ·rw [if_pos fa] at H
                 have c27b0 : decide (0 ≤ x7_1) = true := dT fa
                 clear fa
                 by_cases d9 : x7_1 < (bZ.length : Int)
                 ·rw [if_pos d9] at H
                  have c28b0 : decide (x7_1 < (bZ.length : Int)) = true := dT d9
                  clear d9
                  by_cases de : x8_1 < ((rd_L1 bZ x7_1).length : Int)
                  ·rw [if_pos de] at H
                   have c29b0 : decide (x8_1 < ((rd_L1 bZ x7_1).length : Int)) = true := dT de
                   clear de
                   have H' := aM H
                   clear H
                   obtain ⟨ml, l8, eo30⟩ := Kd.S_slice aW.out
                   subst eo30
                   have p167 : 0 ≤ ((dS) : Int) := oD z2
                   have q167 : (dS) < (bZ.length : Int) := oD z2
                   obtain ⟨ad167, A167_0, c167_0, e167, hx167_0, hl167_0, hi167_0⟩ := at_L1 (Kd.S_reads' aW.out).2.2 (dS) p167 q167
                   cases e167
                   obtain ⟨ce167, hce167, hMe167, hcc167⟩ := Kd.S_get aW.out [] (dS) p167 (by first | exact q167 | exact oD z2 | (have e_ := (Kd.S_reads' aW.out).1; omega))
                   obtain ⟨ve167_0, rfl, ge167_0⟩ := hMe167
                   have hv167_0 := hcc167 0 _ rfl
                   rw [Nat.add_zero, show ((Kd.slice 3 (Kd.int .i64))).sz = 1 from rfl, Nat.mul_one] at hv167_0
                   replace hv167_0 := sI (hv167_0.symm.trans hx167_0)
                   rw [hv167_0] at ge167_0
                   have HL167_0 := aM (show Kd.R (Kd.int .i64) 3 _ _ _ _ (rd_L1 bZ (dS)) from ge167_0)
                   clear hv167_0 ge167_0
                   clear hcc167 hce167
                   have jA := aM hi167_0
                   have HC167_0 := aM hl167_0
                   clear hi167_0 hl167_0
                   replace p167 := eq_true p167
                   replace q167 := eq_true q167
                   have p168 : 0 ≤ (x8_1 : Int) := oD z2
                   have q168 : x8_1 < ((rd_L1 bZ (dS)).length : Int) := oD z2
                   obtain ⟨ad168, e168, hx168_0⟩ := Kd.at_int (by repeat (first | (with_reducible exact jA.out) | (with_reducible refine av ?_ _) | (with_reducible refine aw ?_ _) | (with_reducible refine ay ?_) | exact jA.out)) x8_1 p168 q168
                   cases e168
                   replace p168 := eq_true p168
                   replace q168 := eq_true q168
                   have p169 : 0 ≤ (x7_1 : Int) := oD z2
                   have q169 : x7_1 < (bZ.length : Int) := oD z2
                   obtain ⟨ad169, A169_0, c169_0, e169, hx169_0, hl169_0, hi169_0⟩ := at_L1 (Kd.S_reads' aW.out).2.2 x7_1 p169 q169
                   obtain rfl : ad167 = ad169 := (by injection e169)
                   obtain ⟨ce169, hce169, hMe169, hcc169⟩ := Kd.S_get aW.out [] x7_1 p169 (by first | exact q169 | exact oD z2 | (have e_ := (Kd.S_reads' aW.out).1; omega))
                   obtain ⟨ve169_0, rfl, ge169_0⟩ := hMe169
                   have hv169_0 := hcc169 0 _ rfl
                   rw [Nat.add_zero, show ((Kd.slice 3 (Kd.int .i64))).sz = 1 from rfl, Nat.mul_one] at hv169_0
                   replace hv169_0 := sI (hv169_0.symm.trans hx169_0)
                   rw [hv169_0] at ge169_0
                   have HL169_0 := aM (show Kd.R (Kd.int .i64) 3 _ _ _ _ (rd_L1 bZ x7_1) from ge169_0)
                   clear hv169_0 ge169_0
                   clear hcc169 hce169
                   have jz := aM hi169_0
                   have HC169_0 := aM hl169_0
                   clear hi169_0 hl169_0
                   replace p169 := eq_true p169
                   replace q169 := eq_true q169
                   have p170 : 0 ≤ (x8_1 : Int) := oD z2
                   have q170 : x8_1 < ((rd_L1 bZ x7_1).length : Int) := oD z2
                   obtain ⟨ad170, e170, hx170_0⟩ := Kd.at_int (by repeat (first | (with_reducible exact jz.out) | (with_reducible refine av ?_ _) | (with_reducible refine aw ?_ _) | (with_reducible refine ay ?_) | exact jz.out)) x8_1 p170 q170
                   cases e170
                   replace p170 := eq_true p170
                   replace q170 := eq_true q170
                   go_wp2
                   repeat (go_quiet (fail); try go_wp2)
                   go_meet
                   case rel => exact ⟨_, (((rd (rd_L1 bZ (dS)) x8_1) == (rd (rd_L1 bZ x7_1) x8_1))), (by first | rfl | (simp; done) | (simp only [← fC] <;> (first | rfl | (simp; done) | (simp; generalize ByteArray.toList _ = u_; cases u_ <;> (first | rfl | (simp; done))))) | (simp [*]; done)), (by first | exact H' | (simp only [fC]; exact H') | (simp only [← fC]; exact H')), ⟨by have := HK1.out; have := j8.out; have := lz.out; first | omega | exact Nat.le_refl _⟩, ⟨y6⟩, ⟨y11⟩, ⟨y5⟩⟩
                  ·rw [if_neg de] at H
                   exact absurd H (by simp)
                 ·rw [if_neg d9] at H
                  exact absurd H (by simp)
                ·rw [if_neg fa] at H
                 exact absurd H (by simp)
               ·rw [if_neg eD] at H
                exact absurd H (by simp)
              ·rw [if_neg eA] at H
               exact absurd H (by simp)
             ·rw [if_neg dN] at H
              exact absurd H (by simp)
            ·rw [if_neg dw] at H
             exact absurd H (by simp)
           ·rw [if_neg cF] at H
            have c21b0 : decide (x7_1 < (a0.size : Int)) = false := dF cF
            clear cF
            have H' := aM H
            clear H
            go_wp2
            repeat (go_quiet (fail); try go_wp2)
            go_meet
            case rel => exact ⟨_, (false), z1, H', ⟨by have := HK1.out; have := j8.out; have := lz.out; first | omega | exact Nat.le_refl _⟩, ⟨y6⟩, ⟨y11⟩, ⟨y5⟩⟩
         case rest =>
          clear iC
          try clear c1
          try clear p1
          try clear q1
          try clear hx1
          try clear c2
          try clear p2
          try clear c3
          try clear c6
          try clear c6b0
          try clear p6
          try clear c7
          try clear c9
          try clear c9b0
          try clear bz
          try clear c10b0
          try clear bV
          try clear c11b0
          try clear p12
          try clear q12
          try clear hx12
          try clear bR
          try clear c13b0
          try clear p14
          try clear q14
          try clear hx14
          try clear ck
          try clear cG
          try clear p16
          try clear q16
          try clear hx16
          try clear p17
          try clear q17
          try clear hx17
          try clear dd
          try clear c20b0
          try clear c20b1
          try clear cF
          try clear c21b0
          try clear dw
          try clear c23b0
          try clear dN
          try clear c24b0
          try clear eA
          try clear c25b0
          try clear eD
          try clear c26b0
          try clear fa
          try clear c27b0
          try clear d9
          try clear c28b0
          try clear de
          try clear c29b0
          try clear hx167_0
          try clear hx168_0
          try clear hx169_0
          try clear hx170_0
          try clear p1
          try clear p12
          try clear p14
          try clear p167
          try clear p168
          try clear p169
          try clear p170
          try clear p2
          try clear q1
          try clear q12
          try clear q14
          try clear q167
          try clear q168
          try clear q169
          try clear q170
          obtain ⟨kq, x59_18, rfl, HA, fl, aW, a4, HB⟩ := hcut
          cases kq with
          | zero => exact absurd HA.out (by simp [spec_l9Diff.j3])
          | succ kj18 =>
           have H := HA.out
           clear HA
           simp only [spec_l9Diff.j3] at H
           by_cases fw : x59_18 = true
           ·subst fw
            rw [if_pos rfl] at H
            by_cases gV : 0 ≤ x7_1
            ·rw [if_pos gV] at H
             have c32b0 := eq_true gV
             have c32b1 : decide (0 ≤ x7_1) = true := dT gV
             clear gV
             by_cases j6 : x7_1 ≤ (wrap64 (x7_1 + 1))
             ·rw [if_pos j6] at H
              have c33b0 := eq_true j6
              have c33b1 : decide (x7_1 ≤ (wrap64 (x7_1 + 1))) = true := dT j6
              by_cases jy : (wrap64 (x7_1 + 1)) ≤ (a0.size : Int)
              ·rw [if_pos jy] at H
               have c34b0 := eq_true jy
               have c34b1 : decide ((wrap64 (x7_1 + 1)) ≤ (a0.size : Int)) = true := dT jy
               replace H := oB H
               obtain ⟨jK, ni, H⟩ := H
               try dsimp only at H
               have nP := aM ni
               clear ni
               have H' := aM H
               clear H
               obtain ⟨eO, eL, eo36⟩ := Kd.R_slice a4.out
               subst eo36
               go_wp2_with (first | (go_at_call 50; (with_reducible refine (spec_l3Add.calls kj18 (fun k_ => some k_ = (.slice eO x6_1.length eL : Value).ownBlock) (.slice eO x6_1.length eL) x6_1 0 (⟨#[]⟩ : ByteArray) (a0.extract (x7_1 : Int).toNat ((wrap64 (x7_1 + 1)) : Int).toNat) jK w _ ?side1 ?side2 nP.out).mono ?_); (case side1 => repeat (first | (with_reducible first | exact HB.out | apply bA | apply pD | apply bD) | exact HB.out)); (case side2 => exact Kd.R_tight rfl a4.out); rintro e w37 ⟨v172, rfl, ho0, hb, hkp⟩; have aT := aM (Kd.S_mono (ok' := fun k_ => True) (Kd.S_keptB ((Kd.S_apart' aW.out (Kd.R_typed a4.out) (by decide))) hkp (fun k_ hk_ hs_ => (hk_.2) hs_)) (fun k_ hk_ => trivial)); have aU := aM (af (ok' := fun k_ => True) ho0 (fun k_ hk_ => trivial)); have aX := aM (hb); clear aW; clear HB; clear a4; have aW := aT; have kU := aU; have HB := aX; clear aT aU aX; (try clear hb); (try clear hkp); (try clear ho0)))
               repeat (go_quiet (first | (go_at_call 50; (with_reducible refine (spec_l3Add.calls kj18 (fun k_ => some k_ = (.slice eO x6_1.length eL : Value).ownBlock) (.slice eO x6_1.length eL) x6_1 0 (⟨#[]⟩ : ByteArray) (a0.extract (x7_1 : Int).toNat ((wrap64 (x7_1 + 1)) : Int).toNat) jK w _ ?side1 ?side2 nP.out).mono ?_); (case side1 => repeat (first | (with_reducible first | exact HB.out | apply bA | apply pD | apply bD) | exact HB.out)); (case side2 => exact Kd.R_tight rfl a4.out); rintro e w37 ⟨v172, rfl, ho0, hb, hkp⟩; have aT := aM (Kd.S_mono (ok' := fun k_ => True) (Kd.S_keptB ((Kd.S_apart' aW.out (Kd.R_typed a4.out) (by decide))) hkp (fun k_ hk_ hs_ => (hk_.2) hs_)) (fun k_ hk_ => trivial)); have aU := aM (af (ok' := fun k_ => True) ho0 (fun k_ hk_ => trivial)); have aX := aM (hb); clear aW; clear HB; clear a4; have aW := aT; have kU := aU; have HB := aX; clear aT aU aX; (try clear hb); (try clear hkp); (try clear ho0))); try go_wp2_with (first | (go_at_call 50; (with_reducible refine (spec_l3Add.calls kj18 (fun k_ => some k_ = (.slice eO x6_1.length eL : Value).ownBlock) (.slice eO x6_1.length eL) x6_1 0 (⟨#[]⟩ : ByteArray) (a0.extract (x7_1 : Int).toNat ((wrap64 (x7_1 + 1)) : Int).toNat) jK w _ ?side1 ?side2 nP.out).mono ?_); (case side1 => repeat (first | (with_reducible first | exact HB.out | apply bA | apply pD | apply bD) | exact HB.out)); (case side2 => exact Kd.R_tight rfl a4.out); rintro e w37 ⟨v172, rfl, ho0, hb, hkp⟩; have aT := aM (Kd.S_mono (ok' := fun k_ => True) (Kd.S_keptB ((Kd.S_apart' aW.out (Kd.R_typed a4.out) (by decide))) hkp (fun k_ hk_ hs_ => (hk_.2) hs_)) (fun k_ hk_ => trivial)); have aU := aM (af (ok' := fun k_ => True) ho0 (fun k_ hk_ => trivial)); have aX := aM (hb); clear aW; clear HB; clear a4; have aW := aT; have kU := aU; have HB := aX; clear aT aU aX; (try clear hb); (try clear hkp); (try clear ho0))))
               go_roundg kj18
               case measure => have := HK1.out; have := j8.out; have := lz.out; have := fl.out; omega
               case rel => exact ⟨(jK), (wrap64 (x7_1 + 1)), (x8_1), z1, z1, H', ⟨by have := HK1.out; have := j8.out; have := lz.out; have := fl.out; omega⟩, ⟨y6⟩, ⟨by (with_reducible repeat (first | apply ac | apply ab | apply aa)); exact kU.out⟩, ⟨y5⟩⟩
              ·rw [if_neg jy] at H
               exact absurd H (by simp)
             ·rw [if_neg j6] at H
              exact absurd H (by simp)
            ·rw [if_neg gV] at H
             exact absurd H (by simp)
           ·replace fw := Bool.eq_false_iff.mpr fw
            subst fw
            rw [if_neg (show ¬ (false = true) by decide)] at H
            by_cases lE : 0 ≤ x8_1
            ·rw [if_pos lE] at H
             have c38b0 := eq_true lE
             have c38b1 : decide (0 ≤ x8_1) = true := dT lE
             clear lE
             by_cases lx : x8_1 ≤ (wrap64 (x8_1 + 1))
             ·rw [if_pos lx] at H
              have c39b0 := eq_true lx
              have c39b1 : decide (x8_1 ≤ (wrap64 (x8_1 + 1))) = true := dT lx
              by_cases jZ : (wrap64 (x8_1 + 1)) ≤ (a1.size : Int)
              ·rw [if_pos jZ] at H
               have c40b0 := eq_true jZ
               have c40b1 : decide ((wrap64 (x8_1 + 1)) ≤ (a1.size : Int)) = true := dT jZ
               replace H := oB H
               obtain ⟨jJ, nh, H⟩ := H
               try dsimp only at H
               have nO := aM nh
               clear nh
               have H' := aM H
               clear H
               obtain ⟨ie, hL, eo42⟩ := Kd.R_slice a4.out
               subst eo42
               go_wp2_with (first | (go_at_call 50; (with_reducible refine (spec_l3Add.calls kj18 (fun k_ => some k_ = (.slice ie x6_1.length hL : Value).ownBlock) (.slice ie x6_1.length hL) x6_1 0 (a1.extract (x8_1 : Int).toNat ((wrap64 (x8_1 + 1)) : Int).toNat) (⟨#[]⟩ : ByteArray) jJ w _ ?side1 ?side2 nO.out).mono ?_); (case side1 => repeat (first | (with_reducible first | exact HB.out | apply bA | apply pD | apply bD) | exact HB.out)); (case side2 => exact Kd.R_tight rfl a4.out); rintro e w43 ⟨v175, rfl, ho0, hb, hkp⟩; have aT := aM (Kd.S_mono (ok' := fun k_ => True) (Kd.S_keptB ((Kd.S_apart' aW.out (Kd.R_typed a4.out) (by decide))) hkp (fun k_ hk_ hs_ => (hk_.2) hs_)) (fun k_ hk_ => trivial)); have aU := aM (af (ok' := fun k_ => True) ho0 (fun k_ hk_ => trivial)); have aX := aM (hb); clear aW; clear HB; clear a4; have aW := aT; have kT := aU; have HB := aX; clear aT aU aX; (try clear hb); (try clear hkp); (try clear ho0)))
               repeat (go_quiet (first | (go_at_call 50; (with_reducible refine (spec_l3Add.calls kj18 (fun k_ => some k_ = (.slice ie x6_1.length hL : Value).ownBlock) (.slice ie x6_1.length hL) x6_1 0 (a1.extract (x8_1 : Int).toNat ((wrap64 (x8_1 + 1)) : Int).toNat) (⟨#[]⟩ : ByteArray) jJ w _ ?side1 ?side2 nO.out).mono ?_); (case side1 => repeat (first | (with_reducible first | exact HB.out | apply bA | apply pD | apply bD) | exact HB.out)); (case side2 => exact Kd.R_tight rfl a4.out); rintro e w43 ⟨v175, rfl, ho0, hb, hkp⟩; have aT := aM (Kd.S_mono (ok' := fun k_ => True) (Kd.S_keptB ((Kd.S_apart' aW.out (Kd.R_typed a4.out) (by decide))) hkp (fun k_ hk_ hs_ => (hk_.2) hs_)) (fun k_ hk_ => trivial)); have aU := aM (af (ok' := fun k_ => True) ho0 (fun k_ hk_ => trivial)); have aX := aM (hb); clear aW; clear HB; clear a4; have aW := aT; have kT := aU; have HB := aX; clear aT aU aX; (try clear hb); (try clear hkp); (try clear ho0))); try go_wp2_with (first | (go_at_call 50; (with_reducible refine (spec_l3Add.calls kj18 (fun k_ => some k_ = (.slice ie x6_1.length hL : Value).ownBlock) (.slice ie x6_1.length hL) x6_1 0 (a1.extract (x8_1 : Int).toNat ((wrap64 (x8_1 + 1)) : Int).toNat) (⟨#[]⟩ : ByteArray) jJ w _ ?side1 ?side2 nO.out).mono ?_); (case side1 => repeat (first | (with_reducible first | exact HB.out | apply bA | apply pD | apply bD) | exact HB.out)); (case side2 => exact Kd.R_tight rfl a4.out); rintro e w43 ⟨v175, rfl, ho0, hb, hkp⟩; have aT := aM (Kd.S_mono (ok' := fun k_ => True) (Kd.S_keptB ((Kd.S_apart' aW.out (Kd.R_typed a4.out) (by decide))) hkp (fun k_ hk_ hs_ => (hk_.2) hs_)) (fun k_ hk_ => trivial)); have aU := aM (af (ok' := fun k_ => True) ho0 (fun k_ hk_ => trivial)); have aX := aM (hb); clear aW; clear HB; clear a4; have aW := aT; have kT := aU; have HB := aX; clear aT aU aX; (try clear hb); (try clear hkp); (try clear ho0))))
               go_roundg kj18
               case measure => have := HK1.out; have := j8.out; have := lz.out; have := fl.out; omega
               case rel => exact ⟨(jJ), (x7_1), (wrap64 (x8_1 + 1)), z1, z1, H', ⟨by have := HK1.out; have := j8.out; have := lz.out; have := fl.out; omega⟩, ⟨y6⟩, ⟨by (with_reducible repeat (first | apply ac | apply ab | apply aa)); exact kT.out⟩, ⟨y5⟩⟩
              ·rw [if_neg jZ] at H
               exact absurd H (by simp)
             ·rw [if_neg lx] at H
              exact absurd H (by simp)
            ·rw [if_neg lE] at H
             exact absurd H (by simp)
     ·replace c7 := Bool.eq_false_iff.mpr c7
      subst c7
      rw [if_neg (show ¬ (false = true) by decide)] at H
      obtain rfl := sI H
      go_wp2
      repeat (go_quiet (fail); try go_wp2)
      go_ret
      exact ⟨_, y4, y11, y5⟩

/-! ### spec_l1In: function 59 -/
def spec_l1In.f (a0 : Int) (a1 : Int) (a2 : Int) : Option (Bool) := if a0 ≥ a1 then (some (decide (a0 ≤ a2))) else (some false)
set_option maxHeartbeats 8000000 in
set_option maxRecDepth 100000 in
theorem spec_l1In.calls (a0 : Int) (a1 : Int) (a2 : Int) (r : Bool) (w : World) (h : spec_l1In.f a0 a1 a2 = some r) :
  Calls Try.prog 59 #[.int .i64 a0, .int .i64 a1, .int .i64 a2] w fun e w' => e = .returned (.bool r) ∧ Drawn0 w w' := by
 have H : (if a0 ≥ a1 then (some (decide (a0 ≤ a2))) else (some false)) = some r := h
 clear h
 by_cases c4 : a0 ≥ a1
 ·rw [if_pos c4] at H
  have c4b0 : decide (a1 ≤ a0) = true := dT c4
  clear c4
  obtain rfl := sI H
  go_enter Try.func59, Try.ntmps59
  go_wp2
  go_ret
  exact ⟨y2, y3⟩
 ·rw [if_neg c4] at H
  have c4b0 : decide (a1 ≤ a0) = false := dF c4
  clear c4
  obtain rfl := sI H
  go_enter Try.func59, Try.ntmps59
  go_wp2
  go_ret
  exact ⟨y2, y3⟩

/-! ### spec_l3Part: function 51 -/
def spec_l3Part.f (k : Nat) (a0_0 : Int) (a0_1 : ByteArray) (a0_2 : ByteArray) : Option (Bool) := if a0_0 = 0 then (if a0_1.toList = ([] : List UInt8) then (if a0_2.toList = ([] : List UInt8) then (some false) else ((spec_GoodText.f k a0_2).bind fun kA => (some kA))) else (if a0_2.toList = ([] : List UInt8) then ((spec_GoodText.f k a0_1).bind fun kz => (some kz)) else (some false))) else ((spec_l1In.f a0_0 1 300).bind fun ky => (if ky = true then (if a0_1.toList = ([] : List UInt8) then (some (a0_2.toList == ([] : List UInt8))) else (some false)) else (some false)))
theorem spec_l3Part.mono : ∀ a0 a1 a2 k, LeO (spec_l3Part.f k a0 a1 a2) (spec_l3Part.f (k + 1) a0 a1 a2) := by
 intro a0 a1 a2 k
 unfold spec_l3Part.f
 repeat' first
   | (with_reducible exact spec_GoodText.mono _ _)
   | (with_reducible exact LeO.refl _)
   | (with_reducible exact LeO.none _)
   | (with_reducible refine LeO.ite ?_ ?_)
   | (with_reducible refine LeO.bind ?_ (fun _ => ?_))
   | exact spec_GoodText.mono _ _
   | exact LeO.none _
   | refine LeO.ite ?_ ?_
   | refine LeO.bind ?_ (fun _ => ?_)
set_option maxHeartbeats 8000000 in
set_option maxRecDepth 100000 in
theorem spec_l3Part.calls (k : Nat) (a0_0 : Int) (a0_1 : ByteArray) (a0_2 : ByteArray) (r : Bool) (w : World) (h : spec_l3Part.f k a0_0 a0_1 a0_2 = some r) :
  Calls Try.prog 51 #[.agg #[.int .i64 a0_0, .string a0_1, .string a0_2]] w fun e w' => e = .returned (.bool r) ∧ Below w.heap.size w w' := by
 have hu44 := Try.underlying44
 have HB := aM (Below.refl w.heap.size w)
 have H : (if a0_0 = 0 then (if a0_1.toList = ([] : List UInt8) then (if a0_2.toList = ([] : List UInt8) then (some false) else ((spec_GoodText.f k a0_2).bind fun kA => (some kA))) else (if a0_2.toList = ([] : List UInt8) then ((spec_GoodText.f k a0_1).bind fun kz => (some kz)) else (some false))) else ((spec_l1In.f a0_0 1 300).bind fun ky => (if ky = true then (if a0_1.toList = ([] : List UInt8) then (some (a0_2.toList == ([] : List UInt8))) else (some false)) else (some false)))) = some r := h
 clear h
 by_cases c2 : a0_0 = 0
 ·rw [if_pos c2] at H
  have c2b0 : (a0_0 == 0) = true := qT c2
  have c2b1 : (a0_0 != 0) = false := nF c2
  clear c2
  by_cases c3 : a0_1.toList = ([] : List UInt8)
  ·rw [if_pos c3] at H
   have c3b0 : (a0_1.toList == ([] : List UInt8)) = true := qT c3
   have c3b1 : (a0_1.toList != ([] : List UInt8)) = false := nF c3
   have c3b8 : (!a0_1.toList.isEmpty) = false := by have h_ := c3b1; revert h_; cases a0_1.toList <;> simp
   clear c3
   by_cases c4 : a0_2.toList = ([] : List UInt8)
   ·rw [if_pos c4] at H
    have c4b0 : (a0_2.toList == ([] : List UInt8)) = true := qT c4
    have c4b1 : (a0_2.toList != ([] : List UInt8)) = false := nF c4
    have c4b8 : (!a0_2.toList.isEmpty) = false := by have h_ := c4b1; revert h_; cases a0_2.toList <;> simp
    clear c4
    obtain rfl := sI H
    go_enter Try.func51, Try.ntmps51
    go_wp2_with (first | ((with_reducible refine aD (N := 1) rfl ?_); refine aE ?hg (N := 1) ?hd (cs := #[.int .i64 a0_0, .string a0_1, .string a0_2]) (t := 44) ?hr ?_; (case hd => rfl); (case hg => rfl); (case hr => first | (go_simp; done) | (go_simp; rfl)); intro bq hg w5 hbox hb; have aT := aM (ap z9 hb); have aU := aM (hbox); have aX := aM ((by rw [hg]; exact (aq z9) : w.heap.size ≤ bq)); have a5 := aM ((by rw [hg]; exact (aq z9) : w.heap.size ≤ bq)); clear HB; have HB := aT; have bj := aU; have fK := aX; have fL := a5; clear aT aU aX a5; clear hb hbox hg; have iv : w5.cell? ⟨bq, 0, none⟩ = some (.int .i64 a0_0) := (bC bj.out 0).trans rfl; have iu : w5.cell? ⟨bq, 1, none⟩ = some (.string a0_1) := (bC bj.out 1).trans rfl; have ir : w5.cell? ⟨bq, 2, none⟩ = some (.string a0_2) := (bC bj.out 2).trans rfl; have iq := bF bj.out 0; have ip := bF bj.out 1; have im := bF bj.out 2))
    all_goals (try (exfalso; rename_i h_; rw [c3b0] at h_; cases h_; done))
    all_goals (try (exfalso; rename_i h_; rw [c4b0] at h_; cases h_; done))
    go_ret
    exact ⟨y4, y17⟩
   ·rw [if_neg c4] at H
    have c4b0 : (a0_2.toList == ([] : List UInt8)) = false := qF c4
    have c4b1 : (a0_2.toList != ([] : List UInt8)) = true := nT c4
    have c4b8 : (!a0_2.toList.isEmpty) = true := by have h_ := c4b1; revert h_; cases a0_2.toList <;> simp
    replace H := oB H
    obtain ⟨kA, lT, H⟩ := H
    try dsimp only at H
    have A7 := aM lT
    clear lT
    obtain rfl := sI H
    go_enter Try.func51, Try.ntmps51
    go_wp2_with (first | ((with_reducible refine aD (N := 1) rfl ?_); refine aE ?hg (N := 1) ?hd (cs := #[.int .i64 a0_0, .string a0_1, .string a0_2]) (t := 44) ?hr ?_; (case hd => rfl); (case hg => rfl); (case hr => first | (go_simp; done) | (go_simp; rfl)); intro bq hg w8 hbox hb; have aT := aM (ap z9 hb); have aU := aM (hbox); have aX := aM ((by rw [hg]; exact (aq z9) : w.heap.size ≤ bq)); have a5 := aM ((by rw [hg]; exact (aq z9) : w.heap.size ≤ bq)); clear HB; have HB := aT; have bj := aU; have fK := aX; have fL := a5; clear aT aU aX a5; clear hb hbox hg; have cZ : w8.cell? ⟨bq, 0, none⟩ = some (.int .i64 a0_0) := (bC bj.out 0).trans rfl; have cY : w8.cell? ⟨bq, 1, none⟩ = some (.string a0_1) := (bC bj.out 1).trans rfl; have cX : w8.cell? ⟨bq, 2, none⟩ = some (.string a0_2) := (bC bj.out 2).trans rfl; have cW := bF bj.out 0; have cV := bF bj.out 1; have cU := bF bj.out 2) | (go_at_call 6; (with_reducible refine (spec_GoodText.calls k a0_2 kA _ A7.out).mono ?_); rintro e w' ⟨rfl, ⟨nd, rfl⟩⟩))
    all_goals (try (exfalso; rename_i h_; rw [c3b0] at h_; cases h_; done))
    all_goals (try (exfalso; rename_i h_; rw [c4b0] at h_; cases h_; done))
    go_ret
    exact ⟨y4, y17⟩
  ·rw [if_neg c3] at H
   have c3b0 : (a0_1.toList == ([] : List UInt8)) = false := qF c3
   have c3b1 : (a0_1.toList != ([] : List UInt8)) = true := nT c3
   have c3b8 : (!a0_1.toList.isEmpty) = true := by have h_ := c3b1; revert h_; cases a0_1.toList <;> simp
   by_cases bz : a0_2.toList = ([] : List UInt8)
   ·rw [if_pos bz] at H
    have c10b0 : (a0_2.toList == ([] : List UInt8)) = true := qT bz
    have c10b1 : (a0_2.toList != ([] : List UInt8)) = false := nF bz
    have c10b8 : (!a0_2.toList.isEmpty) = false := by have h_ := c10b1; revert h_; cases a0_2.toList <;> simp
    clear bz
    replace H := oB H
    obtain ⟨kz, da, H⟩ := H
    try dsimp only at H
    have eG := aM da
    clear da
    obtain rfl := sI H
    go_enter Try.func51, Try.ntmps51
    go_wp2_with (first | ((with_reducible refine aD (N := 1) rfl ?_); refine aE ?hg (N := 1) ?hd (cs := #[.int .i64 a0_0, .string a0_1, .string a0_2]) (t := 44) ?hr ?_; (case hd => rfl); (case hg => rfl); (case hr => first | (go_simp; done) | (go_simp; rfl)); intro bq hg w12 hbox hb; have aT := aM (ap z9 hb); have aU := aM (hbox); have aX := aM ((by rw [hg]; exact (aq z9) : w.heap.size ≤ bq)); have a5 := aM ((by rw [hg]; exact (aq z9) : w.heap.size ≤ bq)); clear HB; have HB := aT; have bj := aU; have fK := aX; have fL := a5; clear aT aU aX a5; clear hb hbox hg; have hcz13_0 : w12.cell? ⟨bq, 0, none⟩ = some (.int .i64 a0_0) := (bC bj.out 0).trans rfl; have hcz13_1 : w12.cell? ⟨bq, 1, none⟩ = some (.string a0_1) := (bC bj.out 1).trans rfl; have hcz13_2 : w12.cell? ⟨bq, 2, none⟩ = some (.string a0_2) := (bC bj.out 2).trans rfl; have hfz13_0 := bF bj.out 0; have hfz13_1 := bF bj.out 1; have hfz13_2 := bF bj.out 2) | (go_at_call 6; (with_reducible refine (spec_GoodText.calls k a0_1 kz _ eG.out).mono ?_); rintro e w' ⟨rfl, ⟨nd, rfl⟩⟩))
    all_goals (try (exfalso; rename_i h_; rw [c3b0] at h_; cases h_; done))
    all_goals (try (exfalso; rename_i h_; rw [c10b0] at h_; cases h_; done))
    go_ret
    exact ⟨y4, y17⟩
   ·rw [if_neg bz] at H
    have c10b0 : (a0_2.toList == ([] : List UInt8)) = false := qF bz
    have c10b1 : (a0_2.toList != ([] : List UInt8)) = true := nT bz
    have c10b8 : (!a0_2.toList.isEmpty) = true := by have h_ := c10b1; revert h_; cases a0_2.toList <;> simp
    obtain rfl := sI H
    go_enter Try.func51, Try.ntmps51
    go_wp2_with (first | ((with_reducible refine aD (N := 1) rfl ?_); refine aE ?hg (N := 1) ?hd (cs := #[.int .i64 a0_0, .string a0_1, .string a0_2]) (t := 44) ?hr ?_; (case hd => rfl); (case hg => rfl); (case hr => first | (go_simp; done) | (go_simp; rfl)); intro bq hg w14 hbox hb; have aT := aM (ap z9 hb); have aU := aM (hbox); have aX := aM ((by rw [hg]; exact (aq z9) : w.heap.size ≤ bq)); have a5 := aM ((by rw [hg]; exact (aq z9) : w.heap.size ≤ bq)); clear HB; have HB := aT; have bj := aU; have fK := aX; have fL := a5; clear aT aU aX a5; clear hb hbox hg; have d6 : w14.cell? ⟨bq, 0, none⟩ = some (.int .i64 a0_0) := (bC bj.out 0).trans rfl; have d5 : w14.cell? ⟨bq, 1, none⟩ = some (.string a0_1) := (bC bj.out 1).trans rfl; have d4 : w14.cell? ⟨bq, 2, none⟩ = some (.string a0_2) := (bC bj.out 2).trans rfl; have dZ := bF bj.out 0; have dY := bF bj.out 1; have dX := bF bj.out 2))
    all_goals (try (exfalso; rename_i h_; rw [c3b0] at h_; cases h_; done))
    all_goals (try (exfalso; rename_i h_; rw [c10b0] at h_; cases h_; done))
    go_ret
    exact ⟨y4, y17⟩
 ·rw [if_neg c2] at H
  have c2b0 : (a0_0 == 0) = false := qF c2
  have c2b1 : (a0_0 != 0) = true := nT c2
  replace H := oB H
  obtain ⟨ky, fu, H⟩ := H
  try dsimp only at H
  have j9 := aM fu
  clear fu
  by_cases cB : ky = true
  ·subst cB
   rw [if_pos rfl] at H
   by_cases cn : a0_1.toList = ([] : List UInt8)
   ·rw [if_pos cn] at H
    have c18b0 : (a0_1.toList == ([] : List UInt8)) = true := qT cn
    have c18b1 : (a0_1.toList != ([] : List UInt8)) = false := nF cn
    have c18b8 : (!a0_1.toList.isEmpty) = false := by have h_ := c18b1; revert h_; cases a0_1.toList <;> simp
    clear cn
    obtain rfl := sI H
    go_enter Try.func51, Try.ntmps51
    go_wp2_with (first | ((with_reducible refine aD (N := 1) rfl ?_); refine aE ?hg (N := 1) ?hd (cs := #[.int .i64 a0_0, .string a0_1, .string a0_2]) (t := 44) ?hr ?_; (case hd => rfl); (case hg => rfl); (case hr => first | (go_simp; done) | (go_simp; rfl)); intro bq hg w19 hbox hb; have aT := aM (ap z9 hb); have aU := aM (hbox); have aX := aM ((by rw [hg]; exact (aq z9) : w.heap.size ≤ bq)); have a5 := aM ((by rw [hg]; exact (aq z9) : w.heap.size ≤ bq)); clear HB; have HB := aT; have bj := aU; have fK := aX; have fL := a5; clear aT aU aX a5; clear hb hbox hg; have gF : w19.cell? ⟨bq, 0, none⟩ = some (.int .i64 a0_0) := (bC bj.out 0).trans rfl; have gE : w19.cell? ⟨bq, 1, none⟩ = some (.string a0_1) := (bC bj.out 1).trans rfl; have gD : w19.cell? ⟨bq, 2, none⟩ = some (.string a0_2) := (bC bj.out 2).trans rfl; have gf := bF bj.out 0; have gc := bF bj.out 1; have gb := bF bj.out 2) | ((with_reducible refine aC (f := 59) rfl ?_); refine aG (some 9) rfl rfl Try.func59 z0 rfl #[.int .i64 a0_0, .int .i64 1, .int .i64 300] rfl z10 ?_; (with_reducible refine (spec_l1In.calls a0_0 1 300 true _ j9.out).mono ?_); rintro e w' ⟨rfl, ⟨nd, rfl⟩⟩; refine ⟨_, rfl, ?_⟩))
    all_goals (try (exfalso; rename_i h_; rw [c18b0] at h_; cases h_; done))
    go_ret
    exact ⟨y4, y17⟩
   ·rw [if_neg cn] at H
    have c18b0 : (a0_1.toList == ([] : List UInt8)) = false := qF cn
    have c18b1 : (a0_1.toList != ([] : List UInt8)) = true := nT cn
    have c18b8 : (!a0_1.toList.isEmpty) = true := by have h_ := c18b1; revert h_; cases a0_1.toList <;> simp
    obtain rfl := sI H
    go_enter Try.func51, Try.ntmps51
    go_wp2_with (first | ((with_reducible refine aD (N := 1) rfl ?_); refine aE ?hg (N := 1) ?hd (cs := #[.int .i64 a0_0, .string a0_1, .string a0_2]) (t := 44) ?hr ?_; (case hd => rfl); (case hg => rfl); (case hr => first | (go_simp; done) | (go_simp; rfl)); intro bq hg w21 hbox hb; have aT := aM (ap z9 hb); have aU := aM (hbox); have aX := aM ((by rw [hg]; exact (aq z9) : w.heap.size ≤ bq)); have a5 := aM ((by rw [hg]; exact (aq z9) : w.heap.size ≤ bq)); clear HB; have HB := aT; have bj := aU; have fK := aX; have fL := a5; clear aT aU aX a5; clear hb hbox hg; have dJ : w21.cell? ⟨bq, 0, none⟩ = some (.int .i64 a0_0) := (bC bj.out 0).trans rfl; have dI : w21.cell? ⟨bq, 1, none⟩ = some (.string a0_1) := (bC bj.out 1).trans rfl; have dH : w21.cell? ⟨bq, 2, none⟩ = some (.string a0_2) := (bC bj.out 2).trans rfl; have dC := bF bj.out 0; have dB := bF bj.out 1; have dA := bF bj.out 2) | ((with_reducible refine aC (f := 59) rfl ?_); refine aG (some 9) rfl rfl Try.func59 z0 rfl #[.int .i64 a0_0, .int .i64 1, .int .i64 300] rfl z10 ?_; (with_reducible refine (spec_l1In.calls a0_0 1 300 true _ j9.out).mono ?_); rintro e w' ⟨rfl, ⟨nd, rfl⟩⟩; refine ⟨_, rfl, ?_⟩))
    all_goals (try (exfalso; rename_i h_; rw [c18b0] at h_; cases h_; done))
    go_ret
    exact ⟨y4, y17⟩
  ·replace cB := Bool.eq_false_iff.mpr cB
   subst cB
   rw [if_neg (show ¬ (false = true) by decide)] at H
   obtain rfl := sI H
   go_enter Try.func51, Try.ntmps51
   go_wp2_with (first | ((with_reducible refine aD (N := 1) rfl ?_); refine aE ?hg (N := 1) ?hd (cs := #[.int .i64 a0_0, .string a0_1, .string a0_2]) (t := 44) ?hr ?_; (case hd => rfl); (case hg => rfl); (case hr => first | (go_simp; done) | (go_simp; rfl)); intro bq hg w23 hbox hb; have aT := aM (ap z9 hb); have aU := aM (hbox); have aX := aM ((by rw [hg]; exact (aq z9) : w.heap.size ≤ bq)); have a5 := aM ((by rw [hg]; exact (aq z9) : w.heap.size ≤ bq)); clear HB; have HB := aT; have bj := aU; have fK := aX; have fL := a5; clear aT aU aX a5; clear hb hbox hg; have jw : w23.cell? ⟨bq, 0, none⟩ = some (.int .i64 a0_0) := (bC bj.out 0).trans rfl; have jv : w23.cell? ⟨bq, 1, none⟩ = some (.string a0_1) := (bC bj.out 1).trans rfl; have ju : w23.cell? ⟨bq, 2, none⟩ = some (.string a0_2) := (bC bj.out 2).trans rfl; have i7 := bF bj.out 0; have i6 := bF bj.out 1; have i5 := bF bj.out 2) | ((with_reducible refine aC (f := 59) rfl ?_); refine aG (some 9) rfl rfl Try.func59 z0 rfl #[.int .i64 a0_0, .int .i64 1, .int .i64 300] rfl z10 ?_; (with_reducible refine (spec_l1In.calls a0_0 1 300 false _ j9.out).mono ?_); rintro e w' ⟨rfl, ⟨nd, rfl⟩⟩; refine ⟨_, rfl, ?_⟩))
   go_ret
   exact ⟨y4, y17⟩

/-! ### spec_l3Sizes: function 52 -/
def spec_l3Sizes.l0 : Nat → Int → Int → List (S44) → Int → Int → Option (Int × Int)
 | 0, _, _, _, _, _ => none
 | k + 1, x4, x5, x8, x9, x10 => if x10 < x9 then (if 0 ≤ x10 then (if x10 < (x8.length : Int) then (spec_l3Sizes.l0 k (wrap64 (x4 + (wrap64 (((rd_T44 x8 x10).f0) + (((rd_T44 x8 x10).f2).size : Int))))) (wrap64 (x5 + (wrap64 (((rd_T44 x8 x10).f0) + (((rd_T44 x8 x10).f1).size : Int))))) x8 x9 (wrap64 (x10 + 1))) else (none)) else (none)) else (some (x4, x5))
def spec_l3Sizes.f (k : Nat) (l0 : List (S44)) : Option (Int × Int) := spec_l3Sizes.l0 k 0 0 l0 (l0.length : Int) 0
theorem spec_l3Sizes.mono_l : ∀ k, (∀ y0 y1 y2 y3 y4, LeO (spec_l3Sizes.l0 k y0 y1 y2 y3 y4) (spec_l3Sizes.l0 (k + 1) y0 y1 y2 y3 y4))
 | 0 => fun _ _ _ _ _ r h => by simp [spec_l3Sizes.l0] at h
 | k + 1 => by
  have ih0 := spec_l3Sizes.mono_l k
  ·intro y0 y1 y2 y3 y4
   unfold spec_l3Sizes.l0
   repeat' first
   | (with_reducible exact ih0 _ _ _ _ _)
   | (with_reducible exact LeO.refl _)
   | (with_reducible exact LeO.none _)
   | (with_reducible refine LeO.ite ?_ ?_)
   | (with_reducible refine LeO.bind ?_ (fun _ => ?_))
   | exact ih0 _ _ _ _ _
   | exact LeO.none _
   | refine LeO.ite ?_ ?_
   | refine LeO.bind ?_ (fun _ => ?_)
theorem spec_l3Sizes.mono : ∀ a0 k, LeO (spec_l3Sizes.f k a0) (spec_l3Sizes.f (k + 1) a0) := by
 intro a0 k
 have ih0 := spec_l3Sizes.mono_l k
 unfold spec_l3Sizes.f
 repeat' first
   | (with_reducible exact ih0 _ _ _ _ _)
   | (with_reducible exact LeO.refl _)
   | (with_reducible exact LeO.none _)
   | (with_reducible refine LeO.ite ?_ ?_)
   | (with_reducible refine LeO.bind ?_ (fun _ => ?_))
   | exact ih0 _ _ _ _ _
   | exact LeO.none _
   | refine LeO.ite ?_ ?_
   | refine LeO.bind ?_ (fun _ => ?_)
set_option maxHeartbeats 8000000 in
set_option maxRecDepth 100000 in
theorem spec_l3Sizes.calls (k : Nat) (A0 : Option Addr) (c0 : Nat) (l0 : List (S44)) (r1 : Int) (r2 : Int) (w : World) (hr0 : Kd.C k44 w A0 l0.length l0) (hc0 : l0.length ≤ c0) (h : spec_l3Sizes.f k l0 = some (r1, r2)) :
  Calls Try.prog 52 #[.slice A0 l0.length c0] w fun e w' => e = .returned (.tuple #[.int .i64 r1, .int .i64 r2]) ∧ Below w.heap.size w w' := by
 have hu44 := Try.underlying44
 have bG := aM hr0
 have b8 := aM hc0
 clear hr0 hc0
 have HB := aM (Below.refl w.heap.size w)
 have H : (spec_l3Sizes.l0 k 0 0 l0 (l0.length : Int) 0) = some (r1, r2) := h
 clear h
 have H' := aM H
 clear H
 go_enter Try.func52, Try.ntmps52
 go_wp2
 go_loopg [4, 5, 10] k (fun kq v4 v5 v10 w' => ∃ (x4_1 : Int) (x5_1 : Int) (x10_1 : Int), v4 = .int .i64 x4_1 ∧ v5 = .int .i64 x5_1 ∧ v10 = .int .i64 x10_1 ∧ Aside0 (spec_l3Sizes.l0 kq x4_1 x5_1 l0 (l0.length : Int) x10_1 = some (r1, r2)) ∧ Aside0 (kq ≤ k) ∧ Aside0 (Below w.heap.size w w'))
 case atStart => exact ⟨(0), (0), (0), z1, z1, z1, H', ⟨Nat.le_refl _⟩, ⟨y5⟩⟩
 case round =>
  clear H'
  obtain ⟨x4_1, x5_1, x10_1, rfl, rfl, rfl, HA, HK1, HB⟩ := hrel
  cases gk with
  | zero => exact absurd HA.out (by simp [spec_l3Sizes.l0])
  | succ k1 =>
   have H := HA.out
   clear HA
   simp only [spec_l3Sizes.l0] at H
   by_cases c2 : x10_1 < (l0.length : Int)
   ·rw [if_pos c2] at H
    have c2b0 : decide (x10_1 < (l0.length : Int)) = true := dT c2
    clear c2
    by_cases c3 : 0 ≤ x10_1
    ·rw [if_pos c3] at H
     have c3b0 : decide (0 ≤ x10_1) = true := dT c3
     clear c3
     by_cases c4 : x10_1 < (l0.length : Int)
     ·rw [if_pos c4] at H
      have c4b0 : decide (x10_1 < (l0.length : Int)) = true := dT c4
      clear c4
      have H' := aM H
      clear H
      have p181 : 0 ≤ (x10_1 : Int) := oD z2
      have q181 : x10_1 < (l0.length : Int) := oD z2
      obtain ⟨ad181, e181, hx181_0, hx181_1, hx181_2⟩ := at_T44 bG.out x10_1 p181 q181
      cases e181
      replace hx181_0 := (HB.out.cell (World.block_lt_of_cell? w _ hx181_0)).trans hx181_0
      replace hx181_1 := (HB.out.cell (World.block_lt_of_cell? w _ hx181_1)).trans hx181_1
      replace hx181_2 := (HB.out.cell (World.block_lt_of_cell? w _ hx181_2)).trans hx181_2
      replace p181 := eq_true p181
      replace q181 := eq_true q181
      go_wp2_with (first | ((with_reducible refine aD (N := 7) rfl ?_); refine aE ?hg (N := 7) ?hd (cs := #[.int .i64 0, .string (⟨#[]⟩ : ByteArray), .string (⟨#[]⟩ : ByteArray)]) (t := 44) ?hr ?_; (case hd => rfl); (case hg => rfl); (case hr => first | (go_simp; done) | (go_simp; rfl)); intro hJ hg w5 hbox hb; have aT := aM (ap z9 hb); have aU := aM (hbox); have aX := aM ((by rw [hg]; exact (aq z9) : w.heap.size ≤ hJ)); have a5 := aM ((by rw [hg]; exact (aq z9) : w.heap.size ≤ hJ)); clear HB; have HB := aT; have fO := aU; have GW182 := aX; have GE182 := a5; clear aT aU aX a5; clear hb hbox hg; have iv : w5.cell? ⟨hJ, 0, none⟩ = some (.int .i64 0) := (bC fO.out 0).trans rfl; have iu : w5.cell? ⟨hJ, 1, none⟩ = some (.string (⟨#[]⟩ : ByteArray)) := (bC fO.out 1).trans rfl; have ir : w5.cell? ⟨hJ, 2, none⟩ = some (.string (⟨#[]⟩ : ByteArray)) := (bC fO.out 2).trans rfl; have iq := bF fO.out 0; have ip := bF fO.out 1; have im := bF fO.out 2))
      go_roundg k1
      case measure => have := HK1.out; omega
      case rel => exact ⟨(wrap64 (x4_1 + (wrap64 (((rd_T44 l0 x10_1).f0) + (((rd_T44 l0 x10_1).f2).size : Int))))), (wrap64 (x5_1 + (wrap64 (((rd_T44 l0 x10_1).f0) + (((rd_T44 l0 x10_1).f1).size : Int))))), (wrap64 (x10_1 + 1)), z1, z1, z1, H', ⟨y0⟩, ⟨by repeat (first | (with_reducible first | exact HB.out | apply bA | apply pD | apply bD | refine ao ?_ GE182.out) | exact HB.out)⟩⟩
     ·rw [if_neg c4] at H
      exact absurd H (by simp)
    ·rw [if_neg c3] at H
     exact absurd H (by simp)
   ·rw [if_neg c2] at H
    have c2b0 : decide (x10_1 < (l0.length : Int)) = false := dF c2
    clear c2
    simp only [Option.some.injEq, Prod.mk.injEq] at H
    obtain ⟨rfl, rfl⟩ := H
    go_wp2
    go_ret2
    exact ⟨y4, y5⟩

end Go.Proofs.Ytifllccpfiobfaa.AFnExactMergeThree
