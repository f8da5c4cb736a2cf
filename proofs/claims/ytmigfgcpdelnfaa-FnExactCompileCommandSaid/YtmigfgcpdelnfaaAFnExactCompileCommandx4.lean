-- this session's own text: written by wip/tools/ownprint.py over the kit's print
import Derived.Test.YtmigfgcpdelnfaaAFnExactCompileCommandx0
import Derived.Test.YtmigfgcpdelnfaaAFnExactCompileCommandx1
import Derived.Test.YtmigfgcpdelnfaaAFnExactCompileCommandx2
import Derived.Test.YtmigfgcpdelnfaaAFnExactCompileCommandx3
namespace Go.Proofs.Ytmigfgcpdelnfaa.AFnExactCompileCommand
open Go.RowKit Go.Proofs.YtmigfgcpdelnfaaW.PrintWords Go.Proofs.YtmigfgcpdelnfaaW.PrintLast Go.Proofs.YtmigfgcpdelnfaaW.PrintMore
attribute [local go_sem] max2_int min2_int max_two min_two max_three min_three max_four min_four   -- for this text's walks alone
set_option linter.unusedVariables false
set_option linter.unusedSimpArgs false

/-! ### spec_l3Splice: function 72 -/
def spec_l3Splice.f (k : Nat) (a0 : ByteArray) (a1 : Int) (a2 : Int) (a3 : ByteArray) : Option ((List (S61))) := if 0 ≤ a1 then (if a1 ≤ a2 then (if a2 ≤ (a0.size : Int) then (if (a0.extract (a1 : Int).toNat (a2 : Int).toNat).toList = a3.toList then ((spec_l3Add.f k ([] : List (S61)) (a0.size : Int) (⟨#[]⟩ : ByteArray) (⟨#[]⟩ : ByteArray)).bind fun t138 => (some t138)) else ((spec_l3Add.f k ([] : List (S61)) a1 (⟨#[]⟩ : ByteArray) (⟨#[]⟩ : ByteArray)).bind fun t141 => ((spec_l3Add.f k t141 0 a3 (⟨#[]⟩ : ByteArray)).bind fun t144 => ((spec_l3Add.f k t144 0 (⟨#[]⟩ : ByteArray) (a0.extract (a1 : Int).toNat (a2 : Int).toNat)).bind fun t147 => ((spec_l3Add.f k t147 (wrap64 ((a0.size : Int) - a2)) (⟨#[]⟩ : ByteArray) (⟨#[]⟩ : ByteArray)).bind fun t150 => (some t150)))))) else (none)) else (none)) else (none)
theorem spec_l3Splice.mono : ∀ a0 a1 a2 a3 k, LeO (spec_l3Splice.f k a0 a1 a2 a3) (spec_l3Splice.f (k + 1) a0 a1 a2 a3) := by
 intro a0 a1 a2 a3 k
 unfold spec_l3Splice.f
 repeat' first
   | (with_reducible exact spec_l3Add.mono _ _ _ _ _)
   | (with_reducible exact LeO.refl _)
   | (with_reducible exact LeO.none _)
   | (with_reducible refine LeO.ite ?_ ?_)
   | (with_reducible refine LeO.bind ?_ (fun _ => ?_))
   | exact spec_l3Add.mono _ _ _ _ _
   | exact LeO.none _
   | refine LeO.ite ?_ ?_
   | refine LeO.bind ?_ (fun _ => ?_)
set_option maxHeartbeats 8000000 in
set_option maxRecDepth 100000 in
theorem spec_l3Splice.calls (k : Nat) (a0 : ByteArray) (a1 : Int) (a2 : Int) (a3 : ByteArray) (r : List (S61)) (w : World) (h : spec_l3Splice.f k a0 a1 a2 a3 = some r) :
  Calls Try.prog 72 #[.string a0, .int .i64 a1, .int .i64 a2, .string a3] w fun e w' => ∃ v0_ : Value, e = .returned (v0_) ∧ Kd.R k61 61 w' w.heap.size (fun _ => True) v0_ r ∧ Below w.heap.size w w' := by
 have hu61 := Try.underlying61
 have HB := aM (Below.refl w.heap.size w)
 have H : (if 0 ≤ a1 then (if a1 ≤ a2 then (if a2 ≤ (a0.size : Int) then (if (a0.extract (a1 : Int).toNat (a2 : Int).toNat).toList = a3.toList then ((spec_l3Add.f k ([] : List (S61)) (a0.size : Int) (⟨#[]⟩ : ByteArray) (⟨#[]⟩ : ByteArray)).bind fun t138 => (some t138)) else ((spec_l3Add.f k ([] : List (S61)) a1 (⟨#[]⟩ : ByteArray) (⟨#[]⟩ : ByteArray)).bind fun t141 => ((spec_l3Add.f k t141 0 a3 (⟨#[]⟩ : ByteArray)).bind fun t144 => ((spec_l3Add.f k t144 0 (⟨#[]⟩ : ByteArray) (a0.extract (a1 : Int).toNat (a2 : Int).toNat)).bind fun t147 => ((spec_l3Add.f k t147 (wrap64 ((a0.size : Int) - a2)) (⟨#[]⟩ : ByteArray) (⟨#[]⟩ : ByteArray)).bind fun t150 => (some t150)))))) else (none)) else (none)) else (none)) = some r := h
 clear h
 by_cases c5 : 0 ≤ a1
 ·rw [if_pos c5] at H
  have c5b0 := eq_true c5
  have c5b1 : decide (0 ≤ a1) = true := dT c5
  clear c5
  by_cases c6 : a1 ≤ a2
  ·rw [if_pos c6] at H
   have c6b0 := eq_true c6
   have c6b1 : decide (a1 ≤ a2) = true := dT c6
   clear c6
   by_cases c7 : a2 ≤ (a0.size : Int)
   ·rw [if_pos c7] at H
    have c7b0 := eq_true c7
    have c7b1 : decide (a2 ≤ (a0.size : Int)) = true := dT c7
    clear c7
    by_cases c8 : (a0.extract (a1 : Int).toNat (a2 : Int).toNat).toList = a3.toList
    ·rw [if_pos c8] at H
     have c8b0 : ((a0.extract (a1 : Int).toNat (a2 : Int).toNat).toList == a3.toList) = true := qT c8
     have c8b1 : ((a0.extract (a1 : Int).toNat (a2 : Int).toNat).toList != a3.toList) = false := nF c8
     clear c8
     replace H := oB H
     obtain ⟨t138, A90, H⟩ := H
     try dsimp only at H
     have A9 := aM A90
     clear A90
     obtain rfl := sI H
     go_enter Try.func72, Try.ntmps72
     go_wp2_with (first | ((with_reducible refine gate_callee (f := 86) rfl ?_); refine goesL_ (some 19) rfl rfl Try.func86 z0 rfl #[.slice none 0 0, .agg #[.int .i64 (a0.size : Int), .string (⟨#[]⟩ : ByteArray), .string (⟨#[]⟩ : ByteArray)]] rfl z12 ?_; (refine (spec_l3Add.calls k (fun k_ => some k_ = (.slice none 0 0 : Value).ownBlock) (.slice none 0 0) ([] : List (S61)) (a0.size : Int) (⟨#[]⟩ : ByteArray) (⟨#[]⟩ : ByteArray) t138 w _ ?side1 ?side2 A9.out).mono ?_); (case side1 => repeat (first | (with_reducible first | exact HB.out | apply bA | apply pD | apply bD) | exact HB.out)); (case side2 => exact Kd.R_nil _ _ _ _ _); rintro e w10 ⟨v139, rfl, ho0, hb, hkp⟩; refine ⟨_, rfl, ?_⟩; have n0_ := aM (Kd.R_mono (ok' := fun k_ => True) ho0 (fun k_ hk_ => trivial)); have n1_ := aM (hb); clear HB; have HO140 := n0_; have HB := n1_; clear n0_ n1_; (try clear hb); (try clear hkp); (try clear ho0)))
     all_goals (try (exfalso; rename_i h_; rw [c8b0] at h_; cases h_; done))
     go_ret
     exact ⟨_, y3, by (with_reducible repeat (first | apply Kd.R_alloc | apply Kd.R_drewN | apply Kd.R_drew)); exact HO140.out, y4⟩
    ·rw [if_neg c8] at H
     have c8b0 : ((a0.extract (a1 : Int).toNat (a2 : Int).toNat).toList == a3.toList) = false := qF c8
     have c8b1 : ((a0.extract (a1 : Int).toNat (a2 : Int).toNat).toList != a3.toList) = true := nT c8
     replace H := oB H
     obtain ⟨t141, A110, H⟩ := H
     try dsimp only at H
     have A11 := aM A110
     clear A110
     replace H := oB H
     obtain ⟨t144, A120, H⟩ := H
     try dsimp only at H
     have A12 := aM A120
     clear A120
     have c13b0 := eq_true (oD z2 : 0 ≤ a1)
     have c14b0 := eq_true (oD z2 : a1 ≤ a2)
     have c15b0 := eq_true (oD z2 : a2 ≤ (a0.size : Int))
     replace H := oB H
     obtain ⟨t147, A160, H⟩ := H
     try dsimp only at H
     have A16 := aM A160
     clear A160
     replace H := oB H
     obtain ⟨t150, A170, H⟩ := H
     try dsimp only at H
     have A17 := aM A170
     clear A170
     obtain rfl := sI H
     go_enter Try.func72, Try.ntmps72
     go_wp2_with (first | ((with_reducible refine gate_callee (f := 86) rfl ?_); refine goesL_ (some 23) rfl rfl Try.func86 z0 rfl #[.slice none 0 0, .agg #[.int .i64 a1, .string (⟨#[]⟩ : ByteArray), .string (⟨#[]⟩ : ByteArray)]] rfl z12 ?_; (refine (spec_l3Add.calls k (fun k_ => some k_ = (.slice none 0 0 : Value).ownBlock) (.slice none 0 0) ([] : List (S61)) a1 (⟨#[]⟩ : ByteArray) (⟨#[]⟩ : ByteArray) t141 w _ ?side1 ?side2 A11.out).mono ?_); (case side1 => repeat (first | (with_reducible first | exact HB.out | apply bA | apply pD | apply bD) | exact HB.out)); (case side2 => exact Kd.R_nil _ _ _ _ _); rintro e w18 ⟨v142, rfl, ho0, hb, hkp⟩; refine ⟨_, rfl, ?_⟩; have n0_ := aM (Kd.R_mono (ok' := fun k_ => True) ho0 (fun k_ hk_ => trivial)); have n1_ := aM (hb); clear HB; have HO143 := n0_; have HB := n1_; clear n0_ n1_; (try clear hb); (try clear hkp); (try clear ho0); obtain ⟨Ao19, co19, eo19⟩ := Kd.R_slice HO143.out; subst eo19) | ((with_reducible refine gate_callee (f := 86) rfl ?_); refine goesL_ (some 27) rfl rfl Try.func86 z0 rfl #[.slice Ao19 t141.length co19, .agg #[.int .i64 0, .string a3, .string (⟨#[]⟩ : ByteArray)]] rfl z12 ?_; (with_reducible refine (spec_l3Add.calls k (fun k_ => some k_ = (.slice Ao19 t141.length co19 : Value).ownBlock) (.slice Ao19 t141.length co19) t141 0 a3 (⟨#[]⟩ : ByteArray) t144 w _ ?side1 ?side2 A12.out).mono ?_); (case side1 => repeat (first | (with_reducible first | exact HB.out | apply bA | apply pD | apply bD) | exact HB.out)); (case side2 => exact Kd.R_tight rfl HO143.out); rintro e w20 ⟨v145, rfl, ho0, hb, hkp⟩; refine ⟨_, rfl, ?_⟩; have n0_ := aM (Kd.R_mono (ok' := fun k_ => True) ho0 (fun k_ hk_ => trivial)); have n1_ := aM (hb); clear HB; clear HO143; have HO146 := n0_; have HB := n1_; clear n0_ n1_; (try clear hb); (try clear hkp); (try clear ho0); obtain ⟨Ao21, co21, eo21⟩ := Kd.R_slice HO146.out; subst eo21) | ((with_reducible refine gate_callee (f := 86) rfl ?_); refine goesL_ (some 34) rfl rfl Try.func86 z0 rfl #[.slice Ao21 t144.length co21, .agg #[.int .i64 0, .string (⟨#[]⟩ : ByteArray), .string (a0.extract (a1 : Int).toNat (a2 : Int).toNat)]] rfl z12 ?_; (with_reducible refine (spec_l3Add.calls k (fun k_ => some k_ = (.slice Ao21 t144.length co21 : Value).ownBlock) (.slice Ao21 t144.length co21) t144 0 (⟨#[]⟩ : ByteArray) (a0.extract (a1 : Int).toNat (a2 : Int).toNat) t147 w _ ?side1 ?side2 A16.out).mono ?_); (case side1 => repeat (first | (with_reducible first | exact HB.out | apply bA | apply pD | apply bD) | exact HB.out)); (case side2 => exact Kd.R_tight rfl HO146.out); rintro e w22 ⟨v148, rfl, ho0, hb, hkp⟩; refine ⟨_, rfl, ?_⟩; have n0_ := aM (Kd.R_mono (ok' := fun k_ => True) ho0 (fun k_ hk_ => trivial)); have n1_ := aM (hb); clear HB; clear HO146; have HO149 := n0_; have HB := n1_; clear n0_ n1_; (try clear hb); (try clear hkp); (try clear ho0); obtain ⟨Ao23, co23, eo23⟩ := Kd.R_slice HO149.out; subst eo23) | ((with_reducible refine gate_callee (f := 86) rfl ?_); refine goesL_ (some 41) rfl rfl Try.func86 z0 rfl #[.slice Ao23 t147.length co23, .agg #[.int .i64 (wrap64 ((a0.size : Int) - a2)), .string (⟨#[]⟩ : ByteArray), .string (⟨#[]⟩ : ByteArray)]] rfl z12 ?_; (with_reducible refine (spec_l3Add.calls k (fun k_ => some k_ = (.slice Ao23 t147.length co23 : Value).ownBlock) (.slice Ao23 t147.length co23) t147 (wrap64 ((a0.size : Int) - a2)) (⟨#[]⟩ : ByteArray) (⟨#[]⟩ : ByteArray) t150 w _ ?side1 ?side2 A17.out).mono ?_); (case side1 => repeat (first | (with_reducible first | exact HB.out | apply bA | apply pD | apply bD) | exact HB.out)); (case side2 => exact Kd.R_tight rfl HO149.out); rintro e w24 ⟨v151, rfl, ho0, hb, hkp⟩; refine ⟨_, rfl, ?_⟩; have n0_ := aM (Kd.R_mono (ok' := fun k_ => True) ho0 (fun k_ hk_ => trivial)); have n1_ := aM (hb); clear HB; clear HO149; have HO152 := n0_; have HB := n1_; clear n0_ n1_; (try clear hb); (try clear hkp); (try clear ho0)))
     all_goals (try (exfalso; rename_i h_; rw [c8b0] at h_; cases h_; done))
     go_ret
     exact ⟨_, y3, by (with_reducible repeat (first | apply Kd.R_alloc | apply Kd.R_drewN | apply Kd.R_drew)); exact HO152.out, y4⟩
   ·rw [if_neg c7] at H
    exact absurd H (by simp)
  ·rw [if_neg c6] at H
   exact absurd H (by simp)
 ·rw [if_neg c5] at H
  exact absurd H (by simp)

/-! ### spec_l1Name: function 73 -/
def spec_l1Name.f (a0 : ByteArray) : Option (Bool) := if (a0.size : Int) = 1 then (if 0 < (a0.size : Int) then ((spec_l1Open.f (bt a0 0)).bind fun t153 => (some t153)) else (none)) else (some false)
set_option maxHeartbeats 8000000 in
set_option maxRecDepth 100000 in
theorem spec_l1Name.calls (a0 : ByteArray) (r : Bool) (w : World) (h : spec_l1Name.f a0 = some r) :
  Calls Try.prog 73 #[.string a0] w fun e w' => e = .returned (.bool r) ∧ Drawn0 w w' := by
 have H : (if (a0.size : Int) = 1 then (if 0 < (a0.size : Int) then ((spec_l1Open.f (bt a0 0)).bind fun t153 => (some t153)) else (none)) else (some false)) = some r := h
 clear h
 by_cases c2 : (a0.size : Int) = 1
 ·rw [if_pos c2] at H
  have c2b0 : ((a0.size : Int) == 1) = true := qT c2
  have c2b1 : ((a0.size : Int) != 1) = false := nF c2
  clear c2
  by_cases c3 : 0 < (a0.size : Int)
  ·rw [if_pos c3] at H
   have c3b0 : decide (0 < (a0.size : Int)) = true := dT c3
   have c3b1 : decide (0 < a0.size) = true := dT (by omega)
   clear c3
   replace H := oB H
   obtain ⟨t153, A50, H⟩ := H
   try dsimp only at H
   have A5 := aM A50
   clear A50
   obtain rfl := sI H
   have p4 : 0 ≤ (0 : Int) := (by omega)
   have q4 : 0 < a0.size := (by have : (0 : Int) < (a0.size : Int) := oD z2; omega)
   have hx4 : ∀ h : 0 < a0.size, ((a0[0]'h).toNat : Int) = bt a0 0 := bt_at a0 0
   clear p4
   have qi4 : (0 < (a0.size : Int)) = True := eq_true (oD z2)
   replace q4 := eq_true q4
   go_enter Try.func73, Try.ntmps73
   go_wp2_with (first | (go_at_call 29; (with_reducible refine (spec_l1Open.calls (bt a0 0) t153 _ A5.out).mono ?_); rintro e w' ⟨rfl, ⟨nd, rfl⟩⟩))
   go_ret
   exact ⟨y1, y2⟩
  ·rw [if_neg c3] at H
   exact absurd H (by simp)
 ·rw [if_neg c2] at H
  have c2b0 : ((a0.size : Int) == 1) = false := qF c2
  have c2b1 : ((a0.size : Int) != 1) = true := nT c2
  obtain rfl := sI H
  go_enter Try.func73, Try.ntmps73
  go_wp2
  go_ret
  exact ⟨y1, y2⟩

/-! ### spec_l3Normal: function 74 -/
def spec_l3Normal.l0 : Nat → List (S61) → List (S61) → Int → Int → Option ((List (S61)))
 | 0, _, _, _, _ => none
 | k + 1, x3, x6, x7, x8 => if x8 < x7 then (if 0 ≤ x8 then (if x8 < (x6.length : Int) then ((spec_l3Add.f k x3 ((rd_T61 x6 x8).f0) ((rd_T61 x6 x8).f1) ((rd_T61 x6 x8).f2)).bind fun t156 => (spec_l3Normal.l0 k t156 x6 x7 (wrap64 (x8 + 1)))) else (none)) else (none)) else (some x3)
def spec_l3Normal.f (k : Nat) (l0 : List (S61)) : Option ((List (S61))) := spec_l3Normal.l0 k ([] : List (S61)) l0 (l0.length : Int) 0
theorem spec_l3Normal.mono_l : ∀ k, (∀ y0 y1 y2 y3, LeO (spec_l3Normal.l0 k y0 y1 y2 y3) (spec_l3Normal.l0 (k + 1) y0 y1 y2 y3))
 | 0 => fun _ _ _ _ r h => by simp [spec_l3Normal.l0] at h
 | k + 1 => by
  have ih0 := spec_l3Normal.mono_l k
  ·intro y0 y1 y2 y3
   unfold spec_l3Normal.l0
   repeat' first
   | (with_reducible exact ih0 _ _ _ _)
   | (with_reducible exact spec_l3Add.mono _ _ _ _ _)
   | (with_reducible exact LeO.refl _)
   | (with_reducible exact LeO.none _)
   | (with_reducible refine LeO.ite ?_ ?_)
   | (with_reducible refine LeO.bind ?_ (fun _ => ?_))
   | exact ih0 _ _ _ _
   | exact spec_l3Add.mono _ _ _ _ _
   | exact LeO.none _
   | refine LeO.ite ?_ ?_
   | refine LeO.bind ?_ (fun _ => ?_)
theorem spec_l3Normal.mono : ∀ a0 k, LeO (spec_l3Normal.f k a0) (spec_l3Normal.f (k + 1) a0) := by
 intro a0 k
 have ih0 := spec_l3Normal.mono_l k
 unfold spec_l3Normal.f
 repeat' first
   | (with_reducible exact ih0 _ _ _ _)
   | (with_reducible exact spec_l3Add.mono _ _ _ _ _)
   | (with_reducible exact LeO.refl _)
   | (with_reducible exact LeO.none _)
   | (with_reducible refine LeO.ite ?_ ?_)
   | (with_reducible refine LeO.bind ?_ (fun _ => ?_))
   | exact ih0 _ _ _ _
   | exact spec_l3Add.mono _ _ _ _ _
   | exact LeO.none _
   | refine LeO.ite ?_ ?_
   | refine LeO.bind ?_ (fun _ => ?_)
set_option maxHeartbeats 8000000 in
set_option maxRecDepth 100000 in
theorem spec_l3Normal.calls (k : Nat) (A0 : Option Addr) (c0 : Nat) (l0 : List (S61)) (r : List (S61)) (w : World) (hr0 : Kd.C k61 w A0 l0.length l0) (hc0 : l0.length ≤ c0) (h : spec_l3Normal.f k l0 = some r) :
  Calls Try.prog 74 #[.slice A0 l0.length c0] w fun e w' => ∃ v0_ : Value, e = .returned (v0_) ∧ Kd.R k61 61 w' w.heap.size (fun _ => True) v0_ r ∧ Below w.heap.size w w' := by
 have hu61 := Try.underlying61
 have HR0 := aM hr0
 have HC0 := aM hc0
 clear hr0 hc0
 have HB := aM (Below.refl w.heap.size w)
 have H : (spec_l3Normal.l0 k ([] : List (S61)) l0 (l0.length : Int) 0) = some r := h
 clear h
 have H' := aM H
 clear H
 go_enter Try.func74, Try.ntmps74
 go_wp2
 go_loopg [3, 8] k (fun kq v3 v8 w' => ∃ (x3_1 : List (S61)) (x8_1 : Int), v8 = .int .i64 x8_1 ∧ Aside0 (spec_l3Normal.l0 kq x3_1 l0 (l0.length : Int) x8_1 = some r) ∧ Aside0 (kq ≤ k) ∧ Aside0 (Kd.R k61 61 w' w.heap.size (fun _ => True) v3 x3_1) ∧ Aside0 (Below w.heap.size w w'))
 case atStart => exact ⟨(([] : List (S61))), (0), z1, H', ⟨Nat.le_refl _⟩, ⟨y21⟩, ⟨y4⟩⟩
 case round =>
  clear H'
  obtain ⟨x3_1, x8_1, rfl, HA, HK1, HO_3, HB⟩ := hrel
  cases gk with
  | zero => exact absurd HA.out (by simp [spec_l3Normal.l0])
  | succ k1 =>
   have H := HA.out
   clear HA
   simp only [spec_l3Normal.l0] at H
   by_cases c2 : x8_1 < (l0.length : Int)
   ·rw [if_pos c2] at H
    have c2b0 : decide (x8_1 < (l0.length : Int)) = true := dT c2
    clear c2
    by_cases c3 : 0 ≤ x8_1
    ·rw [if_pos c3] at H
     have c3b0 : decide (0 ≤ x8_1) = true := dT c3
     clear c3
     by_cases c4 : x8_1 < (l0.length : Int)
     ·rw [if_pos c4] at H
      have c4b0 : decide (x8_1 < (l0.length : Int)) = true := dT c4
      clear c4
      replace H := oB H
      obtain ⟨t156, A50, H⟩ := H
      try dsimp only at H
      have A5 := aM A50
      clear A50
      have H' := aM H
      clear H
      have p154 : 0 ≤ (x8_1 : Int) := oD z2
      have q154 : x8_1 < (l0.length : Int) := oD z2
      obtain ⟨ad154, e154, hx154_0, hx154_1, hx154_2⟩ := at_T61 HR0.out x8_1 p154 q154
      cases e154
      replace hx154_0 := (HB.out.cell (World.block_lt_of_cell? w _ hx154_0)).trans hx154_0
      replace hx154_1 := (HB.out.cell (World.block_lt_of_cell? w _ hx154_1)).trans hx154_1
      replace hx154_2 := (HB.out.cell (World.block_lt_of_cell? w _ hx154_2)).trans hx154_2
      replace p154 := eq_true p154
      replace q154 := eq_true q154
      go_wp2_with (first | ((with_reducible refine gate_dst (N := 5) rfl ?_); refine box_event ?hg (N := 5) ?hd (cs := #[.int .i64 0, .string (⟨#[]⟩ : ByteArray), .string (⟨#[]⟩ : ByteArray)]) (t := 61) ?hr ?_; (case hd => rfl); (case hg => rfl); (case hr => first | (go_simp; done) | (go_simp; rfl)); intro gb155 hg w6 hbox hb; have n0_ := aM (Kd.R_below (Kd.R_elderB (by (with_reducible repeat (first | apply Kd.R_alloc | apply Kd.R_drewN | apply Kd.R_drew)); exact HO_3.out) gb155 (Nat.le_of_eq hg.symm)) hb); have n1_ := aM (below_step z11 hb); have n2_ := aM (hbox); have n3_ := aM ((by rw [hg]; exact (below_size z11) : w.heap.size ≤ gb155)); have n4_ := aM ((by rw [hg]; exact (below_size z11) : w.heap.size ≤ gb155)); clear HO_3; clear HB; have HO_3 := n0_; have HB := n1_; have BK155 := n2_; have GW155 := n3_; have GE155 := n4_; clear n0_ n1_ n2_ n3_ n4_; clear hb hbox hg; have hcz7_0 : w6.cell? ⟨gb155, 0, none⟩ = some (.int .i64 0) := (bC BK155.out 0).trans rfl; have hcz7_1 : w6.cell? ⟨gb155, 1, none⟩ = some (.string (⟨#[]⟩ : ByteArray)) := (bC BK155.out 1).trans rfl; have hcz7_2 : w6.cell? ⟨gb155, 2, none⟩ = some (.string (⟨#[]⟩ : ByteArray)) := (bC BK155.out 2).trans rfl; have hfz7_0 := bF BK155.out 0; have hfz7_1 := bF BK155.out 1; have hfz7_2 := bF BK155.out 2) | ((with_reducible refine gate_store (t := 61) (p := 5) rfl ?_); refine store_event (t := 61) (p := 5) (v := ?vo_w8) (w1 := (((w6.setCell ⟨gb155, 0, none⟩ (.int .i64 ((rd_T61 l0 x8_1).f0))).setCell ⟨gb155, 1, none⟩ (.string ((rd_T61 l0 x8_1).f1))).setCell ⟨gb155, 2, none⟩ (.string ((rd_T61 l0 x8_1).f2)))) ?hg ?ho ?hn ?hr ?_; (case ho => rfl); (case hg => rfl); (case hn => rfl); (case hr => first | (go_simp; done) | (go_simp; rfl) | ((try simp only [Int.toNat_natCast] at *); go_simp; first | done | rfl)); intro w8 hw; have n0_ : Aside0 (Kd.R k61 61 w8 w.heap.size (fun k_ => k_ ≠ gb155) u3 x3_1) := ⟨(by rw [hw]; exact (by (with_reducible repeat (first | apply Kd.R_alloc | apply Kd.R_drewN | apply Kd.R_drew)); exact Kd.R_mono (Kd.R_far (p := ⟨gb155, 2, none⟩) (Kd.R_far (p := ⟨gb155, 1, none⟩) (Kd.R_far (p := ⟨gb155, 0, none⟩) (Kd.R_mono HO_3.out (fun k_ hk => (⟨hk, hk.2⟩ : _ ∧ k_ ≠ gb155))) (fun _ hk => hk.2) (.int .i64 ((rd_T61 l0 x8_1).f0))) (fun _ hk => hk.2) (.string ((rd_T61 l0 x8_1).f1))) (fun _ hk => hk.2) (.string ((rd_T61 l0 x8_1).f2))) (fun _ hk => hk.1.2)))⟩; have n1_ : Aside0 (w8.heap[gb155]? = some (.cells #[.int .i64 ((rd_T61 l0 x8_1).f0), .string ((rd_T61 l0 x8_1).f1), .string ((rd_T61 l0 x8_1).f2)] 61 (0, 0))) := ⟨(by rw [hw]; exact (by (with_reducible repeat (first | refine blk_drewN ?_ _ | refine blk_drew ?_ | refine blk_alloc ?_ _)); refine blk_put (cs := #[.int .i64 ((rd_T61 l0 x8_1).f0), .string ((rd_T61 l0 x8_1).f1), .string (⟨#[]⟩ : ByteArray)]) ?_ 2 _ rfl; (with_reducible repeat (first | refine blk_drewN ?_ _ | refine blk_drew ?_ | refine blk_alloc ?_ _)); refine blk_put (cs := #[.int .i64 ((rd_T61 l0 x8_1).f0), .string (⟨#[]⟩ : ByteArray), .string (⟨#[]⟩ : ByteArray)]) ?_ 1 _ rfl; (with_reducible repeat (first | refine blk_drewN ?_ _ | refine blk_drew ?_ | refine blk_alloc ?_ _)); refine blk_put (cs := #[.int .i64 0, .string (⟨#[]⟩ : ByteArray), .string (⟨#[]⟩ : ByteArray)]) ?_ 0 _ rfl; (with_reducible repeat (first | refine blk_drewN ?_ _ | refine blk_drew ?_ | refine blk_alloc ?_ _)); exact BK155.out))⟩; have n2_ : Aside0 (Below w.heap.size w w8) := ⟨(by rw [hw]; exact (by repeat (first | (with_reducible first | exact HB.out | apply bA | apply pD | apply bD | refine below_set ?_ GE155.out) | exact HB.out)))⟩; clear hw; clear HO_3; clear BK155; clear HB; have HO_3 := n0_; have BK155 := n1_; have HB := n2_; clear n0_ n1_ n2_; have hcz9_0 : w8.cell? ⟨gb155, 0, none⟩ = some (.int .i64 ((rd_T61 l0 x8_1).f0)) := (bC BK155.out 0).trans rfl; have hcz9_1 : w8.cell? ⟨gb155, 1, none⟩ = some (.string ((rd_T61 l0 x8_1).f1)) := (bC BK155.out 1).trans rfl; have hcz9_2 : w8.cell? ⟨gb155, 2, none⟩ = some (.string ((rd_T61 l0 x8_1).f2)) := (bC BK155.out 2).trans rfl; have hfz9_0 := bF BK155.out 0; have hfz9_1 := bF BK155.out 1; have hfz9_2 := bF BK155.out 2; obtain ⟨Ao10, co10, eo10⟩ := Kd.R_slice HO_3.out; subst eo10) | ((with_reducible refine gate_callee (f := 86) rfl ?_); refine goesL_ (some 14) rfl rfl Try.func86 z0 rfl #[.slice Ao10 x3_1.length co10, .agg #[.int .i64 ((rd_T61 l0 x8_1).f0), .string ((rd_T61 l0 x8_1).f1), .string ((rd_T61 l0 x8_1).f2)]] rfl z12 ?_; (with_reducible refine (spec_l3Add.calls k1 (fun k_ => some k_ = (.slice Ao10 x3_1.length co10 : Value).ownBlock) (.slice Ao10 x3_1.length co10) x3_1 ((rd_T61 l0 x8_1).f0) ((rd_T61 l0 x8_1).f1) ((rd_T61 l0 x8_1).f2) t156 w _ ?side1 ?side2 A5.out).mono ?_); (case side1 => repeat (first | (with_reducible first | exact HB.out | apply bA | apply pD | apply bD | refine below_set ?_ GE155.out) | exact HB.out)); (case side2 => exact Kd.R_tight rfl HO_3.out); rintro e w11 ⟨v157, rfl, ho0, hb, hkp⟩; refine ⟨_, rfl, ?_⟩; have n0_ := aM (blk_kept (by (with_reducible repeat (first | refine blk_drewN ?_ _ | refine blk_drew ?_ | refine blk_alloc ?_ _)); exact BK155.out) hkp (fun hs_ => (fun e_ => (Kd.R_away HO_3.out (fun _ hk => hk)) e_) hs_)); have n1_ := aM (Kd.R_mono (ok' := fun k_ => k_ ≠ gb155) ho0 (fun k_ hk_ => Or.elim hk_ (fun hs_ => fun e_ => (Kd.R_away HO_3.out (fun _ hk => hk)) (by rw [← e_]; exact hs_)) (fun hn_ => (Kd.freshB (g := gb155) (o := .cells #[.int .i64 ((rd_T61 l0 x8_1).f0), .string ((rd_T61 l0 x8_1).f1), .string ((rd_T61 l0 x8_1).f2)] 61 (0, 0)) (by (with_reducible repeat (first | refine blk_drewN ?_ _ | refine blk_drew ?_ | refine blk_alloc ?_ _)); exact BK155.out) k_ hn_)))); have n2_ := aM (hb); clear BK155; clear HB; clear HO_3; have BK155 := n0_; have HO158 := n1_; have HB := n2_; clear n0_ n1_ n2_; (try clear hb); (try clear hkp); (try clear ho0)))
      go_roundg k1
      case measure => have := HK1.out; omega
      case rel => exact ⟨(t156), (wrap64 (x8_1 + 1)), z1, H', ⟨by have := HK1.out; omega⟩, ⟨by (with_reducible repeat (first | apply Kd.R_alloc | apply Kd.R_drewN | apply Kd.R_drew)); exact Kd.R_mono HO158.out (fun _ hk => trivial)⟩, ⟨by repeat (first | (with_reducible first | exact HB.out | apply bA | apply pD | apply bD | refine below_set ?_ GE155.out) | exact HB.out)⟩⟩
     ·rw [if_neg c4] at H
      exact absurd H (by simp)
    ·rw [if_neg c3] at H
     exact absurd H (by simp)
   ·rw [if_neg c2] at H
    have c2b0 : decide (x8_1 < (l0.length : Int)) = false := dF c2
    clear c2
    obtain rfl := sI H
    go_wp2
    go_ret
    exact ⟨_, y3, by (with_reducible repeat (first | apply Kd.R_alloc | apply Kd.R_drewN | apply Kd.R_drew)); exact HO_3.out, y4⟩

/-! ### spec_l8Split: function 75 -/
mutual
def spec_l8Split.l0 : Nat → ByteArray → Int → Int → Int → Option ((List (S61)) × Bool)
 | 0, _, _, _, _ => none
 | k + 1, x0, x1, x6, x7 => if x7 ≥ 0 then (if 0 ≤ x7 then (if x7 < (x0.size : Int) then (if (bt x0 x7) = 47 then (spec_l8Split.j1 k x0 x1 (wrap64 (x6 + 1)) x7) else (spec_l8Split.j1 k x0 x1 x6 x7)) else (none)) else (none)) else (some (([] : List (S61)), false))
def spec_l8Split.j1 : Nat → ByteArray → Int → Int → Int → Option ((List (S61)) × Bool)
 | 0, _, _, _, _ => none
 | k + 1, x0, x1, x6, x7 => if 0 ≤ x7 then (if x7 < (x0.size : Int) then ((spec_l1Open.f (bt x0 x7)).bind fun t159 => (if t159 = true then (if x6 = 0 then (if x7 ≤ (wrap64 (x7 + 1)) then (if (wrap64 (x7 + 1)) ≤ (x0.size : Int) then (if 1 + (x0.extract (x7 : Int).toNat ((wrap64 (x7 + 1)) : Int).toNat).size ≤ 9223372036854775807 then ((spec_l3Splice.f k x0 x1 x1 ((⟨#[47]⟩ : ByteArray) ++ (x0.extract (x7 : Int).toNat ((wrap64 (x7 + 1)) : Int).toNat))).bind fun t160 => (some (t160, true))) else (none)) else (none)) else (none)) else (spec_l8Split.l0 k x0 x1 (wrap64 (x6 - 1)) (wrap64 (x7 - 1)))) else (spec_l8Split.l0 k x0 x1 x6 (wrap64 (x7 - 1))))) else (none)) else (none)
end
def spec_l8Split.f (k : Nat) (a0 : ByteArray) (a1 : Int) : Option ((List (S61)) × Bool) := spec_l8Split.l0 k a0 a1 0 (wrap64 (a1 - 1))
theorem spec_l8Split.mono_l : ∀ k, (∀ y0 y1 y2 y3, LeO (spec_l8Split.l0 k y0 y1 y2 y3) (spec_l8Split.l0 (k + 1) y0 y1 y2 y3)) ∧ (∀ y0 y1 y2 y3, LeO (spec_l8Split.j1 k y0 y1 y2 y3) (spec_l8Split.j1 (k + 1) y0 y1 y2 y3))
 | 0 => ⟨fun _ _ _ _ r h => by simp [spec_l8Split.l0] at h, fun _ _ _ _ r h => by simp [spec_l8Split.j1] at h⟩
 | k + 1 => by
  obtain ⟨ih0, ih1⟩ := spec_l8Split.mono_l k
  refine ⟨?_, ?_⟩
  ·intro y0 y1 y2 y3
   unfold spec_l8Split.l0
   repeat' first
   | (with_reducible exact ih0 _ _ _ _)
   | (with_reducible exact ih1 _ _ _ _)
   | (with_reducible exact spec_l3Splice.mono _ _ _ _ _)
   | (with_reducible exact LeO.refl _)
   | (with_reducible exact LeO.none _)
   | (with_reducible refine LeO.ite ?_ ?_)
   | (with_reducible refine LeO.bind ?_ (fun _ => ?_))
   | exact ih0 _ _ _ _
   | exact ih1 _ _ _ _
   | exact spec_l3Splice.mono _ _ _ _ _
   | exact LeO.none _
   | refine LeO.ite ?_ ?_
   | refine LeO.bind ?_ (fun _ => ?_)
  ·intro y0 y1 y2 y3
   unfold spec_l8Split.j1
   repeat' first
   | (with_reducible exact ih0 _ _ _ _)
   | (with_reducible exact ih1 _ _ _ _)
   | (with_reducible exact spec_l3Splice.mono _ _ _ _ _)
   | (with_reducible exact LeO.refl _)
   | (with_reducible exact LeO.none _)
   | (with_reducible refine LeO.ite ?_ ?_)
   | (with_reducible refine LeO.bind ?_ (fun _ => ?_))
   | exact ih0 _ _ _ _
   | exact ih1 _ _ _ _
   | exact spec_l3Splice.mono _ _ _ _ _
   | exact LeO.none _
   | refine LeO.ite ?_ ?_
   | refine LeO.bind ?_ (fun _ => ?_)
theorem spec_l8Split.mono : ∀ a0 a1 k, LeO (spec_l8Split.f k a0 a1) (spec_l8Split.f (k + 1) a0 a1) := by
 intro a0 a1 k
 obtain ⟨ih0, ih1⟩ := spec_l8Split.mono_l k
 unfold spec_l8Split.f
 repeat' first
   | (with_reducible exact ih0 _ _ _ _)
   | (with_reducible exact ih1 _ _ _ _)
   | (with_reducible exact spec_l3Splice.mono _ _ _ _ _)
   | (with_reducible exact LeO.refl _)
   | (with_reducible exact LeO.none _)
   | (with_reducible refine LeO.ite ?_ ?_)
   | (with_reducible refine LeO.bind ?_ (fun _ => ?_))
   | exact ih0 _ _ _ _
   | exact ih1 _ _ _ _
   | exact spec_l3Splice.mono _ _ _ _ _
   | exact LeO.none _
   | refine LeO.ite ?_ ?_
   | refine LeO.bind ?_ (fun _ => ?_)
set_option maxHeartbeats 8000000 in
set_option maxRecDepth 100000 in
theorem spec_l8Split.calls (k : Nat) (a0 : ByteArray) (a1 : Int) (r1 : List (S61)) (r2 : Bool) (w : World) (h : spec_l8Split.f k a0 a1 = some (r1, r2)) :
  Calls Try.prog 75 #[.string a0, .int .i64 a1] w fun e w' => ∃ v0_ : Value, e = .returned (.tuple #[v0_, .bool r2]) ∧ Kd.R k61 61 w' w.heap.size (fun _ => True) v0_ r1 ∧ Below w.heap.size w w' := by
 have HB := aM (Below.refl w.heap.size w)
 have H : (spec_l8Split.l0 k a0 a1 0 (wrap64 (a1 - 1))) = some (r1, r2) := h
 clear h
 have H' := aM H
 clear H
 go_enter Try.func75, Try.ntmps75
 go_wp2
 go_loopg [6, 7] k (fun kq v6 v7 w' => ∃ (x6_1 : Int) (x7_1 : Int), v6 = .int .i64 x6_1 ∧ v7 = .int .i64 x7_1 ∧ Aside0 (spec_l8Split.l0 kq a0 a1 x6_1 x7_1 = some (r1, r2)) ∧ Aside0 (kq ≤ k) ∧ Aside0 (Below w.heap.size w w'))
 case atStart => exact ⟨(0), (wrap64 (a1 - 1)), z1, z1, H', ⟨Nat.le_refl _⟩, ⟨y4⟩⟩
 case round =>
  clear H'
  try clear p2
  obtain ⟨x6_1, x7_1, rfl, rfl, HA, HK1, HB⟩ := hrel
  cases gk with
  | zero => exact absurd HA.out (by simp [spec_l8Split.l0])
  | succ k1 =>
   have H := HA.out
   clear HA
   simp only [spec_l8Split.l0] at H
   by_cases c3 : x7_1 ≥ 0
   ·rw [if_pos c3] at H
    have c3b0 : decide (0 ≤ x7_1) = true := dT c3
    clear c3
    by_cases c4 : 0 ≤ x7_1
    ·rw [if_pos c4] at H
     have c4b0 : decide (0 ≤ x7_1) = true := dT c4
     clear c4
     by_cases c5 : x7_1 < (a0.size : Int)
     ·rw [if_pos c5] at H
      have c5b0 : decide (x7_1 < (a0.size : Int)) = true := dT c5
      clear c5
      have HC7 := aM H
      clear H
      have p6 : 0 ≤ (x7_1 : Int) := oD z2
      have q6 : x7_1 < (a0.size : Int) := oD z2
      have hx6 := bt_at a0 x7_1
      replace p6 := eq_true p6
      replace q6 := eq_true q6
      go_upto_if 17 with (fail)
      go_cut [6] (fun v6 wc => ∃ (kq : Nat) (x6_6 : Int), v6 = .int .i64 x6_6 ∧ Aside0 (spec_l8Split.j1 kq a0 a1 x6_6 x7_1 = some (r1, r2)) ∧ Aside0 (kq ≤ k1) ∧ Aside0 (Below w.heap.size w wc))
      case first =>
       have H := HC7.out
       clear HC7
       by_cases c8 : (bt a0 x7_1) = 47
       ·rw [if_pos c8] at H
        have c8b0 : ((bt a0 x7_1) == 47) = true := qT c8
        have c8b1 : ((bt a0 x7_1) != 47) = false := nF c8
        clear c8
        (first | rw [c8b0] | (simp only [i64_w, i32_w]; rw [c8b0]) | skip)
        have H' := aM H
        clear H
        go_wp2
        go_meet
        case rel => exact ⟨_, (wrap64 (x6_1 + 1)), z1, H', ⟨by have := HK1.out; first | omega | exact Nat.le_refl _⟩, ⟨y4⟩⟩
       ·rw [if_neg c8] at H
        have c8b0 : ((bt a0 x7_1) == 47) = false := qF c8
        have c8b1 : ((bt a0 x7_1) != 47) = true := nT c8
        (first | rw [c8b0] | (simp only [i64_w, i32_w]; rw [c8b0]) | skip)
        have H' := aM H
        clear H
        go_wp2
        go_meet
        case rel => exact ⟨_, (x6_1), z1, H', ⟨by have := HK1.out; first | omega | exact Nat.le_refl _⟩, ⟨y4⟩⟩
      case rest =>
       clear HC7
       try clear p2
       try clear c3
       try clear c3b0
       try clear c4
       try clear c4b0
       try clear c5
       try clear c5b0
       try clear p6
       try clear q6
       try clear hx6
       try clear c7
       try clear c8
       try clear c8b0
       try clear c8b1
       try clear p2
       try clear p6
       try clear q6
       obtain ⟨kq, x6_6, rfl, HA, HJ6, HB⟩ := hcut
       cases kq with
       | zero => exact absurd HA.out (by simp [spec_l8Split.j1])
       | succ kj6 =>
        have H := HA.out
        clear HA
        simp only [spec_l8Split.j1] at H
        by_cases c9 : 0 ≤ x7_1
        ·rw [if_pos c9] at H
         have c9b0 : decide (0 ≤ x7_1) = true := dT c9
         clear c9
         by_cases c10 : x7_1 < (a0.size : Int)
         ·rw [if_pos c10] at H
          have c10b0 : decide (x7_1 < (a0.size : Int)) = true := dT c10
          clear c10
          replace H := oB H
          obtain ⟨t159, A120, H⟩ := H
          try dsimp only at H
          have A12 := aM A120
          clear A120
          by_cases c13 : t159 = true
          ·subst c13
           rw [if_pos rfl] at H
           by_cases c14 : x6_6 = 0
           ·rw [if_pos c14] at H
            have c14b0 : (x6_6 == 0) = true := qT c14
            have c14b1 : (x6_6 != 0) = false := nF c14
            clear c14
            have c15b0 := eq_true (oD z2 : 0 ≤ x7_1)
            by_cases c16 : x7_1 ≤ (wrap64 (x7_1 + 1))
            ·rw [if_pos c16] at H
             have c16b0 := eq_true c16
             have c16b1 : decide (x7_1 ≤ (wrap64 (x7_1 + 1))) = true := dT c16
             by_cases c17 : (wrap64 (x7_1 + 1)) ≤ (a0.size : Int)
             ·rw [if_pos c17] at H
              have c17b0 := eq_true c17
              have c17b1 : decide ((wrap64 (x7_1 + 1)) ≤ (a0.size : Int)) = true := dT c17
              by_cases c18 : 1 + (a0.extract (x7_1 : Int).toNat ((wrap64 (x7_1 + 1)) : Int).toNat).size ≤ 9223372036854775807
              ·rw [if_pos c18] at H
               have c18b0 := eq_true c18
               have c18b1 : decide (1 + (a0.extract (x7_1 : Int).toNat ((wrap64 (x7_1 + 1)) : Int).toNat).size ≤ 9223372036854775807) = true := dT c18
               try have c18b2 : (9223372036854775807 < 1 + (a0.extract (x7_1 : Int).toNat ((wrap64 (x7_1 + 1)) : Int).toNat).size) = False := eq_false (Nat.not_lt.2 c18)
               (try (have c18x : (9223372036854775807 < 1 + ((wrap64 (x7_1 + 1)).toNat - (x7_1).toNat)) = False := eq_false (fun h_ => by have e_ := of_eq_true c18b0; simp only [ByteArray.size_extract, ByteArray.size_append] at e_; have f0_ : (wrap64 (x7_1 + 1)) ≤ (a0.size : Int) := (by first | assumption | exact of_eq_true (by assumption) | exact oD (by assumption)); omega)))
               replace H := oB H
               obtain ⟨t160, A190, H⟩ := H
               try dsimp only at H
               have A19 := aM A190
               clear A190
               simp only [Option.some.injEq, Prod.mk.injEq] at H
               obtain ⟨rfl, rfl⟩ := H
               have p11 : 0 ≤ (x7_1 : Int) := oD z2
               have q11 : x7_1 < (a0.size : Int) := oD z2
               have hx11 := bt_at a0 x7_1
               replace p11 := eq_true p11
               replace q11 := eq_true q11
               go_wp2_with (first | ((with_reducible refine gate_callee (f := 29) rfl ?_); refine goesL_ (some 23) rfl rfl Try.func29 z0 rfl #[.int .u8 (bt a0 x7_1)] rfl z12 ?_; (with_reducible refine (spec_l1Open.calls (bt a0 x7_1) true _ A12.out).mono ?_); rintro e w' ⟨rfl, ⟨nd, rfl⟩⟩; refine ⟨_, rfl, ?_⟩) | ((with_reducible refine gate_callee (f := 72) rfl ?_); refine goesL_ (some 36) rfl rfl Try.func72 z0 rfl #[.string a0, .int .i64 a1, .int .i64 a1, .string ((⟨#[47]⟩ : ByteArray) ++ (a0.extract (x7_1 : Int).toNat ((wrap64 (x7_1 + 1)) : Int).toNat))] rfl z12 ?_; (with_reducible refine (spec_l3Splice.calls kj6 a0 a1 a1 ((⟨#[47]⟩ : ByteArray) ++ (a0.extract (x7_1 : Int).toNat ((wrap64 (x7_1 + 1)) : Int).toNat)) t160 _ A19.out).mono ?_); rintro e w20 ⟨v161, rfl, ho0, hb⟩; refine ⟨_, rfl, ?_⟩; have n0_ := aM (Kd.R_lower ho0 (below_size z11)); have n1_ := aM (below_step z11 hb); clear HB; have HO162 := n0_; have HB := n1_; clear n0_ n1_; (try clear hb); (try clear hb2); (try clear hk); (try clear hi); (try clear ho0)))
               go_ret2
               exact ⟨_, y3, by (with_reducible repeat (first | apply Kd.R_alloc | apply Kd.R_drewN | apply Kd.R_drew)); exact HO162.out, y4⟩
              ·rw [if_neg c18] at H
               exact absurd H (by simp)
             ·rw [if_neg c17] at H
              exact absurd H (by simp)
            ·rw [if_neg c16] at H
             exact absurd H (by simp)
           ·rw [if_neg c14] at H
            have c14b0 : (x6_6 == 0) = false := qF c14
            have c14b1 : (x6_6 != 0) = true := nT c14
            have H' := aM H
            clear H
            have p11 : 0 ≤ (x7_1 : Int) := oD z2
            have q11 : x7_1 < (a0.size : Int) := oD z2
            have hx11 := bt_at a0 x7_1
            replace p11 := eq_true p11
            replace q11 := eq_true q11
            go_wp2_with (first | ((with_reducible refine gate_callee (f := 29) rfl ?_); refine goesL_ (some 23) rfl rfl Try.func29 z0 rfl #[.int .u8 (bt a0 x7_1)] rfl z12 ?_; (with_reducible refine (spec_l1Open.calls (bt a0 x7_1) true _ A12.out).mono ?_); rintro e w' ⟨rfl, ⟨nd, rfl⟩⟩; refine ⟨_, rfl, ?_⟩))
            go_roundg kj6
            case measure => have := HK1.out; have := HJ6.out; omega
            case rel => exact ⟨(wrap64 (x6_6 - 1)), (wrap64 (x7_1 - 1)), z1, z1, H', ⟨by have := HK1.out; have := HJ6.out; omega⟩, ⟨y4⟩⟩
          ·replace c13 := Bool.eq_false_iff.mpr c13
           subst c13
           rw [if_neg (show ¬ (false = true) by decide)] at H
           have H' := aM H
           clear H
           have p11 : 0 ≤ (x7_1 : Int) := oD z2
           have q11 : x7_1 < (a0.size : Int) := oD z2
           have hx11 := bt_at a0 x7_1
           replace p11 := eq_true p11
           replace q11 := eq_true q11
           go_wp2_with (first | ((with_reducible refine gate_callee (f := 29) rfl ?_); refine goesL_ (some 23) rfl rfl Try.func29 z0 rfl #[.int .u8 (bt a0 x7_1)] rfl z12 ?_; (with_reducible refine (spec_l1Open.calls (bt a0 x7_1) false _ A12.out).mono ?_); rintro e w' ⟨rfl, ⟨nd, rfl⟩⟩; refine ⟨_, rfl, ?_⟩))
           go_roundg kj6
           case measure => have := HK1.out; have := HJ6.out; omega
           case rel => exact ⟨(x6_6), (wrap64 (x7_1 - 1)), z1, z1, H', ⟨by have := HK1.out; have := HJ6.out; omega⟩, ⟨y4⟩⟩
         ·rw [if_neg c10] at H
          exact absurd H (by simp)
        ·rw [if_neg c9] at H
         exact absurd H (by simp)
     ·rw [if_neg c5] at H
      exact absurd H (by simp)
    ·rw [if_neg c4] at H
     exact absurd H (by simp)
   ·rw [if_neg c3] at H
    have c3b0 : decide (0 ≤ x7_1) = false := dF c3
    clear c3
    simp only [Option.some.injEq, Prod.mk.injEq] at H
    obtain ⟨rfl, rfl⟩ := H
    go_wp2
    go_ret2
    exact ⟨_, y3, y21, y4⟩

/-! ### spec_l8Move: function 76 -/
def spec_l8Move.j0 : Nat → ByteArray → Int → Int → Int → Bool → Option ((List (S61)) × Bool)
 | 0, _, _, _, _, _ => none
 | k + 1, x0, x1, x2, x3, x21 => if x21 = true then (some (([] : List (S61)), false)) else (if 0 ≤ x1 then (if x1 ≤ x2 then (if x2 ≤ (x0.size : Int) then (if x3 < x1 then ((spec_l3Normal.f k (([(⟨x3, (⟨#[]⟩ : ByteArray), (⟨#[]⟩ : ByteArray)⟩ : S61), (⟨0, x0.extract (x1 : Int).toNat (x2 : Int).toNat, (⟨#[]⟩ : ByteArray)⟩ : S61), (⟨wrap64 (x1 - x3), (⟨#[]⟩ : ByteArray), (⟨#[]⟩ : ByteArray)⟩ : S61), (⟨0, (⟨#[]⟩ : ByteArray), x0.extract (x1 : Int).toNat (x2 : Int).toNat⟩ : S61), (⟨wrap64 ((x0.size : Int) - x2), (⟨#[]⟩ : ByteArray), (⟨#[]⟩ : ByteArray)⟩ : S61)] : List (S61)))).bind fun t168 => (some (t168, true))) else ((spec_l3Normal.f k (([(⟨x1, (⟨#[]⟩ : ByteArray), (⟨#[]⟩ : ByteArray)⟩ : S61), (⟨0, (⟨#[]⟩ : ByteArray), x0.extract (x1 : Int).toNat (x2 : Int).toNat⟩ : S61), (⟨wrap64 (x3 - x2), (⟨#[]⟩ : ByteArray), (⟨#[]⟩ : ByteArray)⟩ : S61), (⟨0, x0.extract (x1 : Int).toNat (x2 : Int).toNat, (⟨#[]⟩ : ByteArray)⟩ : S61), (⟨wrap64 ((x0.size : Int) - x3), (⟨#[]⟩ : ByteArray), (⟨#[]⟩ : ByteArray)⟩ : S61)] : List (S61)))).bind fun t174 => (some (t174, true)))) else (none)) else (none)) else (none))
def spec_l8Move.f (k : Nat) (a0 : ByteArray) (a1 : Int) (a2 : Int) (a3 : Int) : Option ((List (S61)) × Bool) := (spec_l1In.f a3 0 (a0.size : Int)).bind fun t163 => (if t163 = true then ((spec_l1In.f a3 a1 a2).bind fun t164 => (spec_l8Move.j0 k a0 a1 a2 a3 t164)) else (spec_l8Move.j0 k a0 a1 a2 a3 true))
theorem spec_l8Move.mono_l : ∀ k, (∀ y0 y1 y2 y3 y4, LeO (spec_l8Move.j0 k y0 y1 y2 y3 y4) (spec_l8Move.j0 (k + 1) y0 y1 y2 y3 y4))
 | 0 => fun _ _ _ _ _ r h => by simp [spec_l8Move.j0] at h
 | k + 1 => by
  have ih0 := spec_l8Move.mono_l k
  ·intro y0 y1 y2 y3 y4
   unfold spec_l8Move.j0
   repeat' first
   | (with_reducible exact ih0 _ _ _ _ _)
   | (with_reducible exact spec_l3Normal.mono _ _)
   | (with_reducible exact LeO.refl _)
   | (with_reducible exact LeO.none _)
   | (with_reducible refine LeO.ite ?_ ?_)
   | (with_reducible refine LeO.bind ?_ (fun _ => ?_))
   | exact ih0 _ _ _ _ _
   | exact spec_l3Normal.mono _ _
   | exact LeO.none _
   | refine LeO.ite ?_ ?_
   | refine LeO.bind ?_ (fun _ => ?_)
theorem spec_l8Move.mono : ∀ a0 a1 a2 a3 k, LeO (spec_l8Move.f k a0 a1 a2 a3) (spec_l8Move.f (k + 1) a0 a1 a2 a3) := by
 intro a0 a1 a2 a3 k
 have ih0 := spec_l8Move.mono_l k
 unfold spec_l8Move.f
 repeat' first
   | (with_reducible exact ih0 _ _ _ _ _)
   | (with_reducible exact spec_l3Normal.mono _ _)
   | (with_reducible exact LeO.refl _)
   | (with_reducible exact LeO.none _)
   | (with_reducible refine LeO.ite ?_ ?_)
   | (with_reducible refine LeO.bind ?_ (fun _ => ?_))
   | exact ih0 _ _ _ _ _
   | exact spec_l3Normal.mono _ _
   | exact LeO.none _
   | refine LeO.ite ?_ ?_
   | refine LeO.bind ?_ (fun _ => ?_)
set_option maxHeartbeats 8000000 in
set_option maxRecDepth 100000 in
theorem spec_l8Move.calls (k : Nat) (a0 : ByteArray) (a1 : Int) (a2 : Int) (a3 : Int) (r1 : List (S61)) (r2 : Bool) (w : World) (h : spec_l8Move.f k a0 a1 a2 a3 = some (r1, r2)) :
  Calls Try.prog 76 #[.string a0, .int .i64 a1, .int .i64 a2, .int .i64 a3] w fun e w' => ∃ v0_ : Value, e = .returned (.tuple #[v0_, .bool r2]) ∧ Kd.R k61 61 w' w.heap.size (fun _ => True) v0_ r1 ∧ Below w.heap.size w w' := by
 have hu61 := Try.underlying61
 have HB := aM (Below.refl w.heap.size w)
 have H : ((spec_l1In.f a3 0 (a0.size : Int)).bind fun t163 => (if t163 = true then ((spec_l1In.f a3 a1 a2).bind fun t164 => (spec_l8Move.j0 k a0 a1 a2 a3 t164)) else (spec_l8Move.j0 k a0 a1 a2 a3 true))) = some (r1, r2) := h
 clear h
 have HC5 := aM H
 clear H
 go_enter Try.func76, Try.ntmps76
 go_upto_region 1 with (fail)
 go_cut [21] (fun v21 wc => ∃ (kq : Nat) (x21_4 : Bool), v21 = .bool x21_4 ∧ Aside0 (spec_l8Move.j0 kq a0 a1 a2 a3 x21_4 = some (r1, r2)) ∧ Aside0 (kq ≤ k) ∧ Aside0 (Below w.heap.size w wc))
 case first =>
  have H := HC5.out
  clear HC5
  replace H := oB H
  obtain ⟨t163, A60, H⟩ := H
  try dsimp only at H
  have A6 := aM A60
  clear A60
  by_cases c7 : t163 = true
  ·subst c7
   rw [if_pos rfl] at H
   replace H := oB H
   obtain ⟨t164, A80, H⟩ := H
   try dsimp only at H
   have A8 := aM A80
   clear A80
   have H' := aM H
   clear H
   go_wp2_with (first | ((with_reducible refine gate_callee (f := 71) rfl ?_); refine goesL_ (some 14) rfl rfl Try.func71 z0 rfl #[.int .i64 a3, .int .i64 0, .int .i64 (a0.size : Int)] rfl z12 ?_; (with_reducible refine (spec_l1In.calls a3 0 (a0.size : Int) true _ A6.out).mono ?_); rintro e w' ⟨rfl, ⟨nd, rfl⟩⟩; refine ⟨_, rfl, ?_⟩) | (go_at_call 71; (with_reducible refine (spec_l1In.calls a3 a1 a2 t164 _ A8.out).mono ?_); rintro e w' ⟨rfl, ⟨nd, rfl⟩⟩))
   go_meet
   case rel => exact ⟨_, (t164), z1, H', ⟨y0⟩, ⟨y4⟩⟩
  ·replace c7 := Bool.eq_false_iff.mpr c7
   subst c7
   rw [if_neg (show ¬ (false = true) by decide)] at H
   have H' := aM H
   clear H
   go_wp2_with (first | ((with_reducible refine gate_callee (f := 71) rfl ?_); refine goesL_ (some 14) rfl rfl Try.func71 z0 rfl #[.int .i64 a3, .int .i64 0, .int .i64 (a0.size : Int)] rfl z12 ?_; (with_reducible refine (spec_l1In.calls a3 0 (a0.size : Int) false _ A6.out).mono ?_); rintro e w' ⟨rfl, ⟨nd, rfl⟩⟩; refine ⟨_, rfl, ?_⟩))
   go_meet
   case rel => exact ⟨_, (true), z1, H', ⟨y0⟩, ⟨y4⟩⟩
 case rest =>
  clear HC5
  try clear p2
  try clear c7
  obtain ⟨kq, x21_4, rfl, HA, HJ4, HB⟩ := hcut
  cases kq with
  | zero => exact absurd HA.out (by simp [spec_l8Move.j0])
  | succ kj4 =>
   have H := HA.out
   clear HA
   simp only [spec_l8Move.j0] at H
   by_cases c9 : x21_4 = true
   ·subst c9
    rw [if_pos rfl] at H
    simp only [Option.some.injEq, Prod.mk.injEq] at H
    obtain ⟨rfl, rfl⟩ := H
    go_wp2
    go_ret2
    exact ⟨_, y3, y21, y4⟩
   ·replace c9 := Bool.eq_false_iff.mpr c9
    subst c9
    rw [if_neg (show ¬ (false = true) by decide)] at H
    by_cases c10 : 0 ≤ a1
    ·rw [if_pos c10] at H
     have c10b0 := eq_true c10
     have c10b1 : decide (0 ≤ a1) = true := dT c10
     clear c10
     by_cases c11 : a1 ≤ a2
     ·rw [if_pos c11] at H
      have c11b0 := eq_true c11
      have c11b1 : decide (a1 ≤ a2) = true := dT c11
      clear c11
      by_cases c12 : a2 ≤ (a0.size : Int)
      ·rw [if_pos c12] at H
       have c12b0 := eq_true c12
       have c12b1 : decide (a2 ≤ (a0.size : Int)) = true := dT c12
       clear c12
       by_cases c13 : a3 < a1
       ·rw [if_pos c13] at H
        have c13b0 : decide (a3 < a1) = true := dT c13
        clear c13
        obtain ⟨y165, hy165⟩ : ∃ y_ : List (S61), y_ = (([(⟨a3, (⟨#[]⟩ : ByteArray), (⟨#[]⟩ : ByteArray)⟩ : S61), (⟨0, a0.extract (a1 : Int).toNat (a2 : Int).toNat, (⟨#[]⟩ : ByteArray)⟩ : S61), (⟨wrap64 (a1 - a3), (⟨#[]⟩ : ByteArray), (⟨#[]⟩ : ByteArray)⟩ : S61), (⟨0, (⟨#[]⟩ : ByteArray), a0.extract (a1 : Int).toNat (a2 : Int).toNat⟩ : S61), (⟨wrap64 ((a0.size : Int) - a2), (⟨#[]⟩ : ByteArray), (⟨#[]⟩ : ByteArray)⟩ : S61)] : List (S61))) := ⟨_, rfl⟩
        replace H : ((spec_l3Normal.f kj4 y165).bind fun t168 => (some (t168, true))) = some (r1, r2) := by first | (rw [hy165]; with_reducible exact H) | (have H2_ := (Option.bind_some _ _).symm.trans H; rw [hy165]; with_reducible exact H2_) | (have H2_ := (Option.bind_some _ _).symm.trans H; with_reducible exact H2_) | with_reducible exact H | (rw [hy165]; exact H) | exact H
        have Ny165 := aM hy165
        clear hy165
        replace H := oB H
        obtain ⟨t168, A140, H⟩ := H
        try dsimp only at H
        have A14 := aM A140
        clear A140
        simp only [Option.some.injEq, Prod.mk.injEq] at H
        obtain ⟨rfl, rfl⟩ := H
        go_wp2_with (first | ((with_reducible refine gate_dst (N := 44) rfl ?_); refine Kd.R_lit k61 _ 61 ?hg (N := 44) ?hd (xs := ([(⟨a3, (⟨#[]⟩ : ByteArray), (⟨#[]⟩ : ByteArray)⟩ : S61), (⟨0, a0.extract (a1 : Int).toNat (a2 : Int).toNat, (⟨#[]⟩ : ByteArray)⟩ : S61), (⟨wrap64 (a1 - a3), (⟨#[]⟩ : ByteArray), (⟨#[]⟩ : ByteArray)⟩ : S61), (⟨0, (⟨#[]⟩ : ByteArray), a0.extract (a1 : Int).toNat (a2 : Int).toNat⟩ : S61), (⟨wrap64 ((a0.size : Int) - a2), (⟨#[]⟩ : ByteArray), (⟨#[]⟩ : ByteArray)⟩ : S61)] : List (S61))) (inner := [.int .i64 a3, .string (⟨#[]⟩ : ByteArray), .string (⟨#[]⟩ : ByteArray), .int .i64 0, .string (a0.extract (a1 : Int).toNat (a2 : Int).toNat), .string (⟨#[]⟩ : ByteArray), .int .i64 (wrap64 (a1 - a3)), .string (⟨#[]⟩ : ByteArray), .string (⟨#[]⟩ : ByteArray), .int .i64 0, .string (⟨#[]⟩ : ByteArray), .string (a0.extract (a1 : Int).toNat (a2 : Int).toNat), .int .i64 (wrap64 ((a0.size : Int) - a2)), .string (⟨#[]⟩ : ByteArray), .string (⟨#[]⟩ : ByteArray)]) (ok := fun _ => True) (okp := fun _ => True) ?hr ?hp (fun _ hk => hk) trivial (Below.refl _ _) (Nat.le_refl _) (by simp) ?_; (case hd => rfl); (case hg => rfl); (case hr => first | (go_simp; done) | (go_simp; rfl)); (case hp => exact (Reps.c3 (show Kd.M k61 _ _ _ (⟨a3, (⟨#[]⟩ : ByteArray), (⟨#[]⟩ : ByteArray)⟩ : S61) [.int .i64 a3, .string (⟨#[]⟩ : ByteArray), .string (⟨#[]⟩ : ByteArray)] from (k61_mkM _ _ _ (⟨a3, (⟨#[]⟩ : ByteArray), (⟨#[]⟩ : ByteArray)⟩ : S61) )) (Reps.c3 (show Kd.M k61 _ _ _ (⟨0, a0.extract (a1 : Int).toNat (a2 : Int).toNat, (⟨#[]⟩ : ByteArray)⟩ : S61) [.int .i64 0, .string (a0.extract (a1 : Int).toNat (a2 : Int).toNat), .string (⟨#[]⟩ : ByteArray)] from (k61_mkM _ _ _ (⟨0, a0.extract (a1 : Int).toNat (a2 : Int).toNat, (⟨#[]⟩ : ByteArray)⟩ : S61) )) (Reps.c3 (show Kd.M k61 _ _ _ (⟨wrap64 (a1 - a3), (⟨#[]⟩ : ByteArray), (⟨#[]⟩ : ByteArray)⟩ : S61) [.int .i64 (wrap64 (a1 - a3)), .string (⟨#[]⟩ : ByteArray), .string (⟨#[]⟩ : ByteArray)] from (k61_mkM _ _ _ (⟨wrap64 (a1 - a3), (⟨#[]⟩ : ByteArray), (⟨#[]⟩ : ByteArray)⟩ : S61) )) (Reps.c3 (show Kd.M k61 _ _ _ (⟨0, (⟨#[]⟩ : ByteArray), a0.extract (a1 : Int).toNat (a2 : Int).toNat⟩ : S61) [.int .i64 0, .string (⟨#[]⟩ : ByteArray), .string (a0.extract (a1 : Int).toNat (a2 : Int).toNat)] from (k61_mkM _ _ _ (⟨0, (⟨#[]⟩ : ByteArray), a0.extract (a1 : Int).toNat (a2 : Int).toNat⟩ : S61) )) (Reps.c3 (show Kd.M k61 _ _ _ (⟨wrap64 ((a0.size : Int) - a2), (⟨#[]⟩ : ByteArray), (⟨#[]⟩ : ByteArray)⟩ : S61) [.int .i64 (wrap64 ((a0.size : Int) - a2)), .string (⟨#[]⟩ : ByteArray), .string (⟨#[]⟩ : ByteArray)] from (k61_mkM _ _ _ (⟨wrap64 ((a0.size : Int) - a2), (⟨#[]⟩ : ByteArray), (⟨#[]⟩ : ByteArray)⟩ : S61) )) (Reps.none _ _))))))); intro v166 w15 ho16 hb hg_ hnew_; clear hg_ hnew_; (first | rw [← Ny165.out] at ho16 | (simp only [Int.reduceToNat] at ho16; rw [← Ny165.out] at ho16)); have n0_ := aM (Kd.R_lower ho16 (below_size z11)); have n1_ := aM (below_step z11 hb); clear HB; have HO167 := n0_; have HB := n1_; clear n0_ n1_; clear hb ho16; obtain ⟨Ao17, co17, eo17⟩ := Kd.R_slice HO167.out; subst eo17) | ((with_reducible refine gate_callee (f := 74) rfl ?_); refine goesL_ (some 45) rfl rfl Try.func74 z0 rfl #[.slice Ao17 y165.length co17] rfl z12 ?_; (with_reducible refine (spec_l3Normal.calls kj4 _ _ y165 t168 _ ?side1 ?side2 A14.out).mono ?_); (case side1 => repeat (first | exact (Kd.R_reads' HO167.out).2.2 | (with_reducible refine Kd.C_alloc ?_ _) | (with_reducible refine Kd.C_drewN ?_ _) | (with_reducible refine Kd.C_drew ?_))); (case side2 => exact (Kd.R_reads' HO167.out).2.1); rintro e w18 ⟨v169, rfl, ho0, hb⟩; refine ⟨_, rfl, ?_⟩; have n0_ := aM (Kd.R_elder' (by (with_reducible repeat (first | apply Kd.R_alloc | apply Kd.R_drewN | apply Kd.R_drew)); exact HO167.out) (Kd.R_base ho0) hb); have n1_ := aM (Kd.R_lower (Kd.R_new' ho0 (Kd.R_lt (by (with_reducible repeat (first | apply Kd.R_alloc | apply Kd.R_drewN | apply Kd.R_drew)); exact HO167.out))) (below_size z11)); have n2_ := aM (below_step z11 hb); clear HO167; clear HB; have HO167 := n0_; have HO170 := n1_; have HB := n2_; clear n0_ n1_ n2_; (try clear hb); (try clear hb2); (try clear hk); (try clear hi); (try clear ho0)))
        go_ret2
        exact ⟨_, y3, by (with_reducible repeat (first | apply Kd.R_alloc | apply Kd.R_drewN | apply Kd.R_drew)); exact Kd.R_mono HO170.out (fun _ hk => trivial), y4⟩
       ·rw [if_neg c13] at H
        have c13b0 : decide (a3 < a1) = false := dF c13
        clear c13
        obtain ⟨y171, hy171⟩ : ∃ y_ : List (S61), y_ = (([(⟨a1, (⟨#[]⟩ : ByteArray), (⟨#[]⟩ : ByteArray)⟩ : S61), (⟨0, (⟨#[]⟩ : ByteArray), a0.extract (a1 : Int).toNat (a2 : Int).toNat⟩ : S61), (⟨wrap64 (a3 - a2), (⟨#[]⟩ : ByteArray), (⟨#[]⟩ : ByteArray)⟩ : S61), (⟨0, a0.extract (a1 : Int).toNat (a2 : Int).toNat, (⟨#[]⟩ : ByteArray)⟩ : S61), (⟨wrap64 ((a0.size : Int) - a3), (⟨#[]⟩ : ByteArray), (⟨#[]⟩ : ByteArray)⟩ : S61)] : List (S61))) := ⟨_, rfl⟩
        replace H : ((spec_l3Normal.f kj4 y171).bind fun t174 => (some (t174, true))) = some (r1, r2) := by first | (rw [hy171]; with_reducible exact H) | (have H2_ := (Option.bind_some _ _).symm.trans H; rw [hy171]; with_reducible exact H2_) | (have H2_ := (Option.bind_some _ _).symm.trans H; with_reducible exact H2_) | with_reducible exact H | (rw [hy171]; exact H) | exact H
        have Ny171 := aM hy171
        clear hy171
        replace H := oB H
        obtain ⟨t174, A190, H⟩ := H
        try dsimp only at H
        have A19 := aM A190
        clear A190
        simp only [Option.some.injEq, Prod.mk.injEq] at H
        obtain ⟨rfl, rfl⟩ := H
        go_wp2_with (first | ((with_reducible refine gate_dst (N := 61) rfl ?_); refine Kd.R_lit k61 _ 61 ?hg (N := 61) ?hd (xs := ([(⟨a1, (⟨#[]⟩ : ByteArray), (⟨#[]⟩ : ByteArray)⟩ : S61), (⟨0, (⟨#[]⟩ : ByteArray), a0.extract (a1 : Int).toNat (a2 : Int).toNat⟩ : S61), (⟨wrap64 (a3 - a2), (⟨#[]⟩ : ByteArray), (⟨#[]⟩ : ByteArray)⟩ : S61), (⟨0, a0.extract (a1 : Int).toNat (a2 : Int).toNat, (⟨#[]⟩ : ByteArray)⟩ : S61), (⟨wrap64 ((a0.size : Int) - a3), (⟨#[]⟩ : ByteArray), (⟨#[]⟩ : ByteArray)⟩ : S61)] : List (S61))) (inner := [.int .i64 a1, .string (⟨#[]⟩ : ByteArray), .string (⟨#[]⟩ : ByteArray), .int .i64 0, .string (⟨#[]⟩ : ByteArray), .string (a0.extract (a1 : Int).toNat (a2 : Int).toNat), .int .i64 (wrap64 (a3 - a2)), .string (⟨#[]⟩ : ByteArray), .string (⟨#[]⟩ : ByteArray), .int .i64 0, .string (a0.extract (a1 : Int).toNat (a2 : Int).toNat), .string (⟨#[]⟩ : ByteArray), .int .i64 (wrap64 ((a0.size : Int) - a3)), .string (⟨#[]⟩ : ByteArray), .string (⟨#[]⟩ : ByteArray)]) (ok := fun _ => True) (okp := fun _ => True) ?hr ?hp (fun _ hk => hk) trivial (Below.refl _ _) (Nat.le_refl _) (by simp) ?_; (case hd => rfl); (case hg => rfl); (case hr => first | (go_simp; done) | (go_simp; rfl)); (case hp => exact (Reps.c3 (show Kd.M k61 _ _ _ (⟨a1, (⟨#[]⟩ : ByteArray), (⟨#[]⟩ : ByteArray)⟩ : S61) [.int .i64 a1, .string (⟨#[]⟩ : ByteArray), .string (⟨#[]⟩ : ByteArray)] from (k61_mkM _ _ _ (⟨a1, (⟨#[]⟩ : ByteArray), (⟨#[]⟩ : ByteArray)⟩ : S61) )) (Reps.c3 (show Kd.M k61 _ _ _ (⟨0, (⟨#[]⟩ : ByteArray), a0.extract (a1 : Int).toNat (a2 : Int).toNat⟩ : S61) [.int .i64 0, .string (⟨#[]⟩ : ByteArray), .string (a0.extract (a1 : Int).toNat (a2 : Int).toNat)] from (k61_mkM _ _ _ (⟨0, (⟨#[]⟩ : ByteArray), a0.extract (a1 : Int).toNat (a2 : Int).toNat⟩ : S61) )) (Reps.c3 (show Kd.M k61 _ _ _ (⟨wrap64 (a3 - a2), (⟨#[]⟩ : ByteArray), (⟨#[]⟩ : ByteArray)⟩ : S61) [.int .i64 (wrap64 (a3 - a2)), .string (⟨#[]⟩ : ByteArray), .string (⟨#[]⟩ : ByteArray)] from (k61_mkM _ _ _ (⟨wrap64 (a3 - a2), (⟨#[]⟩ : ByteArray), (⟨#[]⟩ : ByteArray)⟩ : S61) )) (Reps.c3 (show Kd.M k61 _ _ _ (⟨0, a0.extract (a1 : Int).toNat (a2 : Int).toNat, (⟨#[]⟩ : ByteArray)⟩ : S61) [.int .i64 0, .string (a0.extract (a1 : Int).toNat (a2 : Int).toNat), .string (⟨#[]⟩ : ByteArray)] from (k61_mkM _ _ _ (⟨0, a0.extract (a1 : Int).toNat (a2 : Int).toNat, (⟨#[]⟩ : ByteArray)⟩ : S61) )) (Reps.c3 (show Kd.M k61 _ _ _ (⟨wrap64 ((a0.size : Int) - a3), (⟨#[]⟩ : ByteArray), (⟨#[]⟩ : ByteArray)⟩ : S61) [.int .i64 (wrap64 ((a0.size : Int) - a3)), .string (⟨#[]⟩ : ByteArray), .string (⟨#[]⟩ : ByteArray)] from (k61_mkM _ _ _ (⟨wrap64 ((a0.size : Int) - a3), (⟨#[]⟩ : ByteArray), (⟨#[]⟩ : ByteArray)⟩ : S61) )) (Reps.none _ _))))))); intro v172 w20 ho21 hb hg_ hnew_; clear hg_ hnew_; (first | rw [← Ny171.out] at ho21 | (simp only [Int.reduceToNat] at ho21; rw [← Ny171.out] at ho21)); have n0_ := aM (Kd.R_lower ho21 (below_size z11)); have n1_ := aM (below_step z11 hb); clear HB; have HO173 := n0_; have HB := n1_; clear n0_ n1_; clear hb ho21; obtain ⟨Ao22, co22, eo22⟩ := Kd.R_slice HO173.out; subst eo22) | ((with_reducible refine gate_callee (f := 74) rfl ?_); refine goesL_ (some 62) rfl rfl Try.func74 z0 rfl #[.slice Ao22 y171.length co22] rfl z12 ?_; (with_reducible refine (spec_l3Normal.calls kj4 _ _ y171 t174 _ ?side1 ?side2 A19.out).mono ?_); (case side1 => repeat (first | exact (Kd.R_reads' HO173.out).2.2 | (with_reducible refine Kd.C_alloc ?_ _) | (with_reducible refine Kd.C_drewN ?_ _) | (with_reducible refine Kd.C_drew ?_))); (case side2 => exact (Kd.R_reads' HO173.out).2.1); rintro e w23 ⟨v175, rfl, ho0, hb⟩; refine ⟨_, rfl, ?_⟩; have n0_ := aM (Kd.R_elder' (by (with_reducible repeat (first | apply Kd.R_alloc | apply Kd.R_drewN | apply Kd.R_drew)); exact HO173.out) (Kd.R_base ho0) hb); have n1_ := aM (Kd.R_lower (Kd.R_new' ho0 (Kd.R_lt (by (with_reducible repeat (first | apply Kd.R_alloc | apply Kd.R_drewN | apply Kd.R_drew)); exact HO173.out))) (below_size z11)); have n2_ := aM (below_step z11 hb); clear HO173; clear HB; have HO173 := n0_; have HO176 := n1_; have HB := n2_; clear n0_ n1_ n2_; (try clear hb); (try clear hb2); (try clear hk); (try clear hi); (try clear ho0)))
        go_ret2
        exact ⟨_, y3, by (with_reducible repeat (first | apply Kd.R_alloc | apply Kd.R_drewN | apply Kd.R_drew)); exact Kd.R_mono HO176.out (fun _ hk => trivial), y4⟩
      ·rw [if_neg c12] at H
       exact absurd H (by simp)
     ·rw [if_neg c11] at H
      exact absurd H (by simp)
    ·rw [if_neg c10] at H
     exact absurd H (by simp)

end Go.Proofs.Ytmigfgcpdelnfaa.AFnExactCompileCommand
