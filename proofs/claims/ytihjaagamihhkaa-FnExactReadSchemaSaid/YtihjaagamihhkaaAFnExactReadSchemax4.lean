-- this session's own text: written by wip/tools/ownprint.py over the kit's print
import Derived.Test.YtihjaagamihhkaaAFnExactReadSchemax0
import Derived.Test.YtihjaagamihhkaaAFnExactReadSchemax3
namespace Go.Proofs.Ytihjaagamihhkaa.AFnExactReadSchema
open Go.RowKit Go.Proofs.YtihjaagamihhkaaW.PrintWords Go.Proofs.YtihjaagamihhkaaW.PrintLast Go.Proofs.YtihjaagamihhkaaW.PrintMore
attribute [local go_sem] max2_int min2_int max_two min_two max_three min_three max_four min_four   -- for this text's walks alone
set_option linter.unusedVariables false
set_option linter.unusedSimpArgs false

/-! ### spec_ReadSchema: function 13 -/
mutual
def spec_ReadSchema.l0 : Nat → List (S38) → ByteArray → Option ((List (S38)) × Bool)
 | 0, _, _ => none
 | k + 1, x4, x5 => if x5.toList = ([] : List UInt8) then (spec_ReadSchema.j1 k x4 x5 false) else (spec_ReadSchema.j1 k x4 x5 (decide ((x4.length : Int) ≤ 7)))
def spec_ReadSchema.j1 : Nat → List (S38) → ByteArray → Bool → Option ((List (S38)) × Bool)
 | 0, _, _, _ => none
 | k + 1, x4, x5, x14 => if x14 = true then (spec_ReadSchema.l1 k x4 x5 0) else ((spec_GoodSchema.f k x4).bind fun cS => (if cS = true then (if x5.toList = ([] : List UInt8) then (some (x4, true)) else (some (([] : List (S38)), false))) else (some (([] : List (S38)), false))))
def spec_ReadSchema.l1 : Nat → List (S38) → ByteArray → Int → Option ((List (S38)) × Bool)
 | 0, _, _, _ => none
 | k + 1, x4, x5, x6 => if x6 < (x5.size : Int) then (if 0 ≤ x6 then (if (bt x5 x6) = 59 then (if x6 < 2 then (some (([] : List (S38)), false)) else (if x6 = (x5.size : Int) then (some (([] : List (S38)), false)) else (if 1 < (x5.size : Int) then (if (bt x5 1) = 61 then (if 0 ≤ 1 then (if 1 ≤ (x5.size : Int) then (if 2 ≤ x6 then (if x6 ≤ (x5.size : Int) then (if x4.length < 4398046511104 then (if 0 ≤ (wrap64 (x6 + 1)) then (if (wrap64 (x6 + 1)) ≤ (x5.size : Int) then (spec_ReadSchema.l0 k (x4 ++ [(⟨x5.extract 0 1, x5.extract 2 (x6 : Int).toNat⟩ : S38)]) (x5.extract ((wrap64 (x6 + 1)) : Int).toNat x5.size)) else (none)) else (none)) else (none)) else (none)) else (none)) else (none)) else (none)) else (some (([] : List (S38)), false))) else (none)))) else (spec_ReadSchema.l1 k x4 x5 (wrap64 (x6 + 1)))) else (none)) else (if x6 < 2 then (some (([] : List (S38)), false)) else (if x6 = (x5.size : Int) then (some (([] : List (S38)), false)) else (if 1 < (x5.size : Int) then (if (bt x5 1) = 61 then (if 0 ≤ 1 then (if 1 ≤ (x5.size : Int) then (if 2 ≤ x6 then (if x6 ≤ (x5.size : Int) then (if x4.length < 4398046511104 then (if 0 ≤ (wrap64 (x6 + 1)) then (if (wrap64 (x6 + 1)) ≤ (x5.size : Int) then (spec_ReadSchema.l0 k (x4 ++ [(⟨x5.extract 0 1, x5.extract 2 (x6 : Int).toNat⟩ : S38)]) (x5.extract ((wrap64 (x6 + 1)) : Int).toNat x5.size)) else (none)) else (none)) else (none)) else (none)) else (none)) else (none)) else (none)) else (some (([] : List (S38)), false))) else (none))))
end
def spec_ReadSchema.f (k : Nat) (a0 : ByteArray) : Option ((List (S38)) × Bool) := spec_ReadSchema.l0 k ([] : List (S38)) a0
theorem spec_ReadSchema.mono_l : ∀ k, (∀ y0 y1, LeO (spec_ReadSchema.l0 k y0 y1) (spec_ReadSchema.l0 (k + 1) y0 y1)) ∧ (∀ y0 y1 y2, LeO (spec_ReadSchema.j1 k y0 y1 y2) (spec_ReadSchema.j1 (k + 1) y0 y1 y2)) ∧ (∀ y0 y1 y2, LeO (spec_ReadSchema.l1 k y0 y1 y2) (spec_ReadSchema.l1 (k + 1) y0 y1 y2))
 | 0 => ⟨fun _ _ r h => by simp [spec_ReadSchema.l0] at h, fun _ _ _ r h => by simp [spec_ReadSchema.j1] at h, fun _ _ _ r h => by simp [spec_ReadSchema.l1] at h⟩
 | k + 1 => by
  obtain ⟨ih0, ih1, ih2⟩ := spec_ReadSchema.mono_l k
  refine ⟨?_, ?_, ?_⟩
  ·intro y0 y1
   unfold spec_ReadSchema.l0
   repeat' first
   | (with_reducible exact ih0 _ _)
   | (with_reducible exact ih1 _ _ _)
   | (with_reducible exact ih2 _ _ _)
   | (with_reducible exact spec_GoodSchema.mono _ _)
   | (with_reducible exact LeO.refl _)
   | (with_reducible exact LeO.none _)
   | (with_reducible refine LeO.ite ?_ ?_)
   | (with_reducible refine LeO.bind ?_ (fun _ => ?_))
   | exact ih0 _ _
   | exact ih1 _ _ _
   | exact ih2 _ _ _
   | exact spec_GoodSchema.mono _ _
   | exact LeO.none _
   | refine LeO.ite ?_ ?_
   | refine LeO.bind ?_ (fun _ => ?_)
  ·intro y0 y1 y2
   unfold spec_ReadSchema.j1
   repeat' first
   | (with_reducible exact ih0 _ _)
   | (with_reducible exact ih1 _ _ _)
   | (with_reducible exact ih2 _ _ _)
   | (with_reducible exact spec_GoodSchema.mono _ _)
   | (with_reducible exact LeO.refl _)
   | (with_reducible exact LeO.none _)
   | (with_reducible refine LeO.ite ?_ ?_)
   | (with_reducible refine LeO.bind ?_ (fun _ => ?_))
   | exact ih0 _ _
   | exact ih1 _ _ _
   | exact ih2 _ _ _
   | exact spec_GoodSchema.mono _ _
   | exact LeO.none _
   | refine LeO.ite ?_ ?_
   | refine LeO.bind ?_ (fun _ => ?_)
  ·intro y0 y1 y2
   unfold spec_ReadSchema.l1
   repeat' first
   | (with_reducible exact ih0 _ _)
   | (with_reducible exact ih1 _ _ _)
   | (with_reducible exact ih2 _ _ _)
   | (with_reducible exact spec_GoodSchema.mono _ _)
   | (with_reducible exact LeO.refl _)
   | (with_reducible exact LeO.none _)
   | (with_reducible refine LeO.ite ?_ ?_)
   | (with_reducible refine LeO.bind ?_ (fun _ => ?_))
   | exact ih0 _ _
   | exact ih1 _ _ _
   | exact ih2 _ _ _
   | exact spec_GoodSchema.mono _ _
   | exact LeO.none _
   | refine LeO.ite ?_ ?_
   | refine LeO.bind ?_ (fun _ => ?_)
theorem spec_ReadSchema.mono : ∀ a0 k, LeO (spec_ReadSchema.f k a0) (spec_ReadSchema.f (k + 1) a0) := by
 intro a0 k
 obtain ⟨ih0, ih1, ih2⟩ := spec_ReadSchema.mono_l k
 unfold spec_ReadSchema.f
 repeat' first
   | (with_reducible exact ih0 _ _)
   | (with_reducible exact ih1 _ _ _)
   | (with_reducible exact ih2 _ _ _)
   | (with_reducible exact spec_GoodSchema.mono _ _)
   | (with_reducible exact LeO.refl _)
   | (with_reducible exact LeO.none _)
   | (with_reducible refine LeO.ite ?_ ?_)
   | (with_reducible refine LeO.bind ?_ (fun _ => ?_))
   | exact ih0 _ _
   | exact ih1 _ _ _
   | exact ih2 _ _ _
   | exact spec_GoodSchema.mono _ _
   | exact LeO.none _
   | refine LeO.ite ?_ ?_
   | refine LeO.bind ?_ (fun _ => ?_)
def spec_ReadSchema.T9 : Bool × List (List Nat × List Nat) := (true, [([], []), ([], []), ([1], [1]), ([], []), ([], []), ([3, 4], [3, 4]), ([2, 5], [2, 5]), ([6], [6]), ([0, 7], [0, 7]), ([8, 8, 0, 1, 2, 3, 4, 5, 6, 7, 8], [0, 8])])
def spec_ReadSchema.B9 : List Nat := [0, 0, 2, 0, 0, 24, 62, 126, 255, 511]
theorem spec_ReadSchema.tab9 : rtab .any (opsOf Try.f13 9) = spec_ReadSchema.T9 := by kernel_rfl
theorem spec_ReadSchema.bits9 : waitsOk spec_ReadSchema.T9.2 spec_ReadSchema.B9 = true := by kernel_rfl
set_option maxHeartbeats 8000000 in
set_option maxRecDepth 100000 in
theorem spec_ReadSchema.calls (k : Nat) (a0 : ByteArray) (r1 : List (S38)) (r2 : Bool) (w : World) (h : spec_ReadSchema.f k a0 = some (r1, r2)) :
  Calls Try.prog 13 #[.string a0] w fun e w' => ∃ v0_ : Value, e = .returned (.tuple #[v0_, .bool r2]) ∧ Kd.R k38 38 w' w.heap.size (fun _ => True) v0_ r1 ∧ Below w.heap.size w w' := by
 have hu38 := Try.underlying38
 have HB := aM (Below.refl w.heap.size w)
 have H : (spec_ReadSchema.l0 k ([] : List (S38)) a0) = some (r1, r2) := h
 clear h
 have H' := aM H
 clear H
 go_enter Try.func13, Try.ntmps13
 go_wp2
 go_loopg [4, 5] k (fun kq v4 v5 w' => ∃ (x4_1 : List (S38)) (x5_1 : ByteArray), v5 = .string x5_1 ∧ Aside0 (spec_ReadSchema.l0 kq x4_1 x5_1 = some (r1, r2)) ∧ Aside0 (kq ≤ k) ∧ Aside0 (Kd.R k38 38 w' w.heap.size (fun _ => True) v4 x4_1) ∧ Aside0 (Below w.heap.size w w'))
 case atStart => exact ⟨(([] : List (S38))), (a0), z1, H', ⟨Nat.le_refl _⟩, ⟨y8⟩, ⟨y3⟩⟩
 case round =>
  clear H'
  try clear c1
  obtain ⟨x4_1, x5_1, rfl, HA, HK1, aH, HB⟩ := hrel
  cases gk with
  | zero => exact absurd HA.out (by simp [spec_ReadSchema.l0])
  | succ k1 =>
   have H := HA.out
   clear HA
   simp only [spec_ReadSchema.l0] at H
   have bT := aM H
   clear H
   go_upto_region 3 with (fail)
   go_cut [14] (fun v14 wc => ∃ (kq : Nat) (x14_1 : Bool), v14 = .bool x14_1 ∧ Aside0 (spec_ReadSchema.j1 kq x4_1 x5_1 x14_1 = some (r1, r2)) ∧ Aside0 (kq ≤ k1) ∧ Aside0 (Kd.R k38 38 wc w.heap.size (fun _ => True) u4 x4_1) ∧ Aside0 (Below w.heap.size w wc))
   case first =>
    have H := bT.out
    clear bT
    by_cases c3 : x5_1.toList = ([] : List UInt8)
    ·rw [if_pos c3] at H
     have c3b0 : (x5_1.toList == ([] : List UInt8)) = true := qT c3
     have c3b1 : (x5_1.toList != ([] : List UInt8)) = false := nF c3
     clear c3
     (first | rw [c3b0] | (simp only [i64_w, i32_w]; rw [c3b0]) | skip)
     have H' := aM H
     clear H
     go_wp2
     all_goals (try (exfalso; rename_i h_; rw [c3b0] at h_; cases h_; done))
     go_meet
     case rel => exact ⟨_, (false), z1, H', ⟨by have := HK1.out; first | omega | exact Nat.le_refl _⟩, ⟨y4⟩, ⟨y3⟩⟩
    ·rw [if_neg c3] at H
     have c3b0 : (x5_1.toList == ([] : List UInt8)) = false := qF c3
     have c3b1 : (x5_1.toList != ([] : List UInt8)) = true := nT c3
     (first | rw [c3b0] | (simp only [i64_w, i32_w]; rw [c3b0]) | skip)
     have H' := aM H
     clear H
     obtain ⟨Ao4, co4, eo4⟩ := Kd.R_slice aH.out
     subst eo4
     go_wp2
     all_goals (try (exfalso; rename_i h_; rw [c3b0] at h_; cases h_; done))
     go_meet
     case rel => exact ⟨_, (decide ((x4_1.length : Int) ≤ 7)), z1, H', ⟨by have := HK1.out; first | omega | exact Nat.le_refl _⟩, ⟨y4⟩, ⟨y3⟩⟩
   case rest =>
    clear bT
    try clear c1
    try clear p2
    try clear c3
    try clear c3b0
    try clear c3b1
    obtain ⟨kq, x14_1, rfl, HA, db, aH, HB⟩ := hcut
    cases kq with
    | zero => exact absurd HA.out (by simp [spec_ReadSchema.j1])
    | succ kj1 =>
     have H := HA.out
     clear HA
     simp only [spec_ReadSchema.j1] at H
     by_cases c5 : x14_1 = true
     ·subst c5
      rw [if_pos rfl] at H
      have H' := aM H
      clear H
      go_wp2
      go_loopg [6] kj1 (fun kq v6 w' => ∃ (x6_3 : Int), v6 = .int .i64 x6_3 ∧ Aside0 (spec_ReadSchema.l1 kq x4_1 x5_1 x6_3 = some (r1, r2)) ∧ Aside0 (kq ≤ kj1) ∧ Aside0 (Kd.R k38 38 w' w.heap.size (fun _ => True) u4 x4_1) ∧ Aside0 (Below w.heap.size w w'))
      case atStart => exact ⟨(0), z1, H', ⟨Nat.le_refl _⟩, ⟨y4⟩, ⟨y3⟩⟩
      case round =>
       clear H'
       try clear c1
       try clear p2
       try clear c3
       try clear c3b0
       try clear c3b1
       try clear c5
       try clear p2
       obtain ⟨x6_3, rfl, HA, HK3, aH, HB⟩ := hrel
       cases gk with
       | zero => exact absurd HA.out (by simp [spec_ReadSchema.l1])
       | succ k3 =>
        have H := HA.out
        clear HA
        simp only [spec_ReadSchema.l1] at H
        by_cases c6 : x6_3 < (x5_1.size : Int)
        ·rw [if_pos c6] at H
         have c6b0 : decide (x6_3 < (x5_1.size : Int)) = true := dT c6
         clear c6
         by_cases c7 : 0 ≤ x6_3
         ·rw [if_pos c7] at H
          have c7b0 : decide (0 ≤ x6_3) = true := dT c7
          clear c7
          by_cases c9 : (bt x5_1 x6_3) = 59
          ·rw [if_pos c9] at H
           have c9b0 : ((bt x5_1 x6_3) == 59) = true := qT c9
           have c9b1 : ((bt x5_1 x6_3) != 59) = false := nF c9
           clear c9
           by_cases bK : x6_3 < 2
           ·rw [if_pos bK] at H
            have c10b0 : decide (x6_3 < 2) = true := dT bK
            clear bK
            simp only [Option.some.injEq, Prod.mk.injEq] at H
            obtain ⟨rfl, rfl⟩ := H
            have p8 : 0 ≤ (x6_3 : Int) := oD z2
            have q8 : x6_3 < (x5_1.size : Int) := oD z2
            have hx8 := bt_at x5_1 x6_3
            replace p8 := eq_true p8
            replace q8 := eq_true q8
            go_wp2
            go_ret2
            exact ⟨_, y2, y8, y3⟩
           ·rw [if_neg bK] at H
            have c10b0 : decide (x6_3 < 2) = false := dF bK
            clear bK
            by_cases bj : x6_3 = (x5_1.size : Int)
            ·rw [if_pos bj] at H
             have c11b0 : (x6_3 == (x5_1.size : Int)) = true := qT bj
             have c11b1 : (x6_3 != (x5_1.size : Int)) = false := nF bj
             clear bj
             simp only [Option.some.injEq, Prod.mk.injEq] at H
             obtain ⟨rfl, rfl⟩ := H
             have p8 : 0 ≤ (x6_3 : Int) := oD z2
             have q8 : x6_3 < (x5_1.size : Int) := oD z2
             have hx8 := bt_at x5_1 x6_3
             replace p8 := eq_true p8
             replace q8 := eq_true q8
             go_wp2
             go_ret2
             exact ⟨_, y2, y8, y3⟩
            ·rw [if_neg bj] at H
             have c11b0 : (x6_3 == (x5_1.size : Int)) = false := qF bj
             have c11b1 : (x6_3 != (x5_1.size : Int)) = true := nT bj
             by_cases bq : 1 < (x5_1.size : Int)
             ·rw [if_pos bq] at H
              have c12b0 : decide (1 < (x5_1.size : Int)) = true := dT bq
              have c12b1 : decide (1 < x5_1.size) = true := dT (by omega)
              clear bq
              by_cases b9 : (bt x5_1 1) = 61
              ·rw [if_pos b9] at H
               have c14b0 : ((bt x5_1 1) == 61) = true := qT b9
               have c14b1 : ((bt x5_1 1) != 61) = false := nF b9
               clear b9
               by_cases cq : 0 ≤ 1
               ·rw [if_pos cq] at H
                have c15b0 := eq_true cq
                have c15b1 : decide (0 ≤ 1) = true := dT cq
                clear cq
                by_cases cp : 1 ≤ (x5_1.size : Int)
                ·rw [if_pos cp] at H
                 have c16b0 := eq_true cp
                 have c16b1 : decide (1 ≤ (x5_1.size : Int)) = true := dT cp
                 clear cp
                 by_cases cA : 2 ≤ x6_3
                 ·rw [if_pos cA] at H
                  have c17b0 := eq_true cA
                  have c17b1 : decide (2 ≤ x6_3) = true := dT cA
                  clear cA
                  by_cases cz : x6_3 ≤ (x5_1.size : Int)
                  ·rw [if_pos cz] at H
                   have c18b0 := eq_true cz
                   have c18b1 : decide (x6_3 ≤ (x5_1.size : Int)) = true := dT cz
                   clear cz
                   by_cases cd : x4_1.length < 4398046511104
                   ·rw [if_pos cd] at H
                    have LMc19 := aM cd
                    clear cd
                    obtain ⟨y138, hy138⟩ : ∃ y_ : List (S38), y_ = (x4_1 ++ [(⟨x5_1.extract 0 1, x5_1.extract 2 (x6_3 : Int).toNat⟩ : S38)]) := ⟨_, rfl⟩
                    replace H : (if 0 ≤ (wrap64 (x6_3 + 1)) then (if (wrap64 (x6_3 + 1)) ≤ (x5_1.size : Int) then (spec_ReadSchema.l0 k3 y138 (x5_1.extract ((wrap64 (x6_3 + 1)) : Int).toNat x5_1.size)) else (none)) else (none)) = some (r1, r2) := by first | (rw [hy138]; with_reducible exact H) | (have H2_ := (Option.bind_some _ _).symm.trans H; rw [hy138]; with_reducible exact H2_) | (have H2_ := (Option.bind_some _ _).symm.trans H; with_reducible exact H2_) | with_reducible exact H | (rw [hy138]; exact H) | exact H
                    have Ny138 := aM hy138
                    clear hy138
                    obtain ⟨bR, bN⟩ : ∃ j_ : Int, (wrap64 (x6_3 + 1)) = j_ := ⟨_, rfl⟩
                    replace H : (if 0 ≤ (bR) then (if (bR) ≤ (x5_1.size : Int) then (spec_ReadSchema.l0 k3 y138 (x5_1.extract ((bR) : Int).toNat x5_1.size)) else (none)) else (none)) = some (r1, r2) := by first | (rw [bN] at H; exact H) | (simp only [bN] at H ⊢; exact H)
                    have hji20w : (IntKind.i64.wrap (x6_3 + 1)) = bR := (i64_w _).trans bN
                    by_cases dn : 0 ≤ (bR)
                    ·rw [if_pos dn] at H
                     have c21b0 := eq_true dn
                     have c21b1 : decide (0 ≤ (bR)) = true := dT dn
                     clear dn
                     by_cases co : (bR) ≤ (x5_1.size : Int)
                     ·rw [if_pos co] at H
                      have c22b0 := eq_true co
                      have c22b1 : decide ((bR) ≤ (x5_1.size : Int)) = true := dT co
                      clear co
                      have H' := aM H
                      clear H
                      have p8 : 0 ≤ (x6_3 : Int) := oD z2
                      have q8 : x6_3 < (x5_1.size : Int) := oD z2
                      have hx8 := bt_at x5_1 x6_3
                      replace p8 := eq_true p8
                      replace q8 := eq_true q8
                      have p13 : 0 ≤ (1 : Int) := (by omega)
                      have q13 : 1 < x5_1.size := (by have : (1 : Int) < (x5_1.size : Int) := oD z2; omega)
                      have hx13 : ∀ h : 1 < x5_1.size, ((x5_1[1]'h).toNat : Int) = bt x5_1 1 := bt_at x5_1 1
                      clear p13
                      have qi13 : (1 < (x5_1.size : Int)) = True := eq_true (oD z2)
                      replace q13 := eq_true q13
                      try go_wp2
                      have aA := aM (aa aH.out)
                      have aC := aM (bD HB.out)
                      clear aH
                      clear HB
                      have aH := aA
                      have HB := aC
                      clear aA aC
                      refine start_ (n := 10) (S := fun w' => True) (ds := []) #[false, false, false, false, false, false, false, false, false, false] z0 rfl rfl trivial (fun hHeld => ?_); refine with_tabW spec_ReadSchema.tab9 spec_ReadSchema.bits9 (fun HT_ HW_ => ?_)
                      generalize wr.drew = w23 at aH HB hHeld ⊢
                      refine pA 0 40 ?_
                      refine pA 1 41 ?_
                      refine pA 2 42 ?_
                      refine pA 3 43 ?_
                      refine pA 4 44 ?_
                      refine pA 5 45 ?_
                      refine pA 6 46 ?_
                      refine one_ (i := 7) (N := some 47) #[true, true, true, true, true, true, true, true, false, false] rfl rfl (one_of HT_.out z0) (by decide) (fun K hK => ?_)
                      refine value_ (w1 := ?_) (v := ?_) (by rfl) rfl ?_ ?_
                      rotate_left 2
                      ·go_simp
                       constructor
                       ·rfl
                       ·rfl
                      refine hK.out _ _ trivial (fun hHeld => ?_)
                      clear hK K
                      refine norm_ (a' := ?_) ?_ ?_
                      rotate_left
                      ·show Act.put _ (some 47) _ = _
                       simp only [Act.put, sA, sB, sC, i64_w, i32_w]
                       rfl
                      refine one_ (i := 8) (N := some 48) #[true, true, true, true, true, true, true, true, true, false] rfl rfl (one_of HT_.out z0) (by decide) (fun K hK => ?_)
                      refine Kd.R_append_step k38 (w0 := w) w.heap.size (by rfl) (.tmp 40) (.tmp 47) 25 38 (.agg #[(.string ⟨#[]⟩), (.string ⟨#[]⟩)]) 32 rfl Try.underlying25 info38 rfl (by decide) (by omega) u4 x4_1 (⟨x5_1.extract 0 1, x5_1.extract 2 (x6_3 : Int).toNat⟩ : S38) [.string (x5_1.extract 0 1), .string (x5_1.extract 2 (x6_3 : Int).toNat)] (fun _ => True) (fun _ => False) rfl rfl ?aP (fun _ hk => hk.elim) ?aF ?aO ?aB ?aS ?aL ?_
                      (case aP => exact k38_mkM _ _ _ (⟨x5_1.extract 0 1, x5_1.extract 2 (x6_3 : Int).toNat⟩ : S38))
                      (case aB => exact z6)
                      (case aF => exact (fun _ _ => trivial))
                      (case aO => exact (by (with_reducible repeat (first | apply ac | apply ab | apply aa)); exact aH.out))
                      (case aS => exact (am z6))
                      (case aL => have := LMc19.out; omega)
                      intro v139 w24 ho hb hg hat
                      rw [← Ny138.out] at ho
                      have aA := aM (hb)
                      have aC := aM (ho)
                      clear HB
                      clear aH
                      have HB := aA
                      have HO140 := aC
                      clear aA aC
                      clear ho hb hg hat
                      refine hK.out _ _ trivial (fun hHeld => ?_)
                      clear hK K
                      refine norm_ (a' := ?_) ?_ ?_
                      rotate_left
                      ·show Act.put _ (some 48) _ = _
                       simp only [Act.put, sA, sB, sC, i64_w, i32_w]
                       rfl
                      refine pA 9 4 ?_
                      refine done_ (done_of HT_.out z0) ?_
                      try go_wp2
                      go_roundg k3
                      case measure => have := HK1.out; have := db.out; have := HK3.out; omega
                      case rel => exact ⟨(y138), (x5_1.extract ((bR) : Int).toNat x5_1.size), (by first | rfl | (simp; done) | (simp only [← bN] <;> (first | rfl | (simp; done) | (simp; generalize ByteArray.toList _ = u_; cases u_ <;> (first | rfl | (simp; done))))) | (simp [*]; done)), (by first | exact H' | (simp only [bN]; exact H') | (simp only [← bN]; exact H')), ⟨by have := HK1.out; have := db.out; have := HK3.out; omega⟩, ⟨by (with_reducible repeat (first | apply ac | apply ab | apply aa)); exact HO140.out⟩, ⟨y3⟩⟩
                     ·rw [if_neg co] at H
                      exact absurd H (by simp)
                    ·rw [if_neg dn] at H
                     exact absurd H (by simp)
                   ·rw [if_neg cd] at H
                    exact absurd H (by simp)
                  ·rw [if_neg cz] at H
                   exact absurd H (by simp)
                 ·rw [if_neg cA] at H
                  exact absurd H (by simp)
                ·rw [if_neg cp] at H
                 exact absurd H (by simp)
               ·exact absurd (by decide) cq
              ·rw [if_neg b9] at H
               have c14b0 : ((bt x5_1 1) == 61) = false := qF b9
               have c14b1 : ((bt x5_1 1) != 61) = true := nT b9
               simp only [Option.some.injEq, Prod.mk.injEq] at H
               obtain ⟨rfl, rfl⟩ := H
               have p8 : 0 ≤ (x6_3 : Int) := oD z2
               have q8 : x6_3 < (x5_1.size : Int) := oD z2
               have hx8 := bt_at x5_1 x6_3
               replace p8 := eq_true p8
               replace q8 := eq_true q8
               have p13 : 0 ≤ (1 : Int) := (by omega)
               have q13 : 1 < x5_1.size := (by have : (1 : Int) < (x5_1.size : Int) := oD z2; omega)
               have hx13 : ∀ h : 1 < x5_1.size, ((x5_1[1]'h).toNat : Int) = bt x5_1 1 := bt_at x5_1 1
               clear p13
               have qi13 : (1 < (x5_1.size : Int)) = True := eq_true (oD z2)
               replace q13 := eq_true q13
               go_wp2
               go_ret2
               exact ⟨_, y2, y8, y3⟩
             ·rw [if_neg bq] at H
              exact absurd H (by simp)
          ·rw [if_neg c9] at H
           have c9b0 : ((bt x5_1 x6_3) == 59) = false := qF c9
           have c9b1 : ((bt x5_1 x6_3) != 59) = true := nT c9
           have H' := aM H
           clear H
           have p8 : 0 ≤ (x6_3 : Int) := oD z2
           have q8 : x6_3 < (x5_1.size : Int) := oD z2
           have hx8 := bt_at x5_1 x6_3
           replace p8 := eq_true p8
           replace q8 := eq_true q8
           go_wp2
           go_roundg k3
           case measure => have := HK1.out; have := db.out; have := HK3.out; omega
           case rel => exact ⟨(wrap64 (x6_3 + 1)), z1, H', ⟨by have := HK1.out; have := db.out; have := HK3.out; omega⟩, ⟨y4⟩, ⟨y3⟩⟩
         ·rw [if_neg c7] at H
          exact absurd H (by simp)
        ·rw [if_neg c6] at H
         have c6b0 : decide (x6_3 < (x5_1.size : Int)) = false := dF c6
         clear c6
         by_cases b8 : x6_3 < 2
         ·rw [if_pos b8] at H
          have c25b0 : decide (x6_3 < 2) = true := dT b8
          clear b8
          simp only [Option.some.injEq, Prod.mk.injEq] at H
          obtain ⟨rfl, rfl⟩ := H
          go_wp2
          go_ret2
          exact ⟨_, y2, y8, y3⟩
         ·rw [if_neg b8] at H
          have c25b0 : decide (x6_3 < 2) = false := dF b8
          clear b8
          by_cases cY : x6_3 = (x5_1.size : Int)
          ·rw [if_pos cY] at H
           have c26b0 : (x6_3 == (x5_1.size : Int)) = true := qT cY
           have c26b1 : (x6_3 != (x5_1.size : Int)) = false := nF cY
           clear cY
           simp only [Option.some.injEq, Prod.mk.injEq] at H
           obtain ⟨rfl, rfl⟩ := H
           go_wp2
           go_ret2
           exact ⟨_, y2, y8, y3⟩
          ·rw [if_neg cY] at H
           have c26b0 : (x6_3 == (x5_1.size : Int)) = false := qF cY
           have c26b1 : (x6_3 != (x5_1.size : Int)) = true := nT cY
           by_cases dK : 1 < (x5_1.size : Int)
           ·rw [if_pos dK] at H
            have c27b0 : decide (1 < (x5_1.size : Int)) = true := dT dK
            have c27b1 : decide (1 < x5_1.size) = true := dT (by omega)
            clear dK
            by_cases cX : (bt x5_1 1) = 61
            ·rw [if_pos cX] at H
             have c29b0 : ((bt x5_1 1) == 61) = true := qT cX
             have c29b1 : ((bt x5_1 1) != 61) = false := nF cX
             clear cX
             by_cases dm : 0 ≤ 1
             ·rw [if_pos dm] at H
              have c30b0 := eq_true dm
              have c30b1 : decide (0 ≤ 1) = true := dT dm
              clear dm
              by_cases cn : 1 ≤ (x5_1.size : Int)
              ·rw [if_pos cn] at H
               have c31b0 := eq_true cn
               have c31b1 : decide (1 ≤ (x5_1.size : Int)) = true := dT cn
               clear cn
               by_cases dl : 2 ≤ x6_3
               ·rw [if_pos dl] at H
                have c32b0 := eq_true dl
                have c32b1 : decide (2 ≤ x6_3) = true := dT dl
                clear dl
                by_cases dk : x6_3 ≤ (x5_1.size : Int)
                ·rw [if_pos dk] at H
                 have c33b0 := eq_true dk
                 have c33b1 : decide (x6_3 ≤ (x5_1.size : Int)) = true := dT dk
                 clear dk
                 by_cases cC : x4_1.length < 4398046511104
                 ·rw [if_pos cC] at H
                  have LMc34 := aM cC
                  clear cC
                  obtain ⟨y141, hy141⟩ : ∃ y_ : List (S38), y_ = (x4_1 ++ [(⟨x5_1.extract 0 1, x5_1.extract 2 (x6_3 : Int).toNat⟩ : S38)]) := ⟨_, rfl⟩
                  replace H : (if 0 ≤ (wrap64 (x6_3 + 1)) then (if (wrap64 (x6_3 + 1)) ≤ (x5_1.size : Int) then (spec_ReadSchema.l0 k3 y141 (x5_1.extract ((wrap64 (x6_3 + 1)) : Int).toNat x5_1.size)) else (none)) else (none)) = some (r1, r2) := by first | (rw [hy141]; with_reducible exact H) | (have H2_ := (Option.bind_some _ _).symm.trans H; rw [hy141]; with_reducible exact H2_) | (have H2_ := (Option.bind_some _ _).symm.trans H; with_reducible exact H2_) | with_reducible exact H | (rw [hy141]; exact H) | exact H
                  have Ny141 := aM hy141
                  clear hy141
                  obtain ⟨bQ, bL⟩ : ∃ j_ : Int, (wrap64 (x6_3 + 1)) = j_ := ⟨_, rfl⟩
                  replace H : (if 0 ≤ (bQ) then (if (bQ) ≤ (x5_1.size : Int) then (spec_ReadSchema.l0 k3 y141 (x5_1.extract ((bQ) : Int).toNat x5_1.size)) else (none)) else (none)) = some (r1, r2) := by first | (rw [bL] at H; exact H) | (simp only [bL] at H ⊢; exact H)
                  have hji35w : (IntKind.i64.wrap (x6_3 + 1)) = bQ := (i64_w _).trans bL
                  by_cases cy : 0 ≤ (bQ)
                  ·rw [if_pos cy] at H
                   have c36b0 := eq_true cy
                   have c36b1 : decide (0 ≤ (bQ)) = true := dT cy
                   clear cy
                   by_cases bY : (bQ) ≤ (x5_1.size : Int)
                   ·rw [if_pos bY] at H
                    have c37b0 := eq_true bY
                    have c37b1 : decide ((bQ) ≤ (x5_1.size : Int)) = true := dT bY
                    clear bY
                    have H' := aM H
                    clear H
                    have p28 : 0 ≤ (1 : Int) := (by omega)
                    have q28 : 1 < x5_1.size := (by have : (1 : Int) < (x5_1.size : Int) := oD z2; omega)
                    have hx28 : ∀ h : 1 < x5_1.size, ((x5_1[1]'h).toNat : Int) = bt x5_1 1 := bt_at x5_1 1
                    clear p28
                    have qi28 : (1 < (x5_1.size : Int)) = True := eq_true (oD z2)
                    replace q28 := eq_true q28
                    try go_wp2
                    have aA := aM (aa aH.out)
                    have aC := aM (bD HB.out)
                    clear aH
                    clear HB
                    have aH := aA
                    have HB := aC
                    clear aA aC
                    refine start_ (n := 10) (S := fun w' => True) (ds := []) #[false, false, false, false, false, false, false, false, false, false] z0 rfl rfl trivial (fun hHeld => ?_); refine with_tabW spec_ReadSchema.tab9 spec_ReadSchema.bits9 (fun HT_ HW_ => ?_)
                    generalize wr.drew = w38 at aH HB hHeld ⊢
                    refine pA 0 40 ?_
                    refine pA 1 41 ?_
                    refine pA 2 42 ?_
                    refine pA 3 43 ?_
                    refine pA 4 44 ?_
                    refine pA 5 45 ?_
                    refine pA 6 46 ?_
                    refine one_ (i := 7) (N := some 47) #[true, true, true, true, true, true, true, true, false, false] rfl rfl (one_of HT_.out z0) (by decide) (fun K hK => ?_)
                    refine value_ (w1 := ?_) (v := ?_) (by rfl) rfl ?_ ?_
                    rotate_left 2
                    ·go_simp
                     constructor
                     ·rfl
                     ·rfl
                    refine hK.out _ _ trivial (fun hHeld => ?_)
                    clear hK K
                    refine norm_ (a' := ?_) ?_ ?_
                    rotate_left
                    ·show Act.put _ (some 47) _ = _
                     simp only [Act.put, sA, sB, sC, i64_w, i32_w]
                     rfl
                    refine one_ (i := 8) (N := some 48) #[true, true, true, true, true, true, true, true, true, false] rfl rfl (one_of HT_.out z0) (by decide) (fun K hK => ?_)
                    refine Kd.R_append_step k38 (w0 := w) w.heap.size (by rfl) (.tmp 40) (.tmp 47) 25 38 (.agg #[(.string ⟨#[]⟩), (.string ⟨#[]⟩)]) 32 rfl Try.underlying25 info38 rfl (by decide) (by omega) u4 x4_1 (⟨x5_1.extract 0 1, x5_1.extract 2 (x6_3 : Int).toNat⟩ : S38) [.string (x5_1.extract 0 1), .string (x5_1.extract 2 (x6_3 : Int).toNat)] (fun _ => True) (fun _ => False) rfl rfl ?aP (fun _ hk => hk.elim) ?aF ?aO ?aB ?aS ?aL ?_
                    (case aP => exact k38_mkM _ _ _ (⟨x5_1.extract 0 1, x5_1.extract 2 (x6_3 : Int).toNat⟩ : S38))
                    (case aB => exact z6)
                    (case aF => exact (fun _ _ => trivial))
                    (case aO => exact (by (with_reducible repeat (first | apply ac | apply ab | apply aa)); exact aH.out))
                    (case aS => exact (am z6))
                    (case aL => have := LMc34.out; omega)
                    intro v142 w39 ho hb hg hat
                    rw [← Ny141.out] at ho
                    have aA := aM (hb)
                    have aC := aM (ho)
                    clear HB
                    clear aH
                    have HB := aA
                    have HO143 := aC
                    clear aA aC
                    clear ho hb hg hat
                    refine hK.out _ _ trivial (fun hHeld => ?_)
                    clear hK K
                    refine norm_ (a' := ?_) ?_ ?_
                    rotate_left
                    ·show Act.put _ (some 48) _ = _
                     simp only [Act.put, sA, sB, sC, i64_w, i32_w]
                     rfl
                    refine pA 9 4 ?_
                    refine done_ (done_of HT_.out z0) ?_
                    try go_wp2
                    go_roundg k3
                    case measure => have := HK1.out; have := db.out; have := HK3.out; omega
                    case rel => exact ⟨(y141), (x5_1.extract ((bQ) : Int).toNat x5_1.size), (by first | rfl | (simp; done) | (simp only [← bL] <;> (first | rfl | (simp; done) | (simp; generalize ByteArray.toList _ = u_; cases u_ <;> (first | rfl | (simp; done))))) | (simp [*]; done)), (by first | exact H' | (simp only [bL]; exact H') | (simp only [← bL]; exact H')), ⟨by have := HK1.out; have := db.out; have := HK3.out; omega⟩, ⟨by (with_reducible repeat (first | apply ac | apply ab | apply aa)); exact HO143.out⟩, ⟨y3⟩⟩
                   ·rw [if_neg bY] at H
                    exact absurd H (by simp)
                  ·rw [if_neg cy] at H
                   exact absurd H (by simp)
                 ·rw [if_neg cC] at H
                  exact absurd H (by simp)
                ·rw [if_neg dk] at H
                 exact absurd H (by simp)
               ·rw [if_neg dl] at H
                exact absurd H (by simp)
              ·rw [if_neg cn] at H
               exact absurd H (by simp)
             ·exact absurd (by decide) dm
            ·rw [if_neg cX] at H
             have c29b0 : ((bt x5_1 1) == 61) = false := qF cX
             have c29b1 : ((bt x5_1 1) != 61) = true := nT cX
             simp only [Option.some.injEq, Prod.mk.injEq] at H
             obtain ⟨rfl, rfl⟩ := H
             have p28 : 0 ≤ (1 : Int) := (by omega)
             have q28 : 1 < x5_1.size := (by have : (1 : Int) < (x5_1.size : Int) := oD z2; omega)
             have hx28 : ∀ h : 1 < x5_1.size, ((x5_1[1]'h).toNat : Int) = bt x5_1 1 := bt_at x5_1 1
             clear p28
             have qi28 : (1 < (x5_1.size : Int)) = True := eq_true (oD z2)
             replace q28 := eq_true q28
             go_wp2
             go_ret2
             exact ⟨_, y2, y8, y3⟩
           ·rw [if_neg dK] at H
            exact absurd H (by simp)
     ·replace c5 := Bool.eq_false_iff.mpr c5
      subst c5
      rw [if_neg (show ¬ (false = true) by decide)] at H
      replace H := oB H
      obtain ⟨cS, dt, H⟩ := H
      try dsimp only at H
      have cD := aM dt
      clear dt
      by_cases b3 : cS = true
      ·subst b3
       rw [if_pos rfl] at H
       by_cases bH : x5_1.toList = ([] : List UInt8)
       ·rw [if_pos bH] at H
        have c42b0 : (x5_1.toList == ([] : List UInt8)) = true := qT bH
        have c42b1 : (x5_1.toList != ([] : List UInt8)) = false := nF bH
        clear bH
        simp only [Option.some.injEq, Prod.mk.injEq] at H
        obtain ⟨rfl, rfl⟩ := H
        obtain ⟨Ao43, co43, eo43⟩ := Kd.R_slice aH.out
        subst eo43
        go_wp2_with (first | ((with_reducible refine aq (f := 7) rfl ?_); refine goesL_ (some 54) rfl rfl Try.func7 z0 rfl #[.slice Ao43 x4_1.length co43] rfl z7 ?_; (with_reducible refine (spec_GoodSchema.calls kj1 _ _ x4_1 true _ ?side1 ?side2 cD.out).mono ?_); (case side1 => repeat (first | exact (ag aH.out).2.2 | (with_reducible refine ao ?_ _) | (with_reducible refine ap ?_ _) | (with_reducible refine Kd.C_drew ?_))); (case side2 => exact (ag aH.out).2.1); rintro e w44 ⟨rfl, hb⟩; refine ⟨_, rfl, ?_⟩; have aA := aM (af (by (with_reducible repeat (first | apply ac | apply ab | apply aa)); exact aH.out) hb); have aC := aM (al z6 hb); clear aH; clear HB; have aH := aA; have HB := aC; clear aA aC; (try clear hb); (try clear hb2); (try clear hk); (try clear hi)))
        all_goals (try (exfalso; rename_i h_; rw [c42b0] at h_; cases h_; done))
        go_ret2
        exact ⟨_, y2, y4, y3⟩
       ·rw [if_neg bH] at H
        have c42b0 : (x5_1.toList == ([] : List UInt8)) = false := qF bH
        have c42b1 : (x5_1.toList != ([] : List UInt8)) = true := nT bH
        simp only [Option.some.injEq, Prod.mk.injEq] at H
        obtain ⟨rfl, rfl⟩ := H
        obtain ⟨b7, b6, eo45⟩ := Kd.R_slice aH.out
        subst eo45
        go_wp2_with (first | ((with_reducible refine aq (f := 7) rfl ?_); refine goesL_ (some 54) rfl rfl Try.func7 z0 rfl #[.slice b7 x4_1.length b6] rfl z7 ?_; (with_reducible refine (spec_GoodSchema.calls kj1 _ _ x4_1 true _ ?side1 ?side2 cD.out).mono ?_); (case side1 => repeat (first | exact (ag aH.out).2.2 | (with_reducible refine ao ?_ _) | (with_reducible refine ap ?_ _) | (with_reducible refine Kd.C_drew ?_))); (case side2 => exact (ag aH.out).2.1); rintro e w46 ⟨rfl, hb⟩; refine ⟨_, rfl, ?_⟩; have aA := aM (af (by (with_reducible repeat (first | apply ac | apply ab | apply aa)); exact aH.out) hb); have aC := aM (al z6 hb); clear aH; clear HB; have aH := aA; have HB := aC; clear aA aC; (try clear hb); (try clear hb2); (try clear hk); (try clear hi)))
        all_goals (try (exfalso; rename_i h_; rw [c42b0] at h_; cases h_; done))
        go_ret2
        exact ⟨_, y2, y8, y3⟩
      ·replace b3 := Bool.eq_false_iff.mpr b3
       subst b3
       rw [if_neg (show ¬ (false = true) by decide)] at H
       simp only [Option.some.injEq, Prod.mk.injEq] at H
       obtain ⟨rfl, rfl⟩ := H
       obtain ⟨Ao47, co47, eo47⟩ := Kd.R_slice aH.out
       subst eo47
       go_wp2_with (first | ((with_reducible refine aq (f := 7) rfl ?_); refine goesL_ (some 54) rfl rfl Try.func7 z0 rfl #[.slice Ao47 x4_1.length co47] rfl z7 ?_; (with_reducible refine (spec_GoodSchema.calls kj1 _ _ x4_1 false _ ?side1 ?side2 cD.out).mono ?_); (case side1 => repeat (first | exact (ag aH.out).2.2 | (with_reducible refine ao ?_ _) | (with_reducible refine ap ?_ _) | (with_reducible refine Kd.C_drew ?_))); (case side2 => exact (ag aH.out).2.1); rintro e w48 ⟨rfl, hb⟩; refine ⟨_, rfl, ?_⟩; have aA := aM (af (by (with_reducible repeat (first | apply ac | apply ab | apply aa)); exact aH.out) hb); have aC := aM (al z6 hb); clear aH; clear HB; have aH := aA; have HB := aC; clear aA aC; (try clear hb); (try clear hb2); (try clear hk); (try clear hi)))
       go_ret2
       exact ⟨_, y2, y8, y3⟩

/-! ### impl_isName: function 29 -/
def impl_isName.f (a0 : Int) : Option (Bool) := if a0 ≥ 65 then (some (decide (a0 ≤ 70))) else (some false)
set_option maxHeartbeats 8000000 in
set_option maxRecDepth 100000 in
theorem impl_isName.calls (a0 : Int) (r : Bool) (w : World) (h : impl_isName.f a0 = some r) :
  Calls Try.prog 29 #[.int .u8 a0] w fun e w' => e = .returned (.bool r) ∧ Drawn0 w w' := by
 have H : (if a0 ≥ 65 then (some (decide (a0 ≤ 70))) else (some false)) = some r := h
 clear h
 by_cases c2 : a0 ≥ 65
 ·rw [if_pos c2] at H
  have c2b0 : decide (65 ≤ a0) = true := dT c2
  clear c2
  obtain rfl := sI H
  go_enter Try.func29, Try.ntmps29
  go_wp2
  go_ret
  exact ⟨y0, y1⟩
 ·rw [if_neg c2] at H
  have c2b0 : decide (65 ≤ a0) = false := dF c2
  clear c2
  obtain rfl := sI H
  go_enter Try.func29, Try.ntmps29
  go_wp2
  go_ret
  exact ⟨y0, y1⟩

/-! ### impl_isNameText: function 21 -/
def impl_isNameText.f (a0 : ByteArray) : Option (Bool) := if (a0.size : Int) = 1 then (if 0 < (a0.size : Int) then ((impl_isName.f (bt a0 0)).bind fun ci => (some ci)) else (none)) else (some false)
set_option maxHeartbeats 8000000 in
set_option maxRecDepth 100000 in
theorem impl_isNameText.calls (a0 : ByteArray) (r : Bool) (w : World) (h : impl_isNameText.f a0 = some r) :
  Calls Try.prog 21 #[.string a0] w fun e w' => e = .returned (.bool r) ∧ Drawn0 w w' := by
 have H : (if (a0.size : Int) = 1 then (if 0 < (a0.size : Int) then ((impl_isName.f (bt a0 0)).bind fun ci => (some ci)) else (none)) else (some false)) = some r := h
 clear h
 by_cases c2 : (a0.size : Int) = 1
 ·rw [if_pos c2] at H
  have c2b0 : ((a0.size : Int) == 1) = true := qT c2
  have c2b1 : ((a0.size : Int) != 1) = false := nF c2
  clear c2
  by_cases c3 : 0 < (a0.size : Int)
  ·rw [if_pos c3] at H
   have c3b0 : decide (0 < (a0.size : Int)) = true := dT c3
   have c3b1 : decide (0 < a0.size) = true := dT (by omega)
   clear c3
   replace H := oB H
   obtain ⟨ci, cM, H⟩ := H
   try dsimp only at H
   have A5 := aM cM
   clear cM
   obtain rfl := sI H
   have p4 : 0 ≤ (0 : Int) := (by omega)
   have q4 : 0 < a0.size := (by have : (0 : Int) < (a0.size : Int) := oD z2; omega)
   have hx4 : ∀ h : 0 < a0.size, ((a0[0]'h).toNat : Int) = bt a0 0 := bt_at a0 0
   clear p4
   have qi4 : (0 < (a0.size : Int)) = True := eq_true (oD z2)
   replace q4 := eq_true q4
   go_enter Try.func21, Try.ntmps21
   go_wp2_with (first | (go_at_call 29; (with_reducible refine (impl_isName.calls (bt a0 0) ci _ A5.out).mono ?_); rintro e w' ⟨rfl, ⟨nd, rfl⟩⟩))
   go_ret
   exact ⟨y0, y1⟩
  ·rw [if_neg c3] at H
   exact absurd H (by simp)
 ·rw [if_neg c2] at H
  have c2b0 : ((a0.size : Int) == 1) = false := qF c2
  have c2b1 : ((a0.size : Int) != 1) = true := nT c2
  obtain rfl := sI H
  go_enter Try.func21, Try.ntmps21
  go_wp2
  go_ret
  exact ⟨y0, y1⟩

end Go.Proofs.Ytihjaagamihhkaa.AFnExactReadSchema
