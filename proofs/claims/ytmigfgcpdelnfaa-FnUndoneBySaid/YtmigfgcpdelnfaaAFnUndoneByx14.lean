-- this session's own text: written by wip/tools/ownprint.py over the kit's print
import Derived.Test.YtmigfgcpdelnfaaAFnUndoneByx0
import Derived.Test.YtmigfgcpdelnfaaAFnUndoneByx11
import Derived.Test.YtmigfgcpdelnfaaAFnUndoneByx12
import Derived.Test.YtmigfgcpdelnfaaAFnUndoneByx13
namespace Go.Proofs.Ytmigfgcpdelnfaa.AFnUndoneBy
open Go.RowKit Go.Proofs.YtmigfgcpdelnfaaW.PrintWords Go.Proofs.YtmigfgcpdelnfaaW.PrintLast Go.Proofs.YtmigfgcpdelnfaaW.PrintMore
attribute [local go_sem] max2_int min2_int max_two min_two max_three min_three max_four min_four   -- for this text's walks alone
set_option linter.unusedVariables false
set_option linter.unusedSimpArgs false

/-! ### spec_l1Cur_spoilt: function 63 -/
mutual
def spec_l1Cur_spoilt.l0 : Nat → ByteArray → ByteArray → Int → List Int → Int → Int → Option (ByteArray × Int × Int)
 | 0, _, _, _, _, _, _ => none
 | k + 1, x1, x2, x7, x1000, x1001, x1002 => if x7 > 0 then (spec_l1Cur_spoilt.j1 k x1 x2 x7 (decide ((x1.size : Int) > 0)) x1000 x1001 x1002) else (spec_l1Cur_spoilt.j1 k x1 x2 x7 false x1000 x1001 x1002)
def spec_l1Cur_spoilt.j1 : Nat → ByteArray → ByteArray → Int → Bool → List Int → Int → Int → Option (ByteArray × Int × Int)
 | 0, _, _, _, _, _, _, _ => none
 | k + 1, x1, x2, x7, x18, x1000, x1001, x1002 => if x18 = true then ((spec_l1Cur_pick.f x1000 x1001 x1002 (x1.size : Int)).bind fun b7 => ((spec_l1Cur_pick.f x1000 b7.2.1 b7.2.2 (x2.size : Int)).bind fun kP => (if 0 ≤ kP.1 then (if kP.1 < (x2.size : Int) then ((some (([bt x2 kP.1] : List Int) : List Int)).bind fun y423 => ((spec_l1Cur_pick.f x1000 kP.2.1 kP.2.2 3).bind fun df => (if df.1 = 0 then (if 0 ≤ b7.1 then (if b7.1 ≤ (x1.size : Int) then (if (x1.extract 0 (b7.1 : Int).toNat).size + (strOfNums y423).size ≤ 9223372036854775807 then (if ((x1.extract 0 (b7.1 : Int).toNat) ++ (strOfNums y423)).size + (x1.extract (b7.1 : Int).toNat x1.size).size ≤ 9223372036854775807 then (spec_l1Cur_spoilt.l0 k (((x1.extract 0 (b7.1 : Int).toNat) ++ (strOfNums y423)) ++ (x1.extract (b7.1 : Int).toNat x1.size)) x2 (wrap64 (x7 - 1)) x1000 df.2.1 df.2.2) else (none)) else (none)) else (none)) else (none)) else (if df.1 = 1 then (if 0 ≤ b7.1 then (if b7.1 ≤ (x1.size : Int) then (if (x1.extract 0 (b7.1 : Int).toNat).size + (strOfNums y423).size ≤ 9223372036854775807 then (if 0 ≤ (wrap64 (b7.1 + 1)) then (if (wrap64 (b7.1 + 1)) ≤ (x1.size : Int) then (if ((x1.extract 0 (b7.1 : Int).toNat) ++ (strOfNums y423)).size + (x1.extract ((wrap64 (b7.1 + 1)) : Int).toNat x1.size).size ≤ 9223372036854775807 then (spec_l1Cur_spoilt.l0 k (((x1.extract 0 (b7.1 : Int).toNat) ++ (strOfNums y423)) ++ (x1.extract ((wrap64 (b7.1 + 1)) : Int).toNat x1.size)) x2 (wrap64 (x7 - 1)) x1000 df.2.1 df.2.2) else (none)) else (none)) else (none)) else (none)) else (none)) else (none)) else (if 0 ≤ b7.1 then (if b7.1 ≤ (x1.size : Int) then (if 0 ≤ (wrap64 (b7.1 + 1)) then (if (wrap64 (b7.1 + 1)) ≤ (x1.size : Int) then (if (x1.extract 0 (b7.1 : Int).toNat).size + (x1.extract ((wrap64 (b7.1 + 1)) : Int).toNat x1.size).size ≤ 9223372036854775807 then (spec_l1Cur_spoilt.l0 k ((x1.extract 0 (b7.1 : Int).toNat) ++ (x1.extract ((wrap64 (b7.1 + 1)) : Int).toNat x1.size)) x2 (wrap64 (x7 - 1)) x1000 df.2.1 df.2.2) else (none)) else (none)) else (none)) else (none)) else (none)))))) else (none)) else (none)))) else (some (x1, x1001, x1002))
end
def spec_l1Cur_spoilt.f (k : Nat) (s0_0 : List Int) (s0_1 : Int) (s0_2 : Int) (a1 : ByteArray) (a2 : ByteArray) : Option (ByteArray × Int × Int) := (spec_l1Cur_pick.f s0_0 s0_1 s0_2 3).bind fun ij => (spec_l1Cur_spoilt.l0 k a1 a2 ij.1 s0_0 ij.2.1 ij.2.2)
theorem spec_l1Cur_spoilt.mono_l : ∀ k, (∀ y0 y1 y2 y3 y4 y5, LeO (spec_l1Cur_spoilt.l0 k y0 y1 y2 y3 y4 y5) (spec_l1Cur_spoilt.l0 (k + 1) y0 y1 y2 y3 y4 y5)) ∧ (∀ y0 y1 y2 y3 y4 y5 y6, LeO (spec_l1Cur_spoilt.j1 k y0 y1 y2 y3 y4 y5 y6) (spec_l1Cur_spoilt.j1 (k + 1) y0 y1 y2 y3 y4 y5 y6))
 | 0 => ⟨fun _ _ _ _ _ _ r h => by simp [spec_l1Cur_spoilt.l0] at h, fun _ _ _ _ _ _ _ r h => by simp [spec_l1Cur_spoilt.j1] at h⟩
 | k + 1 => by
  obtain ⟨ih0, ih1⟩ := spec_l1Cur_spoilt.mono_l k
  refine ⟨?_, ?_⟩
  ·intro y0 y1 y2 y3 y4 y5
   unfold spec_l1Cur_spoilt.l0
   repeat' first
   | (with_reducible exact ih0 _ _ _ _ _ _)
   | (with_reducible exact ih1 _ _ _ _ _ _ _)
   | (with_reducible exact LeO.refl _)
   | (with_reducible exact LeO.none _)
   | (with_reducible refine LeO.ite ?_ ?_)
   | (with_reducible refine LeO.bind ?_ (fun _ => ?_))
  ·intro y0 y1 y2 y3 y4 y5 y6
   unfold spec_l1Cur_spoilt.j1
   repeat' first
   | (with_reducible exact ih0 _ _ _ _ _ _)
   | (with_reducible exact ih1 _ _ _ _ _ _ _)
   | (with_reducible exact LeO.refl _)
   | (with_reducible exact LeO.none _)
   | (with_reducible refine LeO.ite ?_ ?_)
   | (with_reducible refine LeO.bind ?_ (fun _ => ?_))
theorem spec_l1Cur_spoilt.mono : ∀ a0 a1 a2 a3 a4 k, LeO (spec_l1Cur_spoilt.f k a0 a1 a2 a3 a4) (spec_l1Cur_spoilt.f (k + 1) a0 a1 a2 a3 a4) := by
 intro a0 a1 a2 a3 a4 k
 obtain ⟨ih0, ih1⟩ := spec_l1Cur_spoilt.mono_l k
 unfold spec_l1Cur_spoilt.f
 repeat' first
   | (with_reducible exact ih0 _ _ _ _ _ _)
   | (with_reducible exact ih1 _ _ _ _ _ _ _)
   | (with_reducible exact LeO.refl _)
   | (with_reducible exact LeO.none _)
   | (with_reducible refine LeO.ite ?_ ?_)
   | (with_reducible refine LeO.bind ?_ (fun _ => ?_))
set_option maxHeartbeats 8000000 in
set_option maxRecDepth 100000 in
theorem spec_l1Cur_spoilt.calls (k : Nat) (g : Nat) (s0_0 : List Int) (s0_1 : Int) (s0_2 : Int) (a1 : ByteArray) (a2 : ByteArray) (r1 : ByteArray) (r2 : Int) (r3 : Int) (w0 w : World) (hI : IsS66 w0 w g s0_0 s0_1 s0_2) (hB : Below w0.heap.size w0 w) (h : spec_l1Cur_spoilt.f k s0_0 s0_1 s0_2 a1 a2 = some (r1, r2, r3)) :
  Calls Try.prog 63 #[.pointer (some ⟨g, 0, none⟩), .string a1, .string a2] w fun e w' => e = .returned (.string r1) ∧ IsS66 w0 w' g s0_0 r2 r3 ∧ Below w0.heap.size w0 w' ∧ KeepBut w w' g none := by
 have HI0 := aM hI
 have HK := aM (KeepBut.refl w g none)
 have HL := aM hB.size
 clear hI
 have HW0 := aM hB.size
 have HB := aM hB
 clear hB
 have H : ((spec_l1Cur_pick.f s0_0 s0_1 s0_2 3).bind fun ij => (spec_l1Cur_spoilt.l0 k a1 a2 ij.1 s0_0 ij.2.1 ij.2.2)) = some (r1, r2, r3) := h
 clear h
 obtain ⟨⟨pC, pz, px⟩, A4, H⟩ := oA_ H
 try dsimp only at H
 have H' := aM H
 clear H
 go_enter Try.func63, Try.ntmps63
 go_wp2_with (first | (go_at_call 60; (with_reducible refine (spec_l1Cur_pick.calls g s0_0 s0_1 s0_2 3 pC pz px w0 _ ?side1 ?side2 A4.out).mono ?_); (case side1 => exact y40); (case side2 => exact y36); rintro e w5 ⟨rfl, hi, hb, hk⟩; replace HK := aM (KeepBut.trans z15 hk (.inl rfl)); replace HB := aM (hb); replace HI0 := aM (hi); (try clear hb); (try clear hk); (try clear hi); (try clear cn)))
 repeat (go_quiet (fail); try go_wp2_with (first | (go_at_call 60; (with_reducible refine (spec_l1Cur_pick.calls g s0_0 s0_1 s0_2 3 pC pz px w0 _ ?side1 ?side2 A4.out).mono ?_); (case side1 => exact y40); (case side2 => exact y36); rintro e w5 ⟨rfl, hi, hb, hk⟩; replace HK := aM (KeepBut.trans z15 hk (.inl rfl)); replace HB := aM (hb); replace HI0 := aM (hi); (try clear hb); (try clear hk); (try clear hi); (try clear cn))))
 go_loopg [1, 7] k (fun kq v1 v7 w' => ∃ (x1_1 : ByteArray) (x7_1 : Int) (x1001_1 : Int) (x1002_1 : Int), v1 = .string x1_1 ∧ v7 = .int .i64 x7_1 ∧ Aside0 (spec_l1Cur_spoilt.l0 kq x1_1 a2 x7_1 s0_0 x1001_1 x1002_1 = some (r1, r2, r3)) ∧ Aside0 (kq ≤ k) ∧ Aside0 (IsS66 w0 w' g s0_0 x1001_1 x1002_1) ∧ Aside0 (KeepBut w w' g none) ∧ Aside0 (Below w0.heap.size w0 w'))
 case atStart => exact ⟨(a1), (pC), (pz), (px), z1, z1, H', ⟨Nat.le_refl _⟩, ⟨y27⟩, ⟨y22⟩, ⟨y21⟩⟩
 case round =>
  clear H'
  obtain ⟨x1_1, x7_1, x1001_1, x1002_1, rfl, rfl, HA, HK1, HI0, HK, HB⟩ := hrel
  cases gk with
  | zero => exact absurd HA.out (by simp [spec_l1Cur_spoilt.l0])
  | succ k1 =>
   have H := HA.out
   clear HA
   simp only [spec_l1Cur_spoilt.l0] at H
   have iP := aM H
   clear H
   go_upto_region 2 with (fail)
   repeat (go_quiet (fail); go_upto_region 2 with (fail))
   go_cut [18] (fun v18 wc => ∃ (kq : Nat) (x18_5 : Bool), v18 = .bool x18_5 ∧ Aside0 (spec_l1Cur_spoilt.j1 kq x1_1 a2 x7_1 x18_5 s0_0 x1001_1 x1002_1 = some (r1, r2, r3)) ∧ Aside0 (kq ≤ k1) ∧ Aside0 (IsS66 w0 wc g s0_0 x1001_1 x1002_1) ∧ Aside0 (KeepBut w wc g none) ∧ Aside0 (Below w0.heap.size w0 wc))
   case first =>
    have H := iP.out
    clear iP
    by_cases c7 : x7_1 > 0
    ·rw [if_pos c7] at H
     have c7b0 : decide (0 < x7_1) = true := dT c7
     clear c7
     (first | rw [c7b0] | (simp only [i64_w, i32_w]; rw [c7b0]) | skip)
     have H' := aM H
     clear H
     go_wp2
     repeat (go_quiet (fail); try go_wp2)
     go_meet
     case rel => exact ⟨_, (decide ((x1_1.size : Int) > 0)), z1, H', ⟨y2⟩, ⟨y27⟩, ⟨y22⟩, ⟨y21⟩⟩
    ·rw [if_neg c7] at H
     have c7b0 : decide (0 < x7_1) = false := dF c7
     clear c7
     (first | rw [c7b0] | (simp only [i64_w, i32_w]; rw [c7b0]) | skip)
     have H' := aM H
     clear H
     go_wp2
     repeat (go_quiet (fail); try go_wp2)
     go_meet
     case rel => exact ⟨_, (false), z1, H', ⟨y2⟩, ⟨y27⟩, ⟨y22⟩, ⟨y21⟩⟩
   case rest =>
    clear iP
    try clear p2
    try clear p2
    obtain ⟨kq, x18_5, rfl, HA, gw, HI0, HK, HB⟩ := hcut
    cases kq with
    | zero => exact absurd HA.out (by simp [spec_l1Cur_spoilt.j1])
    | succ kj5 =>
     have H := HA.out
     clear HA
     simp only [spec_l1Cur_spoilt.j1] at H
     by_cases c8 : x18_5 = true
     ·subst c8
      rw [if_pos rfl] at H
      obtain ⟨⟨bn, ek, ej⟩, A9, H⟩ := oA_ H
      try dsimp only at H
      obtain ⟨⟨br, cK, cJ⟩, k0, H⟩ := oA_ H
      try dsimp only at H
      by_cases cP : 0 ≤ br
      ·rw [if_pos cP] at H
       have c11b0 : decide (0 ≤ br) = true := dT cP
       clear cP
       by_cases b5 : br < (a2.size : Int)
       ·rw [if_pos b5] at H
        have c12b0 : decide (br < (a2.size : Int)) = true := dT b5
        clear b5
        obtain ⟨y423, hy423⟩ : ∃ y_ : List Int, y_ = (([bt a2 br] : List Int)) := ⟨_, rfl⟩
        replace H : ((spec_l1Cur_pick.f s0_0 cK cJ 3).bind fun df => (if df.1 = 0 then (if 0 ≤ bn then (if bn ≤ (x1_1.size : Int) then (if (x1_1.extract 0 (bn : Int).toNat).size + (strOfNums y423).size ≤ 9223372036854775807 then (if ((x1_1.extract 0 (bn : Int).toNat) ++ (strOfNums y423)).size + (x1_1.extract (bn : Int).toNat x1_1.size).size ≤ 9223372036854775807 then (spec_l1Cur_spoilt.l0 kj5 (((x1_1.extract 0 (bn : Int).toNat) ++ (strOfNums y423)) ++ (x1_1.extract (bn : Int).toNat x1_1.size)) a2 (wrap64 (x7_1 - 1)) s0_0 df.2.1 df.2.2) else (none)) else (none)) else (none)) else (none)) else (if df.1 = 1 then (if 0 ≤ bn then (if bn ≤ (x1_1.size : Int) then (if (x1_1.extract 0 (bn : Int).toNat).size + (strOfNums y423).size ≤ 9223372036854775807 then (if 0 ≤ (wrap64 (bn + 1)) then (if (wrap64 (bn + 1)) ≤ (x1_1.size : Int) then (if ((x1_1.extract 0 (bn : Int).toNat) ++ (strOfNums y423)).size + (x1_1.extract ((wrap64 (bn + 1)) : Int).toNat x1_1.size).size ≤ 9223372036854775807 then (spec_l1Cur_spoilt.l0 kj5 (((x1_1.extract 0 (bn : Int).toNat) ++ (strOfNums y423)) ++ (x1_1.extract ((wrap64 (bn + 1)) : Int).toNat x1_1.size)) a2 (wrap64 (x7_1 - 1)) s0_0 df.2.1 df.2.2) else (none)) else (none)) else (none)) else (none)) else (none)) else (none)) else (if 0 ≤ bn then (if bn ≤ (x1_1.size : Int) then (if 0 ≤ (wrap64 (bn + 1)) then (if (wrap64 (bn + 1)) ≤ (x1_1.size : Int) then (if (x1_1.extract 0 (bn : Int).toNat).size + (x1_1.extract ((wrap64 (bn + 1)) : Int).toNat x1_1.size).size ≤ 9223372036854775807 then (spec_l1Cur_spoilt.l0 kj5 ((x1_1.extract 0 (bn : Int).toNat) ++ (x1_1.extract ((wrap64 (bn + 1)) : Int).toNat x1_1.size)) a2 (wrap64 (x7_1 - 1)) s0_0 df.2.1 df.2.2) else (none)) else (none)) else (none)) else (none)) else (none))))) = some (r1, r2, r3) := by first | (rw [hy423]; with_reducible exact H) | (have H2_ := (Option.bind_some _ _).symm.trans H; rw [hy423]; with_reducible exact H2_) | (have H2_ := (Option.bind_some _ _).symm.trans H; with_reducible exact H2_) | with_reducible exact H | (rw [hy423]; exact H) | exact H
        have Ny423 := aM hy423
        clear hy423
        obtain ⟨⟨d6, fb, fa⟩, mh, H⟩ := oA_ H
        try dsimp only at H
        by_cases cF : d6 = 0
        ·rw [if_pos cF] at H
         have c15b0 : (d6 == 0) = true := qT cF
         have c15b1 : (d6 != 0) = false := nF cF
         clear cF
         by_cases eu : 0 ≤ bn
         ·rw [if_pos eu] at H
          have c16b0 := eq_true eu
          have c16b1 : decide (0 ≤ bn) = true := dT eu
          clear eu
          by_cases e4 : bn ≤ (x1_1.size : Int)
          ·rw [if_pos e4] at H
           have c17b0 := eq_true e4
           have c17b1 : decide (bn ≤ (x1_1.size : Int)) = true := dT e4
           clear e4
           by_cases e8 : (x1_1.extract 0 (bn : Int).toNat).size + (strOfNums y423).size ≤ 9223372036854775807
           ·rw [if_pos e8] at H
            have c18b0 := eq_true e8
            have c18b1 : decide ((x1_1.extract 0 (bn : Int).toNat).size + (strOfNums y423).size ≤ 9223372036854775807) = true := dT e8
            try have c18b2 : (9223372036854775807 < (x1_1.extract 0 (bn : Int).toNat).size + (strOfNums y423).size) = False := eq_false (Nat.not_lt.2 e8)
            (try (have c18x : (9223372036854775807 < (bn).toNat + (strOfNums y423).size) = False := eq_false (fun h_ => by have e_ := of_eq_true c18b0; simp only [aC, aA] at e_; have f0_ : (bn) ≤ (x1_1.size : Int) := (by first | assumption | exact of_eq_true (by assumption) | exact oD (by assumption)); omega)))
            have c19b0 := eq_true (oD z2 : 0 ≤ bn)
            have c20b0 := eq_true (oD z2 : bn ≤ (x1_1.size : Int))
            by_cases dX : ((x1_1.extract 0 (bn : Int).toNat) ++ (strOfNums y423)).size + (x1_1.extract (bn : Int).toNat x1_1.size).size ≤ 9223372036854775807
            ·rw [if_pos dX] at H
             have c21b0 := eq_true dX
             have c21b1 : decide (((x1_1.extract 0 (bn : Int).toNat) ++ (strOfNums y423)).size + (x1_1.extract (bn : Int).toNat x1_1.size).size ≤ 9223372036854775807) = true := dT dX
             try have c21b2 : (9223372036854775807 < ((x1_1.extract 0 (bn : Int).toNat) ++ (strOfNums y423)).size + (x1_1.extract (bn : Int).toNat x1_1.size).size) = False := eq_false (Nat.not_lt.2 dX)
             (try (have c21x : (9223372036854775807 < ((bn).toNat + (strOfNums y423).size) + (x1_1.size.toNat - (bn).toNat)) = False := eq_false (fun h_ => by have e_ := of_eq_true c21b0; simp only [aC, aA] at e_; have f0_ : x1_1.size ≤ (x1_1.size : Int) := (by first | assumption | exact of_eq_true (by assumption) | exact oD (by assumption)); have f1_ : (bn) ≤ (x1_1.size : Int) := (by first | assumption | exact of_eq_true (by assumption) | exact oD (by assumption)); omega)))
             (try (have c21b2s := c21b2; simp only [aA] at c21b2s))
             have H' := aM H
             clear H
             go_wp2_with (first | (go_at_call 60; (with_reducible refine (spec_l1Cur_pick.calls g s0_0 x1001_1 x1002_1 (x1_1.size : Int) bn ek ej w0 _ ?side1 ?side2 A9.out).mono ?_); (case side1 => exact y40); (case side2 => exact y36); rintro e w22 ⟨rfl, hi, hb, hk⟩; replace HK := aM (KeepBut.trans z15 hk (.inl rfl)); replace HB := aM (hb); replace HI0 := aM (hi); (try clear hb); (try clear hk); (try clear hi); (try clear cn)) | (go_at_call 60; (with_reducible refine (spec_l1Cur_pick.calls g s0_0 ek ej (a2.size : Int) br cK cJ w0 _ ?side1 ?side2 k0.out).mono ?_); (case side1 => exact y40); (case side2 => exact y36); rintro e w23 ⟨rfl, hi, hb, hk⟩; replace HK := aM (KeepBut.trans z15 hk (.inl rfl)); replace HB := aM (hb); replace HI0 := aM (hi); (try clear hb); (try clear hk); (try clear hi); (try clear cn); have p13 : 0 ≤ (br : Int) := oD z2; have q13 : br < (a2.size : Int) := oD z2; have hx13 := bt_at a2 br; replace p13 := eq_true p13; replace q13 := eq_true q13) | ((with_reducible refine aw (N := 31) rfl ?_); (try (refine gate_guard (by rfl) ?_; dsimp only)); refine Kd.R_lit (Kd.int .u8) _ 5 ?hg (N := 31) ?hd (xs := ([bt a2 br] : List Int)) (inner := [.int .u8 (bt a2 br)]) (ok := fun _ => True) (okp := fun _ => True) ?hr ?hp (fun _ hk => hk) trivial (Below.refl _ _) (Nat.le_refl _) (by simp) ?_; (case hd => rfl); (case hg => rfl); (case hr => first | (go_simp; done) | (go_simp; rfl)); (case hp => exact (Reps.one (show Kd.M (Kd.int .u8) _ _ _ (bt a2 br) [.int .u8 (bt a2 br)] from rfl) (Reps.none _ _))); intro v424 w24 ho25 hb hg_ hnew_; clear hg_ hnew_; (first | rw [← Ny423.out] at ho25 | (simp only [Int.reduceToNat] at ho25; rw [← Ny423.out] at ho25)); have bE := aM (az ho25 (keep_size (w := w) (g := g) (row := none) z15)); replace HK := aM (KeepBut.trans z15 (KeepBut.of_below hb g none) (.inl rfl)); replace HB := aM (ap z21 hb); replace HI0 := aM (IsS66.below z23 hb); clear hb ho25; have hcv26 := own_string (P := Try.prog) Try.underlying34 Try.underlying5 Try.underlying9 (Kd.own_of_R bE.out)) | (go_at_call 60; (with_reducible refine (spec_l1Cur_pick.calls g s0_0 cK cJ 3 d6 fb fa w0 _ ?side1 ?side2 mh.out).mono ?_); (case side1 => exact y40); (case side2 => exact y36); rintro e w27 ⟨rfl, hi, hb, hk⟩; replace bE := aM (ag (Kd.R_keep (IsS66.apart (show IsS66 w0 _ g s0_0 cK cJ from by (try simp only [Int.add_zero]); repeat (first | (with_reducible first | exact HI0.out | apply IsS66.alloc | apply IsS66.drewN | apply IsS66.drew | apply IsS66.set_1 | apply IsS66.set_2) | exact HI0.out)) (kR_ bE.out) (by decide)) hk (fun _ h => h.2)) (fun _ h => h.1)); replace HK := aM (KeepBut.trans z15 hk (.inl rfl)); replace HB := aM (hb); replace HI0 := aM (hi); (try clear hb); (try clear hk); (try clear hi); (try clear cn)))
             repeat (go_quiet (fail); try go_wp2_with (first | (go_at_call 60; (with_reducible refine (spec_l1Cur_pick.calls g s0_0 x1001_1 x1002_1 (x1_1.size : Int) bn ek ej w0 _ ?side1 ?side2 A9.out).mono ?_); (case side1 => exact y40); (case side2 => exact y36); rintro e w22 ⟨rfl, hi, hb, hk⟩; replace HK := aM (KeepBut.trans z15 hk (.inl rfl)); replace HB := aM (hb); replace HI0 := aM (hi); (try clear hb); (try clear hk); (try clear hi); (try clear cn)) | (go_at_call 60; (with_reducible refine (spec_l1Cur_pick.calls g s0_0 ek ej (a2.size : Int) br cK cJ w0 _ ?side1 ?side2 k0.out).mono ?_); (case side1 => exact y40); (case side2 => exact y36); rintro e w23 ⟨rfl, hi, hb, hk⟩; replace HK := aM (KeepBut.trans z15 hk (.inl rfl)); replace HB := aM (hb); replace HI0 := aM (hi); (try clear hb); (try clear hk); (try clear hi); (try clear cn); have p13 : 0 ≤ (br : Int) := oD z2; have q13 : br < (a2.size : Int) := oD z2; have hx13 := bt_at a2 br; replace p13 := eq_true p13; replace q13 := eq_true q13) | ((with_reducible refine aw (N := 31) rfl ?_); (try (refine gate_guard (by rfl) ?_; dsimp only)); refine Kd.R_lit (Kd.int .u8) _ 5 ?hg (N := 31) ?hd (xs := ([bt a2 br] : List Int)) (inner := [.int .u8 (bt a2 br)]) (ok := fun _ => True) (okp := fun _ => True) ?hr ?hp (fun _ hk => hk) trivial (Below.refl _ _) (Nat.le_refl _) (by simp) ?_; (case hd => rfl); (case hg => rfl); (case hr => first | (go_simp; done) | (go_simp; rfl)); (case hp => exact (Reps.one (show Kd.M (Kd.int .u8) _ _ _ (bt a2 br) [.int .u8 (bt a2 br)] from rfl) (Reps.none _ _))); intro v424 w24 ho25 hb hg_ hnew_; clear hg_ hnew_; (first | rw [← Ny423.out] at ho25 | (simp only [Int.reduceToNat] at ho25; rw [← Ny423.out] at ho25)); have bE := aM (az ho25 (keep_size (w := w) (g := g) (row := none) z15)); replace HK := aM (KeepBut.trans z15 (KeepBut.of_below hb g none) (.inl rfl)); replace HB := aM (ap z21 hb); replace HI0 := aM (IsS66.below z23 hb); clear hb ho25; have hcv26 := own_string (P := Try.prog) Try.underlying34 Try.underlying5 Try.underlying9 (Kd.own_of_R bE.out)) | (go_at_call 60; (with_reducible refine (spec_l1Cur_pick.calls g s0_0 cK cJ 3 d6 fb fa w0 _ ?side1 ?side2 mh.out).mono ?_); (case side1 => exact y40); (case side2 => exact y36); rintro e w27 ⟨rfl, hi, hb, hk⟩; replace bE := aM (ag (Kd.R_keep (IsS66.apart (show IsS66 w0 _ g s0_0 cK cJ from by (try simp only [Int.add_zero]); repeat (first | (with_reducible first | exact HI0.out | apply IsS66.alloc | apply IsS66.drewN | apply IsS66.drew | apply IsS66.set_1 | apply IsS66.set_2) | exact HI0.out)) (kR_ bE.out) (by decide)) hk (fun _ h => h.2)) (fun _ h => h.1)); replace HK := aM (KeepBut.trans z15 hk (.inl rfl)); replace HB := aM (hb); replace HI0 := aM (hi); (try clear hb); (try clear hk); (try clear hi); (try clear cn))))
             go_roundg kj5
             case measure => have := HK1.out; have := gw.out; omega
             case rel => exact ⟨(((x1_1.extract 0 (bn : Int).toNat) ++ (strOfNums y423)) ++ (x1_1.extract (bn : Int).toNat x1_1.size)), (wrap64 (x7_1 - 1)), (fb), (fa), z1, z1, H', ⟨by have := HK1.out; have := gw.out; omega⟩, ⟨y27⟩, ⟨y22⟩, ⟨y21⟩⟩
            ·rw [if_neg dX] at H
             exact absurd H (by simp)
           ·rw [if_neg e8] at H
            exact absurd H (by simp)
          ·rw [if_neg e4] at H
           exact absurd H (by simp)
         ·rw [if_neg eu] at H
          exact absurd H (by simp)
        ·rw [if_neg cF] at H
         have c15b0 : (d6 == 0) = false := qF cF
         have c15b1 : (d6 != 0) = true := nT cF
         by_cases ib : d6 = 1
         ·rw [if_pos ib] at H
          have c28b0 : (d6 == 1) = true := qT ib
          have c28b1 : (d6 != 1) = false := nF ib
          clear ib
          by_cases iU : 0 ≤ bn
          ·rw [if_pos iU] at H
           have c29b0 := eq_true iU
           have c29b1 : decide (0 ≤ bn) = true := dT iU
           clear iU
           by_cases e3 : bn ≤ (x1_1.size : Int)
           ·rw [if_pos e3] at H
            have c30b0 := eq_true e3
            have c30b1 : decide (bn ≤ (x1_1.size : Int)) = true := dT e3
            clear e3
            by_cases dS : (x1_1.extract 0 (bn : Int).toNat).size + (strOfNums y423).size ≤ 9223372036854775807
            ·rw [if_pos dS] at H
             have c31b0 := eq_true dS
             have c31b1 : decide ((x1_1.extract 0 (bn : Int).toNat).size + (strOfNums y423).size ≤ 9223372036854775807) = true := dT dS
             try have c31b2 : (9223372036854775807 < (x1_1.extract 0 (bn : Int).toNat).size + (strOfNums y423).size) = False := eq_false (Nat.not_lt.2 dS)
             (try (have c31x : (9223372036854775807 < (bn).toNat + (strOfNums y423).size) = False := eq_false (fun h_ => by have e_ := of_eq_true c31b0; simp only [aC, aA] at e_; have f0_ : (bn) ≤ (x1_1.size : Int) := (by first | assumption | exact of_eq_true (by assumption) | exact oD (by assumption)); omega)))
             obtain ⟨ff, fg⟩ : ∃ j_ : Int, (wrap64 (bn + 1)) = j_ := ⟨_, rfl⟩
             replace H : (if 0 ≤ (ff) then (if (ff) ≤ (x1_1.size : Int) then (if ((x1_1.extract 0 (bn : Int).toNat) ++ (strOfNums y423)).size + (x1_1.extract ((ff) : Int).toNat x1_1.size).size ≤ 9223372036854775807 then (spec_l1Cur_spoilt.l0 kj5 (((x1_1.extract 0 (bn : Int).toNat) ++ (strOfNums y423)) ++ (x1_1.extract ((ff) : Int).toNat x1_1.size)) a2 (wrap64 (x7_1 - 1)) s0_0 fb fa) else (none)) else (none)) else (none)) = some (r1, r2, r3) := by first | (rw [fg] at H; exact H) | (simp only [fg] at H ⊢; exact H)
             (try rw [fg] at A9)
             (try rw [fg] at k0)
             (try rw [fg] at mh)
             have hji32w : (IntKind.i64.wrap (bn + 1)) = ff := (i64_w _).trans fg
             by_cases gs : 0 ≤ (ff)
             ·rw [if_pos gs] at H
              have c33b0 := eq_true gs
              have c33b1 : decide (0 ≤ (ff)) = true := dT gs
              clear gs
              by_cases k6 : (ff) ≤ (x1_1.size : Int)
              ·rw [if_pos k6] at H
               have c34b0 := eq_true k6
               have c34b1 : decide ((ff) ≤ (x1_1.size : Int)) = true := dT k6
               clear k6
               by_cases ka : ((x1_1.extract 0 (bn : Int).toNat) ++ (strOfNums y423)).size + (x1_1.extract ((ff) : Int).toNat x1_1.size).size ≤ 9223372036854775807
               ·rw [if_pos ka] at H
                have c35b0 := eq_true ka
                have c35b1 : decide (((x1_1.extract 0 (bn : Int).toNat) ++ (strOfNums y423)).size + (x1_1.extract ((ff) : Int).toNat x1_1.size).size ≤ 9223372036854775807) = true := dT ka
                try have c35b2 : (9223372036854775807 < ((x1_1.extract 0 (bn : Int).toNat) ++ (strOfNums y423)).size + (x1_1.extract ((ff) : Int).toNat x1_1.size).size) = False := eq_false (Nat.not_lt.2 ka)
                (try (have c35x : (9223372036854775807 < ((bn).toNat + (strOfNums y423).size) + (x1_1.size.toNat - (ff).toNat)) = False := eq_false (fun h_ => by have e_ := of_eq_true c35b0; simp only [aC, aA] at e_; have f0_ : x1_1.size ≤ (x1_1.size : Int) := (by first | assumption | exact of_eq_true (by assumption) | exact oD (by assumption)); have f1_ : (bn) ≤ (x1_1.size : Int) := (by first | assumption | exact of_eq_true (by assumption) | exact oD (by assumption)); omega)))
                (try (have c35b2s := c35b2; simp only [aA] at c35b2s))
                have H' := aM H
                clear H
                go_wp2_with (first | (go_at_call 60; (with_reducible refine (spec_l1Cur_pick.calls g s0_0 x1001_1 x1002_1 (x1_1.size : Int) bn ek ej w0 _ ?side1 ?side2 A9.out).mono ?_); (case side1 => exact y40); (case side2 => exact y36); rintro e w36 ⟨rfl, hi, hb, hk⟩; replace HK := aM (KeepBut.trans z15 hk (.inl rfl)); replace HB := aM (hb); replace HI0 := aM (hi); (try clear hb); (try clear hk); (try clear hi); (try clear cn)) | (go_at_call 60; (with_reducible refine (spec_l1Cur_pick.calls g s0_0 ek ej (a2.size : Int) br cK cJ w0 _ ?side1 ?side2 k0.out).mono ?_); (case side1 => exact y40); (case side2 => exact y36); rintro e w37 ⟨rfl, hi, hb, hk⟩; replace HK := aM (KeepBut.trans z15 hk (.inl rfl)); replace HB := aM (hb); replace HI0 := aM (hi); (try clear hb); (try clear hk); (try clear hi); (try clear cn); have p13 : 0 ≤ (br : Int) := oD z2; have q13 : br < (a2.size : Int) := oD z2; have hx13 := bt_at a2 br; replace p13 := eq_true p13; replace q13 := eq_true q13) | ((with_reducible refine aw (N := 31) rfl ?_); (try (refine gate_guard (by rfl) ?_; dsimp only)); refine Kd.R_lit (Kd.int .u8) _ 5 ?hg (N := 31) ?hd (xs := ([bt a2 br] : List Int)) (inner := [.int .u8 (bt a2 br)]) (ok := fun _ => True) (okp := fun _ => True) ?hr ?hp (fun _ hk => hk) trivial (Below.refl _ _) (Nat.le_refl _) (by simp) ?_; (case hd => rfl); (case hg => rfl); (case hr => first | (go_simp; done) | (go_simp; rfl)); (case hp => exact (Reps.one (show Kd.M (Kd.int .u8) _ _ _ (bt a2 br) [.int .u8 (bt a2 br)] from rfl) (Reps.none _ _))); intro v424 w38 ho39 hb hg_ hnew_; clear hg_ hnew_; (first | rw [← Ny423.out] at ho39 | (simp only [Int.reduceToNat] at ho39; rw [← Ny423.out] at ho39)); have bE := aM (az ho39 (keep_size (w := w) (g := g) (row := none) z15)); replace HK := aM (KeepBut.trans z15 (KeepBut.of_below hb g none) (.inl rfl)); replace HB := aM (ap z21 hb); replace HI0 := aM (IsS66.below z23 hb); clear hb ho39; have hcv40 := own_string (P := Try.prog) Try.underlying34 Try.underlying5 Try.underlying9 (Kd.own_of_R bE.out)) | (go_at_call 60; (with_reducible refine (spec_l1Cur_pick.calls g s0_0 cK cJ 3 d6 fb fa w0 _ ?side1 ?side2 mh.out).mono ?_); (case side1 => exact y40); (case side2 => exact y36); rintro e w41 ⟨rfl, hi, hb, hk⟩; replace bE := aM (ag (Kd.R_keep (IsS66.apart (show IsS66 w0 _ g s0_0 cK cJ from by (try simp only [Int.add_zero]); repeat (first | (with_reducible first | exact HI0.out | apply IsS66.alloc | apply IsS66.drewN | apply IsS66.drew | apply IsS66.set_1 | apply IsS66.set_2) | exact HI0.out)) (kR_ bE.out) (by decide)) hk (fun _ h => h.2)) (fun _ h => h.1)); replace HK := aM (KeepBut.trans z15 hk (.inl rfl)); replace HB := aM (hb); replace HI0 := aM (hi); (try clear hb); (try clear hk); (try clear hi); (try clear cn)))
                repeat (go_quiet (fail); try go_wp2_with (first | (go_at_call 60; (with_reducible refine (spec_l1Cur_pick.calls g s0_0 x1001_1 x1002_1 (x1_1.size : Int) bn ek ej w0 _ ?side1 ?side2 A9.out).mono ?_); (case side1 => exact y40); (case side2 => exact y36); rintro e w36 ⟨rfl, hi, hb, hk⟩; replace HK := aM (KeepBut.trans z15 hk (.inl rfl)); replace HB := aM (hb); replace HI0 := aM (hi); (try clear hb); (try clear hk); (try clear hi); (try clear cn)) | (go_at_call 60; (with_reducible refine (spec_l1Cur_pick.calls g s0_0 ek ej (a2.size : Int) br cK cJ w0 _ ?side1 ?side2 k0.out).mono ?_); (case side1 => exact y40); (case side2 => exact y36); rintro e w37 ⟨rfl, hi, hb, hk⟩; replace HK := aM (KeepBut.trans z15 hk (.inl rfl)); replace HB := aM (hb); replace HI0 := aM (hi); (try clear hb); (try clear hk); (try clear hi); (try clear cn); have p13 : 0 ≤ (br : Int) := oD z2; have q13 : br < (a2.size : Int) := oD z2; have hx13 := bt_at a2 br; replace p13 := eq_true p13; replace q13 := eq_true q13) | ((with_reducible refine aw (N := 31) rfl ?_); (try (refine gate_guard (by rfl) ?_; dsimp only)); refine Kd.R_lit (Kd.int .u8) _ 5 ?hg (N := 31) ?hd (xs := ([bt a2 br] : List Int)) (inner := [.int .u8 (bt a2 br)]) (ok := fun _ => True) (okp := fun _ => True) ?hr ?hp (fun _ hk => hk) trivial (Below.refl _ _) (Nat.le_refl _) (by simp) ?_; (case hd => rfl); (case hg => rfl); (case hr => first | (go_simp; done) | (go_simp; rfl)); (case hp => exact (Reps.one (show Kd.M (Kd.int .u8) _ _ _ (bt a2 br) [.int .u8 (bt a2 br)] from rfl) (Reps.none _ _))); intro v424 w38 ho39 hb hg_ hnew_; clear hg_ hnew_; (first | rw [← Ny423.out] at ho39 | (simp only [Int.reduceToNat] at ho39; rw [← Ny423.out] at ho39)); have bE := aM (az ho39 (keep_size (w := w) (g := g) (row := none) z15)); replace HK := aM (KeepBut.trans z15 (KeepBut.of_below hb g none) (.inl rfl)); replace HB := aM (ap z21 hb); replace HI0 := aM (IsS66.below z23 hb); clear hb ho39; have hcv40 := own_string (P := Try.prog) Try.underlying34 Try.underlying5 Try.underlying9 (Kd.own_of_R bE.out)) | (go_at_call 60; (with_reducible refine (spec_l1Cur_pick.calls g s0_0 cK cJ 3 d6 fb fa w0 _ ?side1 ?side2 mh.out).mono ?_); (case side1 => exact y40); (case side2 => exact y36); rintro e w41 ⟨rfl, hi, hb, hk⟩; replace bE := aM (ag (Kd.R_keep (IsS66.apart (show IsS66 w0 _ g s0_0 cK cJ from by (try simp only [Int.add_zero]); repeat (first | (with_reducible first | exact HI0.out | apply IsS66.alloc | apply IsS66.drewN | apply IsS66.drew | apply IsS66.set_1 | apply IsS66.set_2) | exact HI0.out)) (kR_ bE.out) (by decide)) hk (fun _ h => h.2)) (fun _ h => h.1)); replace HK := aM (KeepBut.trans z15 hk (.inl rfl)); replace HB := aM (hb); replace HI0 := aM (hi); (try clear hb); (try clear hk); (try clear hi); (try clear cn))))
                go_roundg kj5
                case measure => have := HK1.out; have := gw.out; omega
                case rel => exact ⟨(((x1_1.extract 0 (bn : Int).toNat) ++ (strOfNums y423)) ++ (x1_1.extract ((ff) : Int).toNat x1_1.size)), (wrap64 (x7_1 - 1)), (fb), (fa), (by first | rfl | (simp; done) | (simp only [← fg] <;> (first | rfl | (simp; done) | (simp; generalize ByteArray.toList _ = u_; cases u_ <;> (first | rfl | (simp; done))))) | (simp [*]; done)), z1, (by first | exact H' | (simp only [fg]; exact H') | (simp only [← fg]; exact H')), ⟨by have := HK1.out; have := gw.out; omega⟩, ⟨y27⟩, ⟨y22⟩, ⟨y21⟩⟩
               ·rw [if_neg ka] at H
                exact absurd H (by simp)
              ·rw [if_neg k6] at H
               exact absurd H (by simp)
             ·rw [if_neg gs] at H
              exact absurd H (by simp)
            ·rw [if_neg dS] at H
             exact absurd H (by simp)
           ·rw [if_neg e3] at H
            exact absurd H (by simp)
          ·rw [if_neg iU] at H
           exact absurd H (by simp)
         ·rw [if_neg ib] at H
          have c28b0 : (d6 == 1) = false := qF ib
          have c28b1 : (d6 != 1) = true := nT ib
          by_cases tj : 0 ≤ bn
          ·rw [if_pos tj] at H
           have c42b0 := eq_true tj
           have c42b1 : decide (0 ≤ bn) = true := dT tj
           clear tj
           by_cases i1 : bn ≤ (x1_1.size : Int)
           ·rw [if_pos i1] at H
            have c43b0 := eq_true i1
            have c43b1 : decide (bn ≤ (x1_1.size : Int)) = true := dT i1
            clear i1
            obtain ⟨bG, dQ⟩ : ∃ j_ : Int, (wrap64 (bn + 1)) = j_ := ⟨_, rfl⟩
            replace H : (if 0 ≤ (bG) then (if (bG) ≤ (x1_1.size : Int) then (if (x1_1.extract 0 (bn : Int).toNat).size + (x1_1.extract ((bG) : Int).toNat x1_1.size).size ≤ 9223372036854775807 then (spec_l1Cur_spoilt.l0 kj5 ((x1_1.extract 0 (bn : Int).toNat) ++ (x1_1.extract ((bG) : Int).toNat x1_1.size)) a2 (wrap64 (x7_1 - 1)) s0_0 fb fa) else (none)) else (none)) else (none)) = some (r1, r2, r3) := by first | (rw [dQ] at H; exact H) | (simp only [dQ] at H ⊢; exact H)
            (try rw [dQ] at A9)
            (try rw [dQ] at k0)
            (try rw [dQ] at mh)
            have hji44w : (IntKind.i64.wrap (bn + 1)) = bG := (i64_w _).trans dQ
            by_cases k5 : 0 ≤ (bG)
            ·rw [if_pos k5] at H
             have c45b0 := eq_true k5
             have c45b1 : decide (0 ≤ (bG)) = true := dT k5
             clear k5
             by_cases d4 : (bG) ≤ (x1_1.size : Int)
             ·rw [if_pos d4] at H
              have c46b0 := eq_true d4
              have c46b1 : decide ((bG) ≤ (x1_1.size : Int)) = true := dT d4
              clear d4
              by_cases gb : (x1_1.extract 0 (bn : Int).toNat).size + (x1_1.extract ((bG) : Int).toNat x1_1.size).size ≤ 9223372036854775807
              ·rw [if_pos gb] at H
               have c47b0 := eq_true gb
               have c47b1 : decide ((x1_1.extract 0 (bn : Int).toNat).size + (x1_1.extract ((bG) : Int).toNat x1_1.size).size ≤ 9223372036854775807) = true := dT gb
               try have c47b2 : (9223372036854775807 < (x1_1.extract 0 (bn : Int).toNat).size + (x1_1.extract ((bG) : Int).toNat x1_1.size).size) = False := eq_false (Nat.not_lt.2 gb)
               (try (have c47x : (9223372036854775807 < (bn).toNat + (x1_1.size.toNat - (bG).toNat)) = False := eq_false (fun h_ => by have e_ := of_eq_true c47b0; simp only [aC, aA] at e_; have f0_ : x1_1.size ≤ (x1_1.size : Int) := (by first | assumption | exact of_eq_true (by assumption) | exact oD (by assumption)); have f1_ : (bn) ≤ (x1_1.size : Int) := (by first | assumption | exact of_eq_true (by assumption) | exact oD (by assumption)); omega)))
               have H' := aM H
               clear H
               go_wp2_with (first | (go_at_call 60; (with_reducible refine (spec_l1Cur_pick.calls g s0_0 x1001_1 x1002_1 (x1_1.size : Int) bn ek ej w0 _ ?side1 ?side2 A9.out).mono ?_); (case side1 => exact y40); (case side2 => exact y36); rintro e w48 ⟨rfl, hi, hb, hk⟩; replace HK := aM (KeepBut.trans z15 hk (.inl rfl)); replace HB := aM (hb); replace HI0 := aM (hi); (try clear hb); (try clear hk); (try clear hi); (try clear cn)) | (go_at_call 60; (with_reducible refine (spec_l1Cur_pick.calls g s0_0 ek ej (a2.size : Int) br cK cJ w0 _ ?side1 ?side2 k0.out).mono ?_); (case side1 => exact y40); (case side2 => exact y36); rintro e w49 ⟨rfl, hi, hb, hk⟩; replace HK := aM (KeepBut.trans z15 hk (.inl rfl)); replace HB := aM (hb); replace HI0 := aM (hi); (try clear hb); (try clear hk); (try clear hi); (try clear cn); have p13 : 0 ≤ (br : Int) := oD z2; have q13 : br < (a2.size : Int) := oD z2; have hx13 := bt_at a2 br; replace p13 := eq_true p13; replace q13 := eq_true q13) | ((with_reducible refine aw (N := 31) rfl ?_); (try (refine gate_guard (by rfl) ?_; dsimp only)); refine Kd.R_lit (Kd.int .u8) _ 5 ?hg (N := 31) ?hd (xs := ([bt a2 br] : List Int)) (inner := [.int .u8 (bt a2 br)]) (ok := fun _ => True) (okp := fun _ => True) ?hr ?hp (fun _ hk => hk) trivial (Below.refl _ _) (Nat.le_refl _) (by simp) ?_; (case hd => rfl); (case hg => rfl); (case hr => first | (go_simp; done) | (go_simp; rfl)); (case hp => exact (Reps.one (show Kd.M (Kd.int .u8) _ _ _ (bt a2 br) [.int .u8 (bt a2 br)] from rfl) (Reps.none _ _))); intro v424 w50 ho51 hb hg_ hnew_; clear hg_ hnew_; (first | rw [← Ny423.out] at ho51 | (simp only [Int.reduceToNat] at ho51; rw [← Ny423.out] at ho51)); have bE := aM (az ho51 (keep_size (w := w) (g := g) (row := none) z15)); replace HK := aM (KeepBut.trans z15 (KeepBut.of_below hb g none) (.inl rfl)); replace HB := aM (ap z21 hb); replace HI0 := aM (IsS66.below z23 hb); clear hb ho51; have hcv52 := own_string (P := Try.prog) Try.underlying34 Try.underlying5 Try.underlying9 (Kd.own_of_R bE.out)) | (go_at_call 60; (with_reducible refine (spec_l1Cur_pick.calls g s0_0 cK cJ 3 d6 fb fa w0 _ ?side1 ?side2 mh.out).mono ?_); (case side1 => exact y40); (case side2 => exact y36); rintro e w53 ⟨rfl, hi, hb, hk⟩; replace bE := aM (ag (Kd.R_keep (IsS66.apart (show IsS66 w0 _ g s0_0 cK cJ from by (try simp only [Int.add_zero]); repeat (first | (with_reducible first | exact HI0.out | apply IsS66.alloc | apply IsS66.drewN | apply IsS66.drew | apply IsS66.set_1 | apply IsS66.set_2) | exact HI0.out)) (kR_ bE.out) (by decide)) hk (fun _ h => h.2)) (fun _ h => h.1)); replace HK := aM (KeepBut.trans z15 hk (.inl rfl)); replace HB := aM (hb); replace HI0 := aM (hi); (try clear hb); (try clear hk); (try clear hi); (try clear cn)))
               repeat (go_quiet (fail); try go_wp2_with (first | (go_at_call 60; (with_reducible refine (spec_l1Cur_pick.calls g s0_0 x1001_1 x1002_1 (x1_1.size : Int) bn ek ej w0 _ ?side1 ?side2 A9.out).mono ?_); (case side1 => exact y40); (case side2 => exact y36); rintro e w48 ⟨rfl, hi, hb, hk⟩; replace HK := aM (KeepBut.trans z15 hk (.inl rfl)); replace HB := aM (hb); replace HI0 := aM (hi); (try clear hb); (try clear hk); (try clear hi); (try clear cn)) | (go_at_call 60; (with_reducible refine (spec_l1Cur_pick.calls g s0_0 ek ej (a2.size : Int) br cK cJ w0 _ ?side1 ?side2 k0.out).mono ?_); (case side1 => exact y40); (case side2 => exact y36); rintro e w49 ⟨rfl, hi, hb, hk⟩; replace HK := aM (KeepBut.trans z15 hk (.inl rfl)); replace HB := aM (hb); replace HI0 := aM (hi); (try clear hb); (try clear hk); (try clear hi); (try clear cn); have p13 : 0 ≤ (br : Int) := oD z2; have q13 : br < (a2.size : Int) := oD z2; have hx13 := bt_at a2 br; replace p13 := eq_true p13; replace q13 := eq_true q13) | ((with_reducible refine aw (N := 31) rfl ?_); (try (refine gate_guard (by rfl) ?_; dsimp only)); refine Kd.R_lit (Kd.int .u8) _ 5 ?hg (N := 31) ?hd (xs := ([bt a2 br] : List Int)) (inner := [.int .u8 (bt a2 br)]) (ok := fun _ => True) (okp := fun _ => True) ?hr ?hp (fun _ hk => hk) trivial (Below.refl _ _) (Nat.le_refl _) (by simp) ?_; (case hd => rfl); (case hg => rfl); (case hr => first | (go_simp; done) | (go_simp; rfl)); (case hp => exact (Reps.one (show Kd.M (Kd.int .u8) _ _ _ (bt a2 br) [.int .u8 (bt a2 br)] from rfl) (Reps.none _ _))); intro v424 w50 ho51 hb hg_ hnew_; clear hg_ hnew_; (first | rw [← Ny423.out] at ho51 | (simp only [Int.reduceToNat] at ho51; rw [← Ny423.out] at ho51)); have bE := aM (az ho51 (keep_size (w := w) (g := g) (row := none) z15)); replace HK := aM (KeepBut.trans z15 (KeepBut.of_below hb g none) (.inl rfl)); replace HB := aM (ap z21 hb); replace HI0 := aM (IsS66.below z23 hb); clear hb ho51; have hcv52 := own_string (P := Try.prog) Try.underlying34 Try.underlying5 Try.underlying9 (Kd.own_of_R bE.out)) | (go_at_call 60; (with_reducible refine (spec_l1Cur_pick.calls g s0_0 cK cJ 3 d6 fb fa w0 _ ?side1 ?side2 mh.out).mono ?_); (case side1 => exact y40); (case side2 => exact y36); rintro e w53 ⟨rfl, hi, hb, hk⟩; replace bE := aM (ag (Kd.R_keep (IsS66.apart (show IsS66 w0 _ g s0_0 cK cJ from by (try simp only [Int.add_zero]); repeat (first | (with_reducible first | exact HI0.out | apply IsS66.alloc | apply IsS66.drewN | apply IsS66.drew | apply IsS66.set_1 | apply IsS66.set_2) | exact HI0.out)) (kR_ bE.out) (by decide)) hk (fun _ h => h.2)) (fun _ h => h.1)); replace HK := aM (KeepBut.trans z15 hk (.inl rfl)); replace HB := aM (hb); replace HI0 := aM (hi); (try clear hb); (try clear hk); (try clear hi); (try clear cn))))
               go_roundg kj5
               case measure => have := HK1.out; have := gw.out; omega
               case rel => exact ⟨((x1_1.extract 0 (bn : Int).toNat) ++ (x1_1.extract ((bG) : Int).toNat x1_1.size)), (wrap64 (x7_1 - 1)), (fb), (fa), (by first | rfl | (simp; done) | (simp only [← dQ] <;> (first | rfl | (simp; done) | (simp; generalize ByteArray.toList _ = u_; cases u_ <;> (first | rfl | (simp; done))))) | (simp [*]; done)), z1, (by first | exact H' | (simp only [dQ]; exact H') | (simp only [← dQ]; exact H')), ⟨by have := HK1.out; have := gw.out; omega⟩, ⟨y27⟩, ⟨y22⟩, ⟨y21⟩⟩
              ·rw [if_neg gb] at H
               exact absurd H (by simp)
             ·rw [if_neg d4] at H
              exact absurd H (by simp)
            ·rw [if_neg k5] at H
             exact absurd H (by simp)
           ·rw [if_neg i1] at H
            exact absurd H (by simp)
          ·rw [if_neg tj] at H
           exact absurd H (by simp)
       ·rw [if_neg b5] at H
        exact absurd H (by simp)
      ·rw [if_neg cP] at H
       exact absurd H (by simp)
     ·replace c8 := Bool.eq_false_iff.mpr c8
      subst c8
      rw [if_neg nF_] at H
      simp only [Option.some.injEq, Prod.mk.injEq] at H
      obtain ⟨rfl, rfl, rfl⟩ := H
      go_wp2
      repeat (go_quiet (fail); try go_wp2)
      go_ret
      exact ⟨y4, y27, y21, y22⟩

/-! ### spec_l1Cur_doc: function 42 -/
def spec_l1Cur_doc.j0 : Nat → ByteArray → List Int → Int → Int → Option (ByteArray × Int × Int)
 | 0, _, _, _, _ => none
 | k + 1, x3, x1000, x1001, x1002 => (spec_l1Cur_one.f x1000 x1001 x1002 12).bind fun kN => (if kN.1 = true then ((spec_l1Cur_spoilt.f k x1000 kN.2.1 kN.2.2 x3 (⟨#[65, 47, 97, 90]⟩ : ByteArray)).bind fun oH => (some (oH.1, oH.2.1, oH.2.2))) else (some (x3, kN.2.1, kN.2.2)))
def spec_l1Cur_doc.f (k : Nat) (s0_0 : List Int) (s0_1 : Int) (s0_2 : Int) : Option (ByteArray × Int × Int) := (spec_l1Cur_pick.f s0_0 s0_1 s0_2 7).bind fun ii => ((spec_l1Cur_inner.f k s0_0 ii.2.1 ii.2.2 ii.1 3).bind fun ig => ((spec_l1Cur_pick.f s0_0 ig.2.1 ig.2.2 30).bind fun de => (if de.1 = 0 then ((spec_l1Cur_inner.f k s0_0 de.2.1 de.2.2 60 3).bind fun ie => (spec_l1Cur_doc.j0 k ie.1 s0_0 ie.2.1 ie.2.2)) else (if de.1 = 1 then ((spec_l1Cur_of.f s0_0 de.2.1 de.2.2 (([(⟨#[65, 65, 65, 65, 65, 65, 65, 65, 65, 65, 65, 65, 47, 47, 47, 47, 47, 47, 47, 47, 47, 47, 47, 47]⟩ : ByteArray), (⟨#[65, 65, 65, 65, 65, 65, 65, 65, 65, 65, 65, 65, 65, 47, 47, 47, 47, 47, 47, 47, 47, 47, 47, 47, 47, 47]⟩ : ByteArray)] : List ByteArray))).bind fun ew => (spec_l1Cur_doc.j0 k ew.1 s0_0 ew.2.1 ew.2.2)) else (spec_l1Cur_doc.j0 k ig.1 s0_0 de.2.1 de.2.2)))))
theorem spec_l1Cur_doc.mono_l : ∀ k, (∀ y0 y1 y2 y3, LeO (spec_l1Cur_doc.j0 k y0 y1 y2 y3) (spec_l1Cur_doc.j0 (k + 1) y0 y1 y2 y3))
 | 0 => fun _ _ _ _ r h => by simp [spec_l1Cur_doc.j0] at h
 | k + 1 => by
  have ih0 := spec_l1Cur_doc.mono_l k
  ·intro y0 y1 y2 y3
   unfold spec_l1Cur_doc.j0
   repeat' first
   | (with_reducible exact ih0 _ _ _ _)
   | (with_reducible exact spec_l1Cur_inner.mono _ _ _ _ _ _)
   | (with_reducible exact spec_l1Cur_spoilt.mono _ _ _ _ _ _)
   | (with_reducible exact LeO.refl _)
   | (with_reducible exact LeO.none _)
   | (with_reducible refine LeO.ite ?_ ?_)
   | (with_reducible refine LeO.bind ?_ (fun _ => ?_))
theorem spec_l1Cur_doc.mono : ∀ a0 a1 a2 k, LeO (spec_l1Cur_doc.f k a0 a1 a2) (spec_l1Cur_doc.f (k + 1) a0 a1 a2) := by
 intro a0 a1 a2 k
 have ih0 := spec_l1Cur_doc.mono_l k
 unfold spec_l1Cur_doc.f
 repeat' first
   | (with_reducible exact ih0 _ _ _ _)
   | (with_reducible exact spec_l1Cur_inner.mono _ _ _ _ _ _)
   | (with_reducible exact spec_l1Cur_spoilt.mono _ _ _ _ _ _)
   | (with_reducible exact LeO.refl _)
   | (with_reducible exact LeO.none _)
   | (with_reducible refine LeO.ite ?_ ?_)
   | (with_reducible refine LeO.bind ?_ (fun _ => ?_))
set_option maxHeartbeats 8000000 in
set_option maxRecDepth 100000 in
theorem spec_l1Cur_doc.calls (k : Nat) (g : Nat) (s0_0 : List Int) (s0_1 : Int) (s0_2 : Int) (r1 : ByteArray) (r2 : Int) (r3 : Int) (w0 w : World) (hI : IsS66 w0 w g s0_0 s0_1 s0_2) (hB : Below w0.heap.size w0 w) (h : spec_l1Cur_doc.f k s0_0 s0_1 s0_2 = some (r1, r2, r3)) :
  Calls Try.prog 42 #[.pointer (some ⟨g, 0, none⟩)] w fun e w' => e = .returned (.string r1) ∧ IsS66 w0 w' g s0_0 r2 r3 ∧ Below w0.heap.size w0 w' ∧ KeepBut w w' g none := by
 have HI0 := aM hI
 have HK := aM (KeepBut.refl w g none)
 have HL := aM hB.size
 clear hI
 have HW0 := aM hB.size
 have HB := aM hB
 clear hB
 have H : ((spec_l1Cur_pick.f s0_0 s0_1 s0_2 7).bind fun ii => ((spec_l1Cur_inner.f k s0_0 ii.2.1 ii.2.2 ii.1 3).bind fun ig => ((spec_l1Cur_pick.f s0_0 ig.2.1 ig.2.2 30).bind fun de => (if de.1 = 0 then ((spec_l1Cur_inner.f k s0_0 de.2.1 de.2.2 60 3).bind fun ie => (spec_l1Cur_doc.j0 k ie.1 s0_0 ie.2.1 ie.2.2)) else (if de.1 = 1 then ((spec_l1Cur_of.f s0_0 de.2.1 de.2.2 (([(⟨#[65, 65, 65, 65, 65, 65, 65, 65, 65, 65, 65, 65, 47, 47, 47, 47, 47, 47, 47, 47, 47, 47, 47, 47]⟩ : ByteArray), (⟨#[65, 65, 65, 65, 65, 65, 65, 65, 65, 65, 65, 65, 65, 47, 47, 47, 47, 47, 47, 47, 47, 47, 47, 47, 47, 47]⟩ : ByteArray)] : List ByteArray))).bind fun ew => (spec_l1Cur_doc.j0 k ew.1 s0_0 ew.2.1 ew.2.2)) else (spec_l1Cur_doc.j0 k ig.1 s0_0 de.2.1 de.2.2)))))) = some (r1, r2, r3) := h
 clear h
 obtain ⟨⟨qP, sP, sO⟩, A2, H⟩ := oA_ H
 try dsimp only at H
 obtain ⟨⟨sN, sM, sL⟩, A3, H⟩ := oA_ H
 try dsimp only at H
 obtain ⟨⟨hL, nu, nt⟩, A4, H⟩ := oA_ H
 try dsimp only at H
 have oW := aM H
 clear H
 go_enter Try.func42, Try.ntmps42
 go_upto_block 0 with (first | ((with_reducible refine av (f := 60) rfl ?_); refine ay (some 6) rfl rfl Try.func60 z0 rfl #[.pointer (some ⟨g, 0, none⟩), .int .i64 7] rfl z14 ?_; (with_reducible refine (spec_l1Cur_pick.calls g s0_0 s0_1 s0_2 7 qP sP sO w0 _ ?side1 ?side2 A2.out).mono ?_); (case side1 => exact y40); (case side2 => exact y36); rintro e w6 ⟨rfl, hi, hb, hk⟩; refine ⟨_, rfl, ?_⟩; replace HK := aM (KeepBut.trans z15 hk (.inl rfl)); replace HB := aM (hb); replace HI0 := aM (hi); (try clear hb); (try clear hk); (try clear hi); (try clear cn)) | ((with_reducible refine av (f := 59) rfl ?_); refine ay (some 7) rfl rfl Try.func59 z0 rfl #[.pointer (some ⟨g, 0, none⟩), .int .i64 qP, .int .i64 3] rfl z14 ?_; (with_reducible refine (spec_l1Cur_inner.calls k g s0_0 sP sO qP 3 sN sM sL w0 _ ?side1 ?side2 A3.out).mono ?_); (case side1 => exact y40); (case side2 => exact y36); rintro e w7 ⟨rfl, hi, hb, hk⟩; refine ⟨_, rfl, ?_⟩; replace HK := aM (KeepBut.trans z15 hk (.inl rfl)); replace HB := aM (hb); replace HI0 := aM (hi); (try clear hb); (try clear hk); (try clear hi); (try clear cn)) | ((with_reducible refine av (f := 60) rfl ?_); refine ay (some 9) rfl rfl Try.func60 z0 rfl #[.pointer (some ⟨g, 0, none⟩), .int .i64 30] rfl z14 ?_; (with_reducible refine (spec_l1Cur_pick.calls g s0_0 sM sL 30 hL nu nt w0 _ ?side1 ?side2 A4.out).mono ?_); (case side1 => exact y40); (case side2 => exact y36); rintro e w8 ⟨rfl, hi, hb, hk⟩; refine ⟨_, rfl, ?_⟩; replace HK := aM (KeepBut.trans z15 hk (.inl rfl)); replace HB := aM (hb); replace HI0 := aM (hi); (try clear hb); (try clear hk); (try clear hi); (try clear cn)))
 (try simp only [Act.put, sA, sB, sC])
 go_cut [3] (fun v3 wc => ∃ (kq : Nat) (x3_4 : ByteArray) (x1001_4 : Int) (x1002_4 : Int), v3 = .string x3_4 ∧ Aside0 (spec_l1Cur_doc.j0 kq x3_4 s0_0 x1001_4 x1002_4 = some (r1, r2, r3)) ∧ Aside0 (kq ≤ k) ∧ Aside0 (IsS66 w0 wc g s0_0 x1001_4 x1002_4) ∧ Aside0 (KeepBut w wc g none) ∧ Aside0 (Below w0.heap.size w0 wc))
 case first =>
  have H := oW.out
  clear oW
  by_cases c9 : hL = 0
  ·rw [if_pos c9] at H
   have c9b0 : (hL == 0) = true := qT c9
   have c9b1 : (hL != 0) = false := nF c9
   clear c9
   (first | rw [c9b0] | (simp only [i64_w, i32_w]; rw [c9b0]) | skip)
   obtain ⟨⟨sK, sJ, sH⟩, k0, H⟩ := oA_ H
   try dsimp only at H
   have H' := aM H
   clear H
   go_wp2_with (first | ((with_reducible refine av (f := 59) rfl ?_); refine ay (some 13) rfl rfl Try.func59 z0 rfl #[.pointer (some ⟨g, 0, none⟩), .int .i64 60, .int .i64 3] rfl z14 ?_; (with_reducible refine (spec_l1Cur_inner.calls k g s0_0 nu nt 60 3 sK sJ sH w0 _ ?side1 ?side2 k0.out).mono ?_); (case side1 => exact y40); (case side2 => exact y36); rintro e w11 ⟨rfl, hi, hb, hk⟩; refine ⟨_, rfl, ?_⟩; replace HK := aM (KeepBut.trans z15 hk (.inl rfl)); replace HB := aM (hb); replace HI0 := aM (hi); (try clear hb); (try clear hk); (try clear hi); (try clear cn)))
   go_meet
   case rel => exact ⟨_, (sK), (sJ), (sH), z1, H', ⟨y0⟩, ⟨y27⟩, ⟨y22⟩, ⟨y21⟩⟩
  ·rw [if_neg c9] at H
   have c9b0 : (hL == 0) = false := qF c9
   have c9b1 : (hL != 0) = true := nT c9
   (first | rw [c9b0] | (simp only [i64_w, i32_w]; rw [c9b0]) | skip)
   by_cases b5 : hL = 1
   ·rw [if_pos b5] at H
    have c12b0 : (hL == 1) = true := qT b5
    have c12b1 : (hL != 1) = false := nF b5
    clear b5
    obtain ⟨y441, hy441⟩ : ∃ y_ : List ByteArray, y_ = (([(⟨#[65, 65, 65, 65, 65, 65, 65, 65, 65, 65, 65, 65, 47, 47, 47, 47, 47, 47, 47, 47, 47, 47, 47, 47]⟩ : ByteArray), (⟨#[65, 65, 65, 65, 65, 65, 65, 65, 65, 65, 65, 65, 65, 47, 47, 47, 47, 47, 47, 47, 47, 47, 47, 47, 47, 47]⟩ : ByteArray)] : List ByteArray)) := ⟨_, rfl⟩
    replace H : ((spec_l1Cur_of.f s0_0 nu nt y441).bind fun ew => (spec_l1Cur_doc.j0 k ew.1 s0_0 ew.2.1 ew.2.2)) = some (r1, r2, r3) := by first | (rw [hy441]; with_reducible exact H) | (have H2_ := (Option.bind_some _ _).symm.trans H; rw [hy441]; with_reducible exact H2_) | (have H2_ := (Option.bind_some _ _).symm.trans H; with_reducible exact H2_) | with_reducible exact H | (rw [hy441]; exact H) | exact H
    have Ny441 := aM hy441
    clear hy441
    obtain ⟨⟨sG, sF, sE⟩, ph, H⟩ := oA_ H
    try dsimp only at H
    have H' := aM H
    clear H
    go_wp2_with (first | ((with_reducible refine aw (N := 17) rfl ?_); refine Kd.R_lit Kd.string _ 9 ?hg (N := 17) ?hd (xs := ([(⟨#[65, 65, 65, 65, 65, 65, 65, 65, 65, 65, 65, 65, 47, 47, 47, 47, 47, 47, 47, 47, 47, 47, 47, 47]⟩ : ByteArray), (⟨#[65, 65, 65, 65, 65, 65, 65, 65, 65, 65, 65, 65, 65, 47, 47, 47, 47, 47, 47, 47, 47, 47, 47, 47, 47, 47]⟩ : ByteArray)] : List ByteArray)) (inner := [.string (⟨#[65, 65, 65, 65, 65, 65, 65, 65, 65, 65, 65, 65, 47, 47, 47, 47, 47, 47, 47, 47, 47, 47, 47, 47]⟩ : ByteArray), .string (⟨#[65, 65, 65, 65, 65, 65, 65, 65, 65, 65, 65, 65, 65, 47, 47, 47, 47, 47, 47, 47, 47, 47, 47, 47, 47, 47]⟩ : ByteArray)]) (ok := fun _ => True) (okp := fun _ => True) ?hr ?hp (fun _ hk => hk) trivial (Below.refl _ _) (Nat.le_refl _) (by simp) ?_; (case hd => rfl); (case hg => rfl); (case hr => first | (go_simp; done) | (go_simp; rfl)); (case hp => exact (Reps.one (show Kd.M Kd.string _ _ _ (⟨#[65, 65, 65, 65, 65, 65, 65, 65, 65, 65, 65, 65, 47, 47, 47, 47, 47, 47, 47, 47, 47, 47, 47, 47]⟩ : ByteArray) [.string (⟨#[65, 65, 65, 65, 65, 65, 65, 65, 65, 65, 65, 65, 47, 47, 47, 47, 47, 47, 47, 47, 47, 47, 47, 47]⟩ : ByteArray)] from rfl) (Reps.one (show Kd.M Kd.string _ _ _ (⟨#[65, 65, 65, 65, 65, 65, 65, 65, 65, 65, 65, 65, 65, 47, 47, 47, 47, 47, 47, 47, 47, 47, 47, 47, 47, 47]⟩ : ByteArray) [.string (⟨#[65, 65, 65, 65, 65, 65, 65, 65, 65, 65, 65, 65, 65, 47, 47, 47, 47, 47, 47, 47, 47, 47, 47, 47, 47, 47]⟩ : ByteArray)] from rfl) (Reps.none _ _)))); intro v442 w14 ho15 hb hg_ hnew_; clear hg_ hnew_; (first | rw [← Ny441.out] at ho15 | (simp only [Int.reduceToNat] at ho15; rw [← Ny441.out] at ho15)); have iI := aM (az ho15 (keep_size (w := w) (g := g) (row := none) z15)); replace HK := aM (KeepBut.trans z15 (KeepBut.of_below hb g none) (.inl rfl)); replace HB := aM (ap z21 hb); replace HI0 := aM (IsS66.below z23 hb); clear hb ho15; obtain ⟨rK, rl, eo16⟩ := Kd.R_slice iI.out; subst eo16) | ((with_reducible refine av (f := 61) rfl ?_); refine ay (some 18) rfl rfl Try.func61 z0 rfl #[.pointer (some ⟨g, 0, none⟩), .slice rK y441.length rl] rfl z14 ?_; (with_reducible refine (spec_l1Cur_of.calls g s0_0 nu nt _ _ y441 sG sF sE w0 _ ?side1 ?side2 ?side3 ?side4 ?side5 ph.out).mono ?_); (case side1 => exact y40); (case side2 => exact y36); (case side3 => repeat (first | exact (ah iI.out).2.2 | (with_reducible refine Kd.C_alloc ?_ _) | (with_reducible refine Kd.C_drewN ?_ _) | (with_reducible refine Kd.C_drew ?_))); (case side4 => exact (ah iI.out).2.1); (case side5 => exact far_slice (IsS66.own_ne HI0.out iI.out (by decide))); rintro e w17 ⟨rfl, hi, hb, hk⟩; refine ⟨_, rfl, ?_⟩; replace iI := aM (ag (Kd.R_keep (IsS66.apart (show IsS66 w0 _ g s0_0 nu nt from by (try simp only [Int.add_zero]); repeat (first | (with_reducible first | exact HI0.out | apply IsS66.alloc | apply IsS66.drewN | apply IsS66.drew | apply IsS66.set_1 | apply IsS66.set_2) | exact HI0.out)) (kR_ iI.out) (by decide)) hk (fun _ h => h.2)) (fun _ h => h.1)); replace HK := aM (KeepBut.trans z15 hk (.inl rfl)); replace HB := aM (hb); replace HI0 := aM (hi); (try clear hb); (try clear hk); (try clear hi); (try clear cn)))
    go_meet
    case rel => exact ⟨_, (sG), (sF), (sE), z1, H', ⟨y0⟩, ⟨y27⟩, ⟨y22⟩, ⟨y21⟩⟩
   ·rw [if_neg b5] at H
    have c12b0 : (hL == 1) = false := qF b5
    have c12b1 : (hL != 1) = true := nT b5
    have H' := aM H
    clear H
    go_wp2
    go_meet
    case rel => exact ⟨_, (sN), (nu), (nt), z1, H', ⟨y0⟩, ⟨y27⟩, ⟨y22⟩, ⟨y21⟩⟩
 case rest =>
  clear oW
  obtain ⟨kq, x3_4, x1001_4, x1002_4, rfl, HA, pY, HI0, HK, HB⟩ := hcut
  cases kq with
  | zero => exact absurd HA.out (by simp [spec_l1Cur_doc.j0])
  | succ kj4 =>
   have H := HA.out
   clear HA
   simp only [spec_l1Cur_doc.j0] at H
   obtain ⟨⟨t447, qO, qN⟩, ux, H⟩ := oA_ H
   try dsimp only at H
   by_cases hG : t447 = true
   ·subst hG
    rw [if_pos rfl] at H
    obtain ⟨⟨t450, t451, t452⟩, k7, H⟩ := oA_ H
    try dsimp only at H
    simp only [Option.some.injEq, Prod.mk.injEq] at H
    obtain ⟨rfl, rfl, rfl⟩ := H
    go_wp2_with (first | ((with_reducible refine av (f := 62) rfl ?_); refine ay (some 20) rfl rfl Try.func62 z0 rfl #[.pointer (some ⟨g, 0, none⟩), .int .i64 12] rfl z14 ?_; (with_reducible refine (spec_l1Cur_one.calls g s0_0 x1001_4 x1002_4 12 true qO qN w0 _ ?side1 ?side2 ux.out).mono ?_); (case side1 => exact y40); (case side2 => exact y36); rintro e w21 ⟨rfl, hi, hb, hk⟩; refine ⟨_, rfl, ?_⟩; replace HK := aM (KeepBut.trans z15 hk (.inl rfl)); replace HB := aM (hb); replace HI0 := aM (hi); (try clear hb); (try clear hk); (try clear hi); (try clear cn)) | ((with_reducible refine av (f := 63) rfl ?_); refine ay (some 23) rfl rfl Try.func63 z0 rfl #[.pointer (some ⟨g, 0, none⟩), .string x3_4, .string (⟨#[65, 47, 97, 90]⟩ : ByteArray)] rfl z14 ?_; (with_reducible refine (spec_l1Cur_spoilt.calls kj4 g s0_0 qO qN x3_4 (⟨#[65, 47, 97, 90]⟩ : ByteArray) t450 t451 t452 w0 _ ?side1 ?side2 k7.out).mono ?_); (case side1 => exact y40); (case side2 => exact y36); rintro e w22 ⟨rfl, hi, hb, hk⟩; refine ⟨_, rfl, ?_⟩; replace HK := aM (KeepBut.trans z15 hk (.inl rfl)); replace HB := aM (hb); replace HI0 := aM (hi); (try clear hb); (try clear hk); (try clear hi); (try clear cn)))
    go_ret
    exact ⟨y4, y27, y21, y22⟩
   ·replace hG := Bool.eq_false_iff.mpr hG
    subst hG
    rw [if_neg nF_] at H
    simp only [Option.some.injEq, Prod.mk.injEq] at H
    obtain ⟨rfl, rfl, rfl⟩ := H
    go_wp2_with (first | ((with_reducible refine av (f := 62) rfl ?_); refine ay (some 20) rfl rfl Try.func62 z0 rfl #[.pointer (some ⟨g, 0, none⟩), .int .i64 12] rfl z14 ?_; (with_reducible refine (spec_l1Cur_one.calls g s0_0 x1001_4 x1002_4 12 false qO qN w0 _ ?side1 ?side2 ux.out).mono ?_); (case side1 => exact y40); (case side2 => exact y36); rintro e w23 ⟨rfl, hi, hb, hk⟩; refine ⟨_, rfl, ?_⟩; replace HK := aM (KeepBut.trans z15 hk (.inl rfl)); replace HB := aM (hb); replace HI0 := aM (hi); (try clear hb); (try clear hk); (try clear hi); (try clear cn)))
    go_ret
    exact ⟨y4, y27, y21, y22⟩

end Go.Proofs.Ytmigfgcpdelnfaa.AFnUndoneBy
