-- this session's own text: written by wip/tools/ownprint.py over the kit's print
import Derived.Test.YtmigfgcpdelnfaaAFnUndoneByx0
import Derived.Test.YtmigfgcpdelnfaaAFnUndoneByx11
namespace Go.Proofs.Ytmigfgcpdelnfaa.AFnUndoneBy
open Go.RowKit Go.Proofs.YtmigfgcpdelnfaaW.PrintWords Go.Proofs.YtmigfgcpdelnfaaW.PrintLast Go.Proofs.YtmigfgcpdelnfaaW.PrintMore
attribute [local go_sem] max2_int min2_int max_two min_two max_three min_three max_four min_four   -- for this text's walks alone
set_option linter.unusedVariables false
set_option linter.unusedSimpArgs false

/-! ### spec_l1Cur_pick: function 60 -/
def spec_l1Cur_pick.f (s0_0 : List Int) (s0_1 : Int) (s0_2 : Int) (a1 : Int) : Option (Int × Int × Int) := if a1 ≤ 1 then (some (0, s0_1, s0_2)) else ((spec_l1Cur_next.f s0_0 s0_1 s0_2).bind fun d2 => (if a1 > 200 then ((spec_l1Cur_next.f s0_0 d2.2.1 d2.2.2).bind fun im => (if a1 = 0 then (none) else (some (Int.tmod (wrap64 ((wrap64 (d2.1 * 256)) + im.1)) a1, im.2.1, im.2.2)))) else (if a1 = 0 then (none) else (some (Int.tmod d2.1 a1, d2.2.1, d2.2.2)))))
set_option maxHeartbeats 8000000 in
set_option maxRecDepth 100000 in
theorem spec_l1Cur_pick.calls (g : Nat) (s0_0 : List Int) (s0_1 : Int) (s0_2 : Int) (a1 : Int) (r1 : Int) (r2 : Int) (r3 : Int) (w0 w : World) (hI : IsS66 w0 w g s0_0 s0_1 s0_2) (hB : Below w0.heap.size w0 w) (h : spec_l1Cur_pick.f s0_0 s0_1 s0_2 a1 = some (r1, r2, r3)) :
  Calls Try.prog 60 #[.pointer (some ⟨g, 0, none⟩), .int .i64 a1] w fun e w' => e = .returned (.int .i64 r1) ∧ IsS66 w0 w' g s0_0 r2 r3 ∧ Below w0.heap.size w0 w' ∧ KeepBut w w' g none := by
 have HI0 := aM hI
 have HK := aM (KeepBut.refl w g none)
 have HL := aM hB.size
 clear hI
 have HW0 := aM hB.size
 have HB := aM hB
 clear hB
 have H : (if a1 ≤ 1 then (some (0, s0_1, s0_2)) else ((spec_l1Cur_next.f s0_0 s0_1 s0_2).bind fun d2 => (if a1 > 200 then ((spec_l1Cur_next.f s0_0 d2.2.1 d2.2.2).bind fun im => (if a1 = 0 then (none) else (some (Int.tmod (wrap64 ((wrap64 (d2.1 * 256)) + im.1)) a1, im.2.1, im.2.2)))) else (if a1 = 0 then (none) else (some (Int.tmod d2.1 a1, d2.2.1, d2.2.2)))))) = some (r1, r2, r3) := h
 clear h
 by_cases c3 : a1 ≤ 1
 ·rw [if_pos c3] at H
  have c3b0 : decide (a1 ≤ 1) = true := dT c3
  clear c3
  simp only [Option.some.injEq, Prod.mk.injEq] at H
  obtain ⟨rfl, rfl, rfl⟩ := H
  go_enter Try.func60, Try.ntmps60
  go_wp2
  go_ret
  exact ⟨y4, y27, y21, y22⟩
 ·rw [if_neg c3] at H
  have c3b0 : decide (a1 ≤ 1) = false := dF c3
  clear c3
  obtain ⟨⟨sV, qR, qQ⟩, A4, H⟩ := oA_ H
  try dsimp only at H
  by_cases c5 : a1 > 200
  ·rw [if_pos c5] at H
   have c5b0 : decide (200 < a1) = true := dT c5
   clear c5
   obtain ⟨⟨t383, t384, t385⟩, A6, H⟩ := oA_ H
   try dsimp only at H
   by_cases c7 : a1 = 0
   ·rw [if_pos c7] at H
    exact absurd H (by simp)
   ·rw [if_neg c7] at H
    have c7b0 : (a1 == 0) = false := qF c7
    have c7b1 : (a1 != 0) = true := nT c7
    simp only [Option.some.injEq, Prod.mk.injEq] at H
    obtain ⟨rfl, rfl, rfl⟩ := H
    go_enter Try.func60, Try.ntmps60
    go_wp2_with (first | ((with_reducible refine av (f := 81) rfl ?_); refine ay (some 9) rfl rfl Try.func81 z0 rfl #[.pointer (some ⟨g, 0, none⟩)] rfl z14 ?_; (with_reducible refine (spec_l1Cur_next.calls g s0_0 s0_1 s0_2 sV qR qQ w0 _ ?side1 ?side2 A4.out).mono ?_); (case side1 => exact y40); (case side2 => exact y36); rintro e w8 ⟨rfl, hi, hb, hk⟩; refine ⟨_, rfl, ?_⟩; replace HK := aM (KeepBut.trans z15 hk (.inl rfl)); replace HB := aM (hb); replace HI0 := aM (hi); (try clear hb); (try clear hk); (try clear hi); (try clear cn)) | ((with_reducible refine av (f := 81) rfl ?_); refine ay (some 15) rfl rfl Try.func81 z0 rfl #[.pointer (some ⟨g, 0, none⟩)] rfl z14 ?_; (with_reducible refine (spec_l1Cur_next.calls g s0_0 qR qQ t383 t384 t385 w0 _ ?side1 ?side2 A6.out).mono ?_); (case side1 => exact y40); (case side2 => exact y36); rintro e w9 ⟨rfl, hi, hb, hk⟩; refine ⟨_, rfl, ?_⟩; replace HK := aM (KeepBut.trans z15 hk (.inl rfl)); replace HB := aM (hb); replace HI0 := aM (hi); (try clear hb); (try clear hk); (try clear hi); (try clear cn)))
    go_ret
    exact ⟨y4, y27, y21, y22⟩
  ·rw [if_neg c5] at H
   have c5b0 : decide (200 < a1) = false := dF c5
   clear c5
   by_cases dk : a1 = 0
   ·rw [if_pos dk] at H
    exact absurd H (by simp)
   ·rw [if_neg dk] at H
    have c10b0 : (a1 == 0) = false := qF dk
    have c10b1 : (a1 != 0) = true := nT dk
    simp only [Option.some.injEq, Prod.mk.injEq] at H
    obtain ⟨rfl, rfl, rfl⟩ := H
    go_enter Try.func60, Try.ntmps60
    go_wp2_with (first | ((with_reducible refine av (f := 81) rfl ?_); refine ay (some 9) rfl rfl Try.func81 z0 rfl #[.pointer (some ⟨g, 0, none⟩)] rfl z14 ?_; (with_reducible refine (spec_l1Cur_next.calls g s0_0 s0_1 s0_2 sV qR qQ w0 _ ?side1 ?side2 A4.out).mono ?_); (case side1 => exact y40); (case side2 => exact y36); rintro e w11 ⟨rfl, hi, hb, hk⟩; refine ⟨_, rfl, ?_⟩; replace HK := aM (KeepBut.trans z15 hk (.inl rfl)); replace HB := aM (hb); replace HI0 := aM (hi); (try clear hb); (try clear hk); (try clear hi); (try clear cn)))
    go_ret
    exact ⟨y4, y27, y21, y22⟩

/-! ### spec_l1Cur_of: function 61 -/
def spec_l1Cur_of.f (s0_0 : List Int) (s0_1 : Int) (s0_2 : Int) (l1 : List ByteArray) : Option (ByteArray × Int × Int) := (spec_l1Cur_pick.f s0_0 s0_1 s0_2 (l1.length : Int)).bind fun ex => (if 0 ≤ ex.1 then (if ex.1 < (l1.length : Int) then (some (rdOf ByteArray.empty l1 ex.1, ex.2.1, ex.2.2)) else (none)) else (none))
set_option maxHeartbeats 8000000 in
set_option maxRecDepth 100000 in
theorem spec_l1Cur_of.calls (g : Nat) (s0_0 : List Int) (s0_1 : Int) (s0_2 : Int) (A1 : Option Addr) (c1 : Nat) (l1 : List ByteArray) (r1 : ByteArray) (r2 : Int) (r3 : Int) (w0 w : World) (hI : IsS66 w0 w g s0_0 s0_1 s0_2) (hB : Below w0.heap.size w0 w) (hr1 : Kd.C Kd.string w A1 l1.length l1) (hc1 : l1.length ≤ c1) (hf1 : ∀ ad, A1 = some ad → 0 < l1.length → ad.block ≠ g) (h : spec_l1Cur_of.f s0_0 s0_1 s0_2 l1 = some (r1, r2, r3)) :
  Calls Try.prog 61 #[.pointer (some ⟨g, 0, none⟩), .slice A1 l1.length c1] w fun e w' => e = .returned (.string r1) ∧ IsS66 w0 w' g s0_0 r2 r3 ∧ Below w0.heap.size w0 w' ∧ KeepBut w w' g none := by
 have ua := aM hr1
 have HC1 := aM hc1
 clear hr1 hc1
 have HI0 := aM hI
 have HK := aM (KeepBut.refl w g none)
 have HL := aM hB.size
 clear hI
 have HW0 := aM hB.size
 have HB := aM hB
 clear hB
 have H : ((spec_l1Cur_pick.f s0_0 s0_1 s0_2 (l1.length : Int)).bind fun ex => (if 0 ≤ ex.1 then (if ex.1 < (l1.length : Int) then (some (rdOf ByteArray.empty l1 ex.1, ex.2.1, ex.2.2)) else (none)) else (none))) = some (r1, r2, r3) := h
 clear h
 obtain ⟨⟨kf, t387, t388⟩, A3, H⟩ := oA_ H
 try dsimp only at H
 by_cases c4 : 0 ≤ kf
 ·rw [if_pos c4] at H
  have c4b0 : decide (0 ≤ kf) = true := dT c4
  clear c4
  by_cases c5 : kf < (l1.length : Int)
  ·rw [if_pos c5] at H
   have c5b0 : decide (kf < (l1.length : Int)) = true := dT c5
   clear c5
   simp only [Option.some.injEq, Prod.mk.injEq] at H
   obtain ⟨rfl, rfl, rfl⟩ := H
   go_enter Try.func61, Try.ntmps61
   go_wp2_with (first | ((with_reducible refine av (f := 60) rfl ?_); refine ay (some 9) rfl rfl Try.func60 z0 rfl #[.pointer (some ⟨g, 0, none⟩), .int .i64 (l1.length : Int)] rfl z14 ?_; (with_reducible refine (spec_l1Cur_pick.calls g s0_0 s0_1 s0_2 (l1.length : Int) kf t387 t388 w0 _ ?side1 ?side2 A3.out).mono ?_); (case side1 => exact y40); (case side2 => exact y36); rintro e w6 ⟨rfl, hi, hb, hk⟩; refine ⟨_, rfl, ?_⟩; replace HK := aM (KeepBut.trans z15 hk (.inl rfl)); replace HB := aM (hb); replace HI0 := aM (hi); (try clear hb); (try clear hk); (try clear hi); (try clear cn); have p389 : 0 ≤ (kf : Int) := oD z2; have q389 : kf < (l1.length : Int) := oD z2; obtain ⟨ad389, e389, hx389_0⟩ := Kd.at_string ua.out kf p389 q389; cases e389; replace hx389_0 := keep_cell HK.out hx389_0 (by first | (rw [add_block]; exact hf1 _ rfl (by omega)) | exact hf1 _ rfl (by omega) | exact hf1 ad389 rfl (by omega)); replace p389 := eq_true p389; replace q389 := eq_true q389))
   go_ret
   exact ⟨y4, y27, y21, y22⟩
  ·rw [if_neg c5] at H
   exact absurd H (by simp)
 ·rw [if_neg c4] at H
  exact absurd H (by simp)

/-! ### spec_l1Cur_one: function 62 -/
def spec_l1Cur_one.f (s0_0 : List Int) (s0_1 : Int) (s0_2 : Int) (a1 : Int) : Option (Bool × Int × Int) := (spec_l1Cur_pick.f s0_0 s0_1 s0_2 a1).bind fun il => (some ((il.1 == 0), il.2.1, il.2.2))
set_option maxHeartbeats 8000000 in
set_option maxRecDepth 100000 in
theorem spec_l1Cur_one.calls (g : Nat) (s0_0 : List Int) (s0_1 : Int) (s0_2 : Int) (a1 : Int) (r1 : Bool) (r2 : Int) (r3 : Int) (w0 w : World) (hI : IsS66 w0 w g s0_0 s0_1 s0_2) (hB : Below w0.heap.size w0 w) (h : spec_l1Cur_one.f s0_0 s0_1 s0_2 a1 = some (r1, r2, r3)) :
  Calls Try.prog 62 #[.pointer (some ⟨g, 0, none⟩), .int .i64 a1] w fun e w' => e = .returned (.bool r1) ∧ IsS66 w0 w' g s0_0 r2 r3 ∧ Below w0.heap.size w0 w' ∧ KeepBut w w' g none := by
 have HI0 := aM hI
 have HK := aM (KeepBut.refl w g none)
 have HL := aM hB.size
 clear hI
 have HW0 := aM hB.size
 have HB := aM hB
 clear hB
 have H : ((spec_l1Cur_pick.f s0_0 s0_1 s0_2 a1).bind fun il => (some ((il.1 == 0), il.2.1, il.2.2))) = some (r1, r2, r3) := h
 clear h
 obtain ⟨⟨t390, t391, t392⟩, A3, H⟩ := oA_ H
 try dsimp only at H
 simp only [Option.some.injEq, Prod.mk.injEq] at H
 obtain ⟨rfl, rfl, rfl⟩ := H
 go_enter Try.func62, Try.ntmps62
 go_wp2_with (first | ((with_reducible refine av (f := 60) rfl ?_); refine ay (some 7) rfl rfl Try.func60 z0 rfl #[.pointer (some ⟨g, 0, none⟩), .int .i64 a1] rfl z14 ?_; (with_reducible refine (spec_l1Cur_pick.calls g s0_0 s0_1 s0_2 a1 t390 t391 t392 w0 _ ?side1 ?side2 A3.out).mono ?_); (case side1 => exact y40); (case side2 => exact y36); rintro e w4 ⟨rfl, hi, hb, hk⟩; refine ⟨_, rfl, ?_⟩; replace HK := aM (KeepBut.trans z15 hk (.inl rfl)); replace HB := aM (hb); replace HI0 := aM (hi); (try clear hb); (try clear hk); (try clear hi); (try clear cn)))
 go_ret
 exact ⟨y4, y27, y21, y22⟩

end Go.Proofs.Ytmigfgcpdelnfaa.AFnUndoneBy
