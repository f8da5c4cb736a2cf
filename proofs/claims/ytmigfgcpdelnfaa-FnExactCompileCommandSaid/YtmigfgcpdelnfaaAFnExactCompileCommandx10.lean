-- this session's own text: written by wip/tools/ownprint.py over the kit's print
import Derived.Test.YtmigfgcpdelnfaaAFnExactCompileCommandx0
import Derived.Test.YtmigfgcpdelnfaaAFnExactCompileCommandx7
import Derived.Test.YtmigfgcpdelnfaaAFnExactCompileCommandx8
import Derived.Test.YtmigfgcpdelnfaaAFnExactCompileCommandx9
namespace Go.Proofs.Ytmigfgcpdelnfaa.AFnExactCompileCommand
open Go.RowKit Go.Proofs.YtmigfgcpdelnfaaW.PrintWords Go.Proofs.YtmigfgcpdelnfaaW.PrintLast Go.Proofs.YtmigfgcpdelnfaaW.PrintMore
attribute [local go_sem] max2_int min2_int max_two min_two max_three min_three max_four min_four   -- for this text's walks alone
set_option linter.unusedVariables false
set_option linter.unusedSimpArgs false

/-! ### impl_Command_parts: function 56 -/
mutual
def impl_Command_parts.j0 : Nat → ByteArray → Int → Int → Int → Bool → Option ((List (S61)) × Bool)
 | 0, _, _, _, _, _ => none
 | k + 1, x1, x6, x7, x8, x52 => if x52 = true then (some (([] : List (S61)), false)) else ((impl_keepTo.f 0 x7).bind fun bt323 => (if 0 ≤ x7 then (if x7 ≤ x8 then (if x8 ≤ (x1.size : Int) then ((impl_keepTo.f x8 x6).bind fun bt326 => (some ((([(⟨bt323.1, bt323.2.1, bt323.2.2⟩ : S61), (⟨0, (⟨#[]⟩ : ByteArray), x1.extract (x7 : Int).toNat (x8 : Int).toNat⟩ : S61), (⟨bt326.1, bt326.2.1, bt326.2.2⟩ : S61)] : List (S61))), true))) else (none)) else (none)) else (none)))
def impl_Command_parts.j1 : Nat → Int → Int → Int → Bool → Int → Int → Int → ByteArray → Option ((List (S61)) × Bool)
 | 0, _, _, _, _, _, _, _, _ => none
 | k + 1, x6, x7, x8, x82, x312000, x312001, x312002, x312003 => if x82 = true then (some (([] : List (S61)), false)) else ((impl_keepTo.f 0 x7).bind fun bt334 => ((impl_keepTo.f x7 x8).bind fun bt337 => ((impl_keepTo.f x8 x6).bind fun bt340 => (some ((([(⟨bt334.1, bt334.2.1, bt334.2.2⟩ : S61), (⟨0, x312003, (⟨#[]⟩ : ByteArray)⟩ : S61), (⟨bt337.1, bt337.2.1, bt337.2.2⟩ : S61), (⟨0, (⟨#[47]⟩ : ByteArray), (⟨#[]⟩ : ByteArray)⟩ : S61), (⟨bt340.1, bt340.2.1, bt340.2.2⟩ : S61)] : List (S61))), true)))))
def impl_Command_parts.j2 : Nat → ByteArray → Int → Int → Bool → Option ((List (S61)) × Bool)
 | 0, _, _, _, _ => none
 | k + 1, x1, x6, x7, x145 => if x145 = true then (some (([] : List (S61)), false)) else ((impl_MatchOf.f k x1 (wrap64 (x7 - 1))).bind fun bt360 => (if 0 ≤ bt360.1 then (if bt360.1 < (x1.size : Int) then (if 0 ≤ x7 then (if x7 < (x1.size : Int) then (if (bt x1 bt360.1) = (bt x1 x7) then ((impl_keepTo.f 0 (wrap64 (x7 - 1))).bind fun bt362 => (if 0 ≤ (wrap64 (x7 - 1)) then (if (wrap64 (x7 - 1)) ≤ (wrap64 (x7 + 1)) then (if (wrap64 (x7 + 1)) ≤ (x1.size : Int) then ((impl_keepTo.f (wrap64 (x7 + 1)) x6).bind fun bt365 => (some ((([(⟨bt362.1, bt362.2.1, bt362.2.2⟩ : S61), (⟨0, (⟨#[]⟩ : ByteArray), x1.extract ((wrap64 (x7 - 1)) : Int).toNat ((wrap64 (x7 + 1)) : Int).toNat⟩ : S61), (⟨bt365.1, bt365.2.1, bt365.2.2⟩ : S61)] : List (S61))), true))) else (none)) else (none)) else (none))) else (some (([] : List (S61)), false))) else (none)) else (none)) else (none)) else (none)))
end
def impl_Command_parts.f (k : Nat) (a0_0 : Int) (a0_1 : Int) (a0_2 : Int) (a0_3 : ByteArray) (a1 : ByteArray) : Option ((List (S61)) × Bool) := if a0_0 = 1 then ((impl_keepTo.f 0 a0_1).bind fun bt312 => ((impl_keepTo.f a0_1 (a1.size : Int)).bind fun bt315 => ((some (([(⟨bt312.1, bt312.2.1, bt312.2.2⟩ : S61), (⟨0, a0_3, (⟨#[]⟩ : ByteArray)⟩ : S61), (⟨bt315.1, bt315.2.1, bt315.2.2⟩ : S61)] : List (S61)) : List (S61))).bind fun y318 => (if a0_3.toList = ([] : List UInt8) then (some (y318, false)) else ((impl_GoodText.f k a0_3).bind fun t321 => (some (y318, t321))))))) else (if a0_0 = 2 then (if a0_1 ≥ a0_2 then (impl_Command_parts.j0 k a1 (a1.size : Int) a0_1 a0_2 true) else (if 0 ≤ a0_1 then (if a0_1 ≤ a0_2 then (if a0_2 ≤ (a1.size : Int) then ((impl_GoodDoc.f k (a1.extract (a0_1 : Int).toNat (a0_2 : Int).toNat)).bind fun t322 => (impl_Command_parts.j0 k a1 (a1.size : Int) a0_1 a0_2 (!t322))) else (none)) else (none)) else (none))) else (if a0_0 = 3 then (if a0_1 > a0_2 then (impl_Command_parts.j1 k (a1.size : Int) a0_1 a0_2 true a0_0 a0_1 a0_2 a0_3) else (if 0 ≤ a0_1 then (if a0_1 ≤ a0_2 then (if a0_2 ≤ (a1.size : Int) then ((impl_GoodDoc.f k (a1.extract (a0_1 : Int).toNat (a0_2 : Int).toNat)).bind fun t332 => (if t332 = true then ((impl_isNameText.f a0_3).bind fun t333 => (impl_Command_parts.j1 k (a1.size : Int) a0_1 a0_2 (!t333) a0_0 a0_1 a0_2 a0_3)) else (impl_Command_parts.j1 k (a1.size : Int) a0_1 a0_2 true a0_0 a0_1 a0_2 a0_3))) else (none)) else (none)) else (none))) else (if a0_0 = 5 then ((impl_around.f k a1 a0_1).bind fun t346 => (if (t346.length : Int) = 0 then (some (([] : List (S61)), false)) else (if 0 ≤ (wrap64 ((t346.length : Int) - 1)) then (if (wrap64 ((t346.length : Int) - 1)) < (t346.length : Int) then ((impl_keepTo.f 0 a0_1).bind fun bt350 => (if 0 ≤ (rd t346 (wrap64 ((t346.length : Int) - 1))) then (if (rd t346 (wrap64 ((t346.length : Int) - 1))) ≤ (wrap64 ((rd t346 (wrap64 ((t346.length : Int) - 1))) + 1)) then (if (wrap64 ((rd t346 (wrap64 ((t346.length : Int) - 1))) + 1)) ≤ (a1.size : Int) then (if 1 + (a1.extract ((rd t346 (wrap64 ((t346.length : Int) - 1))) : Int).toNat ((wrap64 ((rd t346 (wrap64 ((t346.length : Int) - 1))) + 1)) : Int).toNat).size ≤ 9223372036854775807 then ((impl_keepTo.f a0_1 (a1.size : Int)).bind fun bt353 => (some ((([(⟨bt350.1, bt350.2.1, bt350.2.2⟩ : S61), (⟨0, (⟨#[47]⟩ : ByteArray) ++ (a1.extract ((rd t346 (wrap64 ((t346.length : Int) - 1))) : Int).toNat ((wrap64 ((rd t346 (wrap64 ((t346.length : Int) - 1))) + 1)) : Int).toNat), (⟨#[]⟩ : ByteArray)⟩ : S61), (⟨bt353.1, bt353.2.1, bt353.2.2⟩ : S61)] : List (S61))), true))) else (none)) else (none)) else (none)) else (none))) else (none)) else (none)))) else (if a0_0 = 6 then (if a0_1 = 0 then (impl_Command_parts.j2 k a1 (a1.size : Int) a0_1 true) else (if a0_1 = (a1.size : Int) then (impl_Command_parts.j2 k a1 (a1.size : Int) a0_1 true) else (if 0 ≤ (wrap64 (a0_1 - 1)) then (if (wrap64 (a0_1 - 1)) < (a1.size : Int) then (if (bt a1 (wrap64 (a0_1 - 1))) = 47 then (if 0 ≤ a0_1 then (if a0_1 < (a1.size : Int) then ((impl_isName.f (bt a1 a0_1)).bind fun t359 => (impl_Command_parts.j2 k a1 (a1.size : Int) a0_1 (!t359))) else (none)) else (none)) else (impl_Command_parts.j2 k a1 (a1.size : Int) a0_1 true)) else (none)) else (none)))) else ((impl_Command_onElement.f k a0_0 a0_1 a0_2 a0_3 a1).bind fun bt371 => (some (bt371.1, bt371.2)))))))
theorem impl_Command_parts.mono_l : ∀ k, (∀ y0 y1 y2 y3 y4, LeO (impl_Command_parts.j0 k y0 y1 y2 y3 y4) (impl_Command_parts.j0 (k + 1) y0 y1 y2 y3 y4)) ∧ (∀ y0 y1 y2 y3 y4 y5 y6 y7, LeO (impl_Command_parts.j1 k y0 y1 y2 y3 y4 y5 y6 y7) (impl_Command_parts.j1 (k + 1) y0 y1 y2 y3 y4 y5 y6 y7)) ∧ (∀ y0 y1 y2 y3, LeO (impl_Command_parts.j2 k y0 y1 y2 y3) (impl_Command_parts.j2 (k + 1) y0 y1 y2 y3))
 | 0 => ⟨fun _ _ _ _ _ r h => by simp [impl_Command_parts.j0] at h, fun _ _ _ _ _ _ _ _ r h => by simp [impl_Command_parts.j1] at h, fun _ _ _ _ r h => by simp [impl_Command_parts.j2] at h⟩
 | k + 1 => by
  obtain ⟨ih0, ih1, ih2⟩ := impl_Command_parts.mono_l k
  refine ⟨?_, ?_, ?_⟩
  ·intro y0 y1 y2 y3 y4
   unfold impl_Command_parts.j0
   repeat' first
   | (with_reducible exact ih0 _ _ _ _ _)
   | (with_reducible exact ih1 _ _ _ _ _ _ _ _)
   | (with_reducible exact ih2 _ _ _ _)
   | (with_reducible exact impl_Command_onElement.mono _ _ _ _ _ _)
   | (with_reducible exact impl_GoodDoc.mono _ _)
   | (with_reducible exact impl_GoodText.mono _ _)
   | (with_reducible exact impl_MatchOf.mono _ _ _)
   | (with_reducible exact impl_around.mono _ _ _)
   | (with_reducible exact LeO.refl _)
   | (with_reducible exact LeO.none _)
   | (with_reducible refine LeO.ite ?_ ?_)
   | (with_reducible refine LeO.bind ?_ (fun _ => ?_))
   | exact ih0 _ _ _ _ _
   | exact ih1 _ _ _ _ _ _ _ _
   | exact ih2 _ _ _ _
   | exact impl_Command_onElement.mono _ _ _ _ _ _
   | exact impl_GoodDoc.mono _ _
   | exact impl_GoodText.mono _ _
   | exact impl_MatchOf.mono _ _ _
   | exact impl_around.mono _ _ _
   | exact LeO.none _
   | refine LeO.ite ?_ ?_
   | refine LeO.bind ?_ (fun _ => ?_)
  ·intro y0 y1 y2 y3 y4 y5 y6 y7
   unfold impl_Command_parts.j1
   repeat' first
   | (with_reducible exact ih0 _ _ _ _ _)
   | (with_reducible exact ih1 _ _ _ _ _ _ _ _)
   | (with_reducible exact ih2 _ _ _ _)
   | (with_reducible exact impl_Command_onElement.mono _ _ _ _ _ _)
   | (with_reducible exact impl_GoodDoc.mono _ _)
   | (with_reducible exact impl_GoodText.mono _ _)
   | (with_reducible exact impl_MatchOf.mono _ _ _)
   | (with_reducible exact impl_around.mono _ _ _)
   | (with_reducible exact LeO.refl _)
   | (with_reducible exact LeO.none _)
   | (with_reducible refine LeO.ite ?_ ?_)
   | (with_reducible refine LeO.bind ?_ (fun _ => ?_))
   | exact ih0 _ _ _ _ _
   | exact ih1 _ _ _ _ _ _ _ _
   | exact ih2 _ _ _ _
   | exact impl_Command_onElement.mono _ _ _ _ _ _
   | exact impl_GoodDoc.mono _ _
   | exact impl_GoodText.mono _ _
   | exact impl_MatchOf.mono _ _ _
   | exact impl_around.mono _ _ _
   | exact LeO.none _
   | refine LeO.ite ?_ ?_
   | refine LeO.bind ?_ (fun _ => ?_)
  ·intro y0 y1 y2 y3
   unfold impl_Command_parts.j2
   repeat' first
   | (with_reducible exact ih0 _ _ _ _ _)
   | (with_reducible exact ih1 _ _ _ _ _ _ _ _)
   | (with_reducible exact ih2 _ _ _ _)
   | (with_reducible exact impl_Command_onElement.mono _ _ _ _ _ _)
   | (with_reducible exact impl_GoodDoc.mono _ _)
   | (with_reducible exact impl_GoodText.mono _ _)
   | (with_reducible exact impl_MatchOf.mono _ _ _)
   | (with_reducible exact impl_around.mono _ _ _)
   | (with_reducible exact LeO.refl _)
   | (with_reducible exact LeO.none _)
   | (with_reducible refine LeO.ite ?_ ?_)
   | (with_reducible refine LeO.bind ?_ (fun _ => ?_))
   | exact ih0 _ _ _ _ _
   | exact ih1 _ _ _ _ _ _ _ _
   | exact ih2 _ _ _ _
   | exact impl_Command_onElement.mono _ _ _ _ _ _
   | exact impl_GoodDoc.mono _ _
   | exact impl_GoodText.mono _ _
   | exact impl_MatchOf.mono _ _ _
   | exact impl_around.mono _ _ _
   | exact LeO.none _
   | refine LeO.ite ?_ ?_
   | refine LeO.bind ?_ (fun _ => ?_)
theorem impl_Command_parts.mono : ∀ a0 a1 a2 a3 a4 k, LeO (impl_Command_parts.f k a0 a1 a2 a3 a4) (impl_Command_parts.f (k + 1) a0 a1 a2 a3 a4) := by
 intro a0 a1 a2 a3 a4 k
 obtain ⟨ih0, ih1, ih2⟩ := impl_Command_parts.mono_l k
 unfold impl_Command_parts.f
 repeat' first
   | (with_reducible exact ih0 _ _ _ _ _)
   | (with_reducible exact ih1 _ _ _ _ _ _ _ _)
   | (with_reducible exact ih2 _ _ _ _)
   | (with_reducible exact impl_Command_onElement.mono _ _ _ _ _ _)
   | (with_reducible exact impl_GoodDoc.mono _ _)
   | (with_reducible exact impl_GoodText.mono _ _)
   | (with_reducible exact impl_MatchOf.mono _ _ _)
   | (with_reducible exact impl_around.mono _ _ _)
   | (with_reducible exact LeO.refl _)
   | (with_reducible exact LeO.none _)
   | (with_reducible refine LeO.ite ?_ ?_)
   | (with_reducible refine LeO.bind ?_ (fun _ => ?_))
   | exact ih0 _ _ _ _ _
   | exact ih1 _ _ _ _ _ _ _ _
   | exact ih2 _ _ _ _
   | exact impl_Command_onElement.mono _ _ _ _ _ _
   | exact impl_GoodDoc.mono _ _
   | exact impl_GoodText.mono _ _
   | exact impl_MatchOf.mono _ _ _
   | exact impl_around.mono _ _ _
   | exact LeO.none _
   | refine LeO.ite ?_ ?_
   | refine LeO.bind ?_ (fun _ => ?_)
def impl_Command_parts.T5 : Bool × List (List Nat × List Nat) := (true, [([], []), ([0], [0]), ([], []), ([2], [2]), ([3], [3]), ([], []), ([], []), ([5, 6, 1], [5, 6]), ([1, 4, 7], [1, 4, 7]), ([], []), ([9], [9]), ([10], [10]), ([11, 7], [11]), ([12], [12]), ([13, 12], [12, 13]), ([14, 12, 12], [12, 14]), ([12, 15], [12, 15]), ([8, 15, 0, 1, 2, 3, 4, 5, 6, 7, 8], [8]), ([16, 17, 0, 1, 2, 3, 4, 5, 6, 7, 8, 9, 10, 11, 12, 13, 14, 15, 16, 17], [16])])
def impl_Command_parts.B5 : List Nat := [0, 1, 0, 4, 12, 0, 0, 99, 255, 0, 512, 1536, 3811, 7907, 16099, 32483, 65251, 65535, 262143]
theorem impl_Command_parts.tab5 : rtab .any (opsOf Try.f56 5) = impl_Command_parts.T5 := by kernel_rfl
theorem impl_Command_parts.bits5 : waitsOk impl_Command_parts.T5.2 impl_Command_parts.B5 = true := by kernel_rfl
def impl_Command_parts.T9 : Bool × List (List Nat × List Nat) := (true, [([], []), ([0], [0]), ([], []), ([], []), ([], []), ([2, 3, 4], [2, 3, 4]), ([5], [5]), ([], []), ([], []), ([7, 8, 1], [7, 8]), ([1, 6, 9], [1, 6, 9]), ([10, 9, 0, 1, 2, 3, 4, 5, 6, 7, 8, 9, 10], [10]), ([11, 0, 1, 2, 3, 4, 5, 6, 7, 8, 9, 10, 11], [])])
def impl_Command_parts.B9 : List Nat := [0, 1, 0, 0, 0, 28, 60, 0, 0, 387, 1023, 2047, 4095]
theorem impl_Command_parts.tab9 : rtab .any (opsOf Try.f56 9) = impl_Command_parts.T9 := by kernel_rfl
theorem impl_Command_parts.bits9 : waitsOk impl_Command_parts.T9.2 impl_Command_parts.B9 = true := by kernel_rfl
def impl_Command_parts.T13 : Bool × List (List Nat × List Nat) := (true, [([], []), ([0], [0]), ([], []), ([2], [2]), ([3], [3]), ([], []), ([], []), ([5, 6, 1], [5, 6]), ([], []), ([], []), ([], []), ([9, 10, 7], [9, 10]), ([1, 4, 7, 8, 11], [1, 4, 7, 8, 11]), ([12, 11, 0, 1, 2, 3, 4, 5, 6, 7, 8, 9, 10, 11, 12], [12]), ([13, 0, 1, 2, 3, 4, 5, 6, 7, 8, 9, 10, 11, 12, 13], [])])
def impl_Command_parts.B13 : List Nat := [0, 1, 0, 4, 12, 0, 0, 99, 0, 0, 0, 1763, 4095, 8191, 16383]
theorem impl_Command_parts.tab13 : rtab .any (opsOf Try.f56 13) = impl_Command_parts.T13 := by kernel_rfl
theorem impl_Command_parts.bits13 : waitsOk impl_Command_parts.T13.2 impl_Command_parts.B13 = true := by kernel_rfl
def impl_Command_parts.T19 : Bool × List (List Nat × List Nat) := (true, [([], []), ([0], [0]), ([], []), ([], []), ([], []), ([4], [4]), ([2, 3, 5], [2, 3, 5]), ([6], [6]), ([7], [7]), ([], []), ([], []), ([9, 10, 1], [9, 10]), ([1, 8, 11], [1, 8, 11]), ([12, 11, 0, 1, 2, 3, 4, 5, 6, 7, 8, 9, 10, 11, 12], [12]), ([13, 0, 1, 2, 3, 4, 5, 6, 7, 8, 9, 10, 11, 12, 13], [])])
def impl_Command_parts.B19 : List Nat := [0, 1, 0, 0, 0, 16, 60, 124, 252, 0, 0, 1539, 4095, 8191, 16383]
theorem impl_Command_parts.tab19 : rtab .any (opsOf Try.f56 19) = impl_Command_parts.T19 := by kernel_rfl
theorem impl_Command_parts.bits19 : waitsOk impl_Command_parts.T19.2 impl_Command_parts.B19 = true := by kernel_rfl
def impl_Command_parts.T26 : Bool × List (List Nat × List Nat) := (true, [([], []), ([0], [0]), ([1], [1]), ([], []), ([], []), ([4], [4]), ([], []), ([6], [6]), ([3, 5, 7], [3, 5, 7]), ([8], [8]), ([], []), ([10], [10]), ([], []), ([11, 12, 2], [11, 12]), ([2, 9, 13], [2, 9, 13]), ([14, 13, 0, 1, 2, 3, 4, 5, 6, 7, 8, 9, 10, 11, 12, 13, 14], [14]), ([15, 0, 1, 2, 3, 4, 5, 6, 7, 8, 9, 10, 11, 12, 13, 14, 15], [])])
def impl_Command_parts.B26 : List Nat := [0, 1, 3, 0, 0, 16, 0, 64, 248, 504, 0, 1024, 0, 7175, 16383, 32767, 65535]
theorem impl_Command_parts.tab26 : rtab .any (opsOf Try.f56 26) = impl_Command_parts.T26 := by kernel_rfl
theorem impl_Command_parts.bits26 : waitsOk impl_Command_parts.T26.2 impl_Command_parts.B26 = true := by kernel_rfl
set_option maxHeartbeats 8000000 in
set_option maxRecDepth 100000 in
theorem impl_Command_parts.calls (k : Nat) (a0_0 : Int) (a0_1 : Int) (a0_2 : Int) (a0_3 : ByteArray) (a1 : ByteArray) (r1 : List (S61)) (r2 : Bool) (w : World) (h : impl_Command_parts.f k a0_0 a0_1 a0_2 a0_3 a1 = some (r1, r2)) :
  Calls Try.prog 56 #[.agg #[.int .i64 a0_0, .int .i64 a0_1, .int .i64 a0_2, .string a0_3], .string a1] w fun e w' => ∃ v0_ : Value, e = .returned (.tuple #[v0_, .bool r2]) ∧ Kd.R k61 61 w' w.heap.size (fun _ => True) v0_ r1 ∧ Below w.heap.size w w' := by
 have hu29 := Try.underlying29
 have hu61 := Try.underlying61
 have HB := aM (Below.refl w.heap.size w)
 have H : (if a0_0 = 1 then ((impl_keepTo.f 0 a0_1).bind fun bt312 => ((impl_keepTo.f a0_1 (a1.size : Int)).bind fun bt315 => ((some (([(⟨bt312.1, bt312.2.1, bt312.2.2⟩ : S61), (⟨0, a0_3, (⟨#[]⟩ : ByteArray)⟩ : S61), (⟨bt315.1, bt315.2.1, bt315.2.2⟩ : S61)] : List (S61)) : List (S61))).bind fun y318 => (if a0_3.toList = ([] : List UInt8) then (some (y318, false)) else ((impl_GoodText.f k a0_3).bind fun t321 => (some (y318, t321))))))) else (if a0_0 = 2 then (if a0_1 ≥ a0_2 then (impl_Command_parts.j0 k a1 (a1.size : Int) a0_1 a0_2 true) else (if 0 ≤ a0_1 then (if a0_1 ≤ a0_2 then (if a0_2 ≤ (a1.size : Int) then ((impl_GoodDoc.f k (a1.extract (a0_1 : Int).toNat (a0_2 : Int).toNat)).bind fun t322 => (impl_Command_parts.j0 k a1 (a1.size : Int) a0_1 a0_2 (!t322))) else (none)) else (none)) else (none))) else (if a0_0 = 3 then (if a0_1 > a0_2 then (impl_Command_parts.j1 k (a1.size : Int) a0_1 a0_2 true a0_0 a0_1 a0_2 a0_3) else (if 0 ≤ a0_1 then (if a0_1 ≤ a0_2 then (if a0_2 ≤ (a1.size : Int) then ((impl_GoodDoc.f k (a1.extract (a0_1 : Int).toNat (a0_2 : Int).toNat)).bind fun t332 => (if t332 = true then ((impl_isNameText.f a0_3).bind fun t333 => (impl_Command_parts.j1 k (a1.size : Int) a0_1 a0_2 (!t333) a0_0 a0_1 a0_2 a0_3)) else (impl_Command_parts.j1 k (a1.size : Int) a0_1 a0_2 true a0_0 a0_1 a0_2 a0_3))) else (none)) else (none)) else (none))) else (if a0_0 = 5 then ((impl_around.f k a1 a0_1).bind fun t346 => (if (t346.length : Int) = 0 then (some (([] : List (S61)), false)) else (if 0 ≤ (wrap64 ((t346.length : Int) - 1)) then (if (wrap64 ((t346.length : Int) - 1)) < (t346.length : Int) then ((impl_keepTo.f 0 a0_1).bind fun bt350 => (if 0 ≤ (rd t346 (wrap64 ((t346.length : Int) - 1))) then (if (rd t346 (wrap64 ((t346.length : Int) - 1))) ≤ (wrap64 ((rd t346 (wrap64 ((t346.length : Int) - 1))) + 1)) then (if (wrap64 ((rd t346 (wrap64 ((t346.length : Int) - 1))) + 1)) ≤ (a1.size : Int) then (if 1 + (a1.extract ((rd t346 (wrap64 ((t346.length : Int) - 1))) : Int).toNat ((wrap64 ((rd t346 (wrap64 ((t346.length : Int) - 1))) + 1)) : Int).toNat).size ≤ 9223372036854775807 then ((impl_keepTo.f a0_1 (a1.size : Int)).bind fun bt353 => (some ((([(⟨bt350.1, bt350.2.1, bt350.2.2⟩ : S61), (⟨0, (⟨#[47]⟩ : ByteArray) ++ (a1.extract ((rd t346 (wrap64 ((t346.length : Int) - 1))) : Int).toNat ((wrap64 ((rd t346 (wrap64 ((t346.length : Int) - 1))) + 1)) : Int).toNat), (⟨#[]⟩ : ByteArray)⟩ : S61), (⟨bt353.1, bt353.2.1, bt353.2.2⟩ : S61)] : List (S61))), true))) else (none)) else (none)) else (none)) else (none))) else (none)) else (none)))) else (if a0_0 = 6 then (if a0_1 = 0 then (impl_Command_parts.j2 k a1 (a1.size : Int) a0_1 true) else (if a0_1 = (a1.size : Int) then (impl_Command_parts.j2 k a1 (a1.size : Int) a0_1 true) else (if 0 ≤ (wrap64 (a0_1 - 1)) then (if (wrap64 (a0_1 - 1)) < (a1.size : Int) then (if (bt a1 (wrap64 (a0_1 - 1))) = 47 then (if 0 ≤ a0_1 then (if a0_1 < (a1.size : Int) then ((impl_isName.f (bt a1 a0_1)).bind fun t359 => (impl_Command_parts.j2 k a1 (a1.size : Int) a0_1 (!t359))) else (none)) else (none)) else (impl_Command_parts.j2 k a1 (a1.size : Int) a0_1 true)) else (none)) else (none)))) else ((impl_Command_onElement.f k a0_0 a0_1 a0_2 a0_3 a1).bind fun bt371 => (some (bt371.1, bt371.2)))))))) = some (r1, r2) := h
 clear h
 by_cases c3 : a0_0 = 1
 ·rw [if_pos c3] at H
  have c3b0 : (a0_0 == 1) = true := qT c3
  have c3b1 : (a0_0 != 1) = false := nF c3
  clear c3
  replace H := oB H
  obtain ⟨⟨t312, t313, t314⟩, A40, H⟩ := H
  try dsimp only at H
  have A4 := aM A40
  clear A40
  replace H := oB H
  obtain ⟨⟨t315, t316, t317⟩, A50, H⟩ := H
  try dsimp only at H
  have A5 := aM A50
  clear A50
  obtain ⟨y318, hy318⟩ : ∃ y_ : List (S61), y_ = (([(⟨t312, t313, t314⟩ : S61), (⟨0, a0_3, (⟨#[]⟩ : ByteArray)⟩ : S61), (⟨t315, t316, t317⟩ : S61)] : List (S61))) := ⟨_, rfl⟩
  replace H : (if a0_3.toList = ([] : List UInt8) then (some (y318, false)) else ((impl_GoodText.f k a0_3).bind fun t321 => (some (y318, t321)))) = some (r1, r2) := by first | (rw [hy318]; with_reducible exact H) | (have H2_ := (Option.bind_some _ _).symm.trans H; rw [hy318]; with_reducible exact H2_) | (have H2_ := (Option.bind_some _ _).symm.trans H; with_reducible exact H2_) | with_reducible exact H | (rw [hy318]; exact H) | exact H
  have Ny318 := aM hy318
  clear hy318
  by_cases c6 : a0_3.toList = ([] : List UInt8)
  ·rw [if_pos c6] at H
   have c6b0 : (a0_3.toList == ([] : List UInt8)) = true := qT c6
   have c6b1 : (a0_3.toList != ([] : List UInt8)) = false := nF c6
   clear c6
   simp only [Option.some.injEq, Prod.mk.injEq] at H
   obtain ⟨rfl, rfl⟩ := H
   go_enter Try.func56, Try.ntmps56
   try go_wp2_with (first | ((with_reducible refine gate_dst (N := 2) rfl ?_); refine box_event ?hg (N := 2) ?hd (cs := #[.int .i64 a0_0, .int .i64 a0_1, .int .i64 a0_2, .string a0_3]) (t := 29) ?hr ?_; (case hd => rfl); (case hg => rfl); (case hr => first | (go_simp; done) | (go_simp; rfl)); intro gb311 hg w7 hbox hb; have n0_ := aM (below_step z11 hb); have n1_ := aM (hbox); have n2_ := aM ((by rw [hg]; exact (below_size z11) : w.heap.size ≤ gb311)); have n3_ := aM ((by rw [hg]; exact (below_size z11) : w.heap.size ≤ gb311)); clear HB; have HB := n0_; have BK311 := n1_; have GW311 := n2_; have GE311 := n3_; clear n0_ n1_ n2_ n3_; clear hb hbox hg))
   have n0_ := aM (blk_drew BK311.out)
   have n1_ := aM (bD HB.out)
   clear BK311
   clear HB
   have BK311 := n0_
   have HB := n1_
   clear n0_ n1_
   refine start_ (n := 6) (S := fun w' => w'.cell? ⟨gb311, 0, none⟩ = some (.int .i64 a0_0) ∧ w'.cell? ⟨gb311, 1, none⟩ = some (.int .i64 a0_1) ∧ w'.cell? ⟨gb311, 2, none⟩ = some (.int .i64 a0_2) ∧ w'.cell? ⟨gb311, 3, none⟩ = some (.string a0_3)) (ds := []) #[false, false, false, false, false, false] z0 rfl rfl ⟨(bC BK311.out 0).trans rfl, (bC BK311.out 1).trans rfl, (bC BK311.out 2).trans rfl, (bC BK311.out 3).trans rfl⟩ (fun hHeld => ?_)
   generalize w7.drew = w8 at BK311 HB hHeld ⊢
   refine pA 0 15 ?_
   refine pA 2 17 ?_
   refine tA 1 16 ?_ (hy := by rintro w' ⟨s0, s1, s2, s3⟩; go_simp; with_reducible rfl)
   refine pA 4 7 ?_
   refine tA 3 18 ?_ (hy := by rintro w' ⟨s0, s1, s2, s3⟩; go_simp; with_reducible rfl)
   refine pA 5 8 ?_
   refine done_ z0 ?_
   have hcz9_0 : w8.cell? ⟨gb311, 0, none⟩ = some (.int .i64 a0_0) := (bC BK311.out 0).trans rfl
   have hcz9_1 : w8.cell? ⟨gb311, 1, none⟩ = some (.int .i64 a0_1) := (bC BK311.out 1).trans rfl
   have hcz9_2 : w8.cell? ⟨gb311, 2, none⟩ = some (.int .i64 a0_2) := (bC BK311.out 2).trans rfl
   have hcz9_3 : w8.cell? ⟨gb311, 3, none⟩ = some (.string a0_3) := (bC BK311.out 3).trans rfl
   have hfz9_0 := bF BK311.out 0
   have hfz9_1 := bF BK311.out 1
   have hfz9_2 := bF BK311.out 2
   have hfz9_3 := bF BK311.out 3
   try go_wp2
   have n0_ := aM (blk_drew BK311.out)
   have n1_ := aM (bD HB.out)
   clear BK311
   clear HB
   have BK311 := n0_
   have HB := n1_
   clear n0_ n1_
   refine start_ (n := 19) (S := fun w' => w'.cell? ⟨gb311, 0, none⟩ = some (.int .i64 a0_0) ∧ w'.cell? ⟨gb311, 1, none⟩ = some (.int .i64 a0_1) ∧ w'.cell? ⟨gb311, 2, none⟩ = some (.int .i64 a0_2) ∧ w'.cell? ⟨gb311, 3, none⟩ = some (.string a0_3)) (ds := []) #[false, false, false, false, false, false, false, false, false, false, false, false, false, false, false, false, false, false, false] z0 rfl rfl ⟨(bC BK311.out 0).trans rfl, (bC BK311.out 1).trans rfl, (bC BK311.out 2).trans rfl, (bC BK311.out 3).trans rfl⟩ (fun hHeld => ?_); refine with_tabW impl_Command_parts.tab5 impl_Command_parts.bits5 (fun HT_ HW_ => ?_)
   generalize w8.drew = w10 at BK311 HB hHeld ⊢
   refine pA 0 23 ?_
   refine pA 2 25 ?_
   refine pA 5 28 ?_
   refine pA 6 29 ?_
   refine pA 9 32 ?_
   refine tA 3 26 ?_ (hy := by rintro w' ⟨s0, s1, s2, s3⟩; go_simp; with_reducible rfl)
   refine pA 4 27 ?_
   refine tA 10 33 ?_ (hy := by rintro w' ⟨s0, s1, s2, s3⟩; go_simp; with_reducible rfl)
   refine pA 11 34 ?_
   refine one_ (i := 1) (N := some 24) #[true, true, true, true, true, true, true, false, false, true, true, true, false, false, false, false, false, false, false] rfl rfl (one_of HT_.out z0) (by decide) (fun K hK => ?_)
   refine goes_ Try.func77 z0 rfl #[.int .i64 0, .int .i64 a0_1] (by rfl) rfl rfl z12 ?_
   with_reducible refine (impl_keepTo.calls 0 a0_1 t312 t313 t314 _ A4.out).mono ?_
   rintro e w11 ⟨rfl, hb⟩
   refine ⟨_, rfl, ?_⟩
   have n0_ := aM (blk_below (g := gb311) (o := .cells #[.int .i64 a0_0, .int .i64 a0_1, .int .i64 a0_2, .string a0_3] 29 (0, 0)) z8 hb)
   have n1_ := aM (below_step z15 hb)
   clear BK311
   clear HB
   have BK311 := n0_
   have HB := n1_
   clear n0_ n1_
   (try clear hb)
   (try clear hb2)
   (try clear hk)
   (try clear hi)
   refine hK.out _ _ ⟨(bC BK311.out 0).trans rfl, (bC BK311.out 1).trans rfl, (bC BK311.out 2).trans rfl, (bC BK311.out 3).trans rfl⟩ (fun hHeld => ?_)
   clear hK K
   refine norm_ (a' := ?_) ?_ ?_
   rotate_left
   ·show Act.put _ (some 24) _ = _
    simp only [Act.put, sA, sB, sC, i64_w, i32_w]
    rfl
   refine one_ (i := 7) (N := some 30) #[true, true, true, true, true, true, true, true, false, true, true, true, false, false, false, false, false, false, false] rfl rfl (one_of HT_.out z0) (by decide) (fun K hK => ?_)
   refine goes_ Try.func77 z0 rfl #[.int .i64 a0_1, .int .i64 (a1.size : Int)] (by rfl) rfl rfl z12 ?_
   with_reducible refine (impl_keepTo.calls a0_1 (a1.size : Int) t315 t316 t317 _ A5.out).mono ?_
   rintro e w12 ⟨rfl, hb⟩
   refine ⟨_, rfl, ?_⟩
   have n0_ := aM (blk_below (g := gb311) (o := .cells #[.int .i64 a0_0, .int .i64 a0_1, .int .i64 a0_2, .string a0_3] 29 (0, 0)) z8 hb)
   have n1_ := aM (below_step z15 hb)
   clear BK311
   clear HB
   have BK311 := n0_
   have HB := n1_
   clear n0_ n1_
   (try clear hb)
   (try clear hb2)
   (try clear hk)
   (try clear hi)
   refine hK.out _ _ ⟨(bC BK311.out 0).trans rfl, (bC BK311.out 1).trans rfl, (bC BK311.out 2).trans rfl, (bC BK311.out 3).trans rfl⟩ (fun hHeld => ?_)
   clear hK K
   refine norm_ (a' := ?_) ?_ ?_
   rotate_left
   ·show Act.put _ (some 30) _ = _
    simp only [Act.put, sA, sB, sC, i64_w, i32_w]
    rfl
   refine pA 12 35 ?_
   refine pB 13 36 ?_
   refine pB 14 37 ?_
   refine pB 15 38 ?_
   refine pA 16 39 ?_
   refine one_ (i := 8) (N := some 31) #[true, true, true, true, true, true, true, true, true, true, true, true, true, true, true, true, true, false, false] rfl rfl (one_of HT_.out z0) (by decide) (fun K hK => ?_)
   refine Kd.R_lit_step k61 _ 61 ?hg (N := 31) ?hd (xs := ([(⟨t312, t313, t314⟩ : S61), (⟨0, a0_3, (⟨#[]⟩ : ByteArray)⟩ : S61), (⟨t315, t316, t317⟩ : S61)] : List (S61))) (inner := [.int .i64 t312, .string t313, .string t314, .int .i64 0, .string a0_3, .string (⟨#[]⟩ : ByteArray), .int .i64 t315, .string t316, .string t317]) (ok := fun _ => True) (okp := fun _ => True) ?hr ?hp (fun _ hk => hk) trivial (Below.refl _ _) (Nat.le_refl _) (by simp) ?_; (case hd => rfl); (case hg => rfl); (case hr => first | (go_simp; done) | (go_simp; rfl)); (case hp => exact (Reps.c3 (show Kd.M k61 _ _ _ (⟨t312, t313, t314⟩ : S61) [.int .i64 t312, .string t313, .string t314] from (k61_mkM _ _ _ (⟨t312, t313, t314⟩ : S61) )) (Reps.c3 (show Kd.M k61 _ _ _ (⟨0, a0_3, (⟨#[]⟩ : ByteArray)⟩ : S61) [.int .i64 0, .string a0_3, .string (⟨#[]⟩ : ByteArray)] from (k61_mkM _ _ _ (⟨0, a0_3, (⟨#[]⟩ : ByteArray)⟩ : S61) )) (Reps.c3 (show Kd.M k61 _ _ _ (⟨t315, t316, t317⟩ : S61) [.int .i64 t315, .string t316, .string t317] from (k61_mkM _ _ _ (⟨t315, t316, t317⟩ : S61) )) (Reps.none _ _)))))
   intro v319 w13 ho14 hb hg_ hnew_
   clear hg_ hnew_
   (first | rw [← Ny318.out] at ho14 | (simp only [Int.reduceToNat] at ho14; rw [← Ny318.out] at ho14))
   have n0_ := aM (Kd.R_lower ho14 (below_size z15))
   have n1_ := aM (blk_below (g := gb311) (o := .cells #[.int .i64 a0_0, .int .i64 a0_1, .int .i64 a0_2, .string a0_3] 29 (0, 0)) z8 hb)
   have n2_ := aM (below_step z15 hb)
   clear BK311
   clear HB
   have HO320 := n0_
   have BK311 := n1_
   have HB := n2_
   clear n0_ n1_ n2_
   clear hb ho14
   refine hK.out _ _ ⟨(bC BK311.out 0).trans rfl, (bC BK311.out 1).trans rfl, (bC BK311.out 2).trans rfl, (bC BK311.out 3).trans rfl⟩ (fun hHeld => ?_)
   clear hK K
   refine norm_ (a' := ?_) ?_ ?_
   rotate_left
   ·show Act.put _ (some 31) _ = _
    simp only [Act.put, sA, sB, sC, i64_w, i32_w]
    rfl
   refine pA 17 4 ?_
   refine pA 18 5 ?_
   refine done_ (done_of HT_.out z0) ?_
   try go_wp2
   go_ret2
   exact ⟨_, y3, by (with_reducible repeat (first | apply Kd.R_alloc | apply Kd.R_drewN | apply Kd.R_drew)); exact HO320.out, y12⟩
  ·rw [if_neg c6] at H
   have c6b0 : (a0_3.toList == ([] : List UInt8)) = false := qF c6
   have c6b1 : (a0_3.toList != ([] : List UInt8)) = true := nT c6
   replace H := oB H
   obtain ⟨t321, A150, H⟩ := H
   try dsimp only at H
   have A15 := aM A150
   clear A150
   simp only [Option.some.injEq, Prod.mk.injEq] at H
   obtain ⟨rfl, rfl⟩ := H
   go_enter Try.func56, Try.ntmps56
   try go_wp2_with (first | ((with_reducible refine gate_dst (N := 2) rfl ?_); refine box_event ?hg (N := 2) ?hd (cs := #[.int .i64 a0_0, .int .i64 a0_1, .int .i64 a0_2, .string a0_3]) (t := 29) ?hr ?_; (case hd => rfl); (case hg => rfl); (case hr => first | (go_simp; done) | (go_simp; rfl)); intro gb311 hg w16 hbox hb; have n0_ := aM (below_step z11 hb); have n1_ := aM (hbox); have n2_ := aM ((by rw [hg]; exact (below_size z11) : w.heap.size ≤ gb311)); have n3_ := aM ((by rw [hg]; exact (below_size z11) : w.heap.size ≤ gb311)); clear HB; have HB := n0_; have BK311 := n1_; have GW311 := n2_; have GE311 := n3_; clear n0_ n1_ n2_ n3_; clear hb hbox hg))
   have n0_ := aM (blk_drew BK311.out)
   have n1_ := aM (bD HB.out)
   clear BK311
   clear HB
   have BK311 := n0_
   have HB := n1_
   clear n0_ n1_
   refine start_ (n := 6) (S := fun w' => w'.cell? ⟨gb311, 0, none⟩ = some (.int .i64 a0_0) ∧ w'.cell? ⟨gb311, 1, none⟩ = some (.int .i64 a0_1) ∧ w'.cell? ⟨gb311, 2, none⟩ = some (.int .i64 a0_2) ∧ w'.cell? ⟨gb311, 3, none⟩ = some (.string a0_3)) (ds := []) #[false, false, false, false, false, false] z0 rfl rfl ⟨(bC BK311.out 0).trans rfl, (bC BK311.out 1).trans rfl, (bC BK311.out 2).trans rfl, (bC BK311.out 3).trans rfl⟩ (fun hHeld => ?_)
   generalize w16.drew = w17 at BK311 HB hHeld ⊢
   refine pA 0 15 ?_
   refine pA 2 17 ?_
   refine tA 1 16 ?_ (hy := by rintro w' ⟨s0, s1, s2, s3⟩; go_simp; with_reducible rfl)
   refine pA 4 7 ?_
   refine tA 3 18 ?_ (hy := by rintro w' ⟨s0, s1, s2, s3⟩; go_simp; with_reducible rfl)
   refine pA 5 8 ?_
   refine done_ z0 ?_
   have hcz18_0 : w17.cell? ⟨gb311, 0, none⟩ = some (.int .i64 a0_0) := (bC BK311.out 0).trans rfl
   have hcz18_1 : w17.cell? ⟨gb311, 1, none⟩ = some (.int .i64 a0_1) := (bC BK311.out 1).trans rfl
   have hcz18_2 : w17.cell? ⟨gb311, 2, none⟩ = some (.int .i64 a0_2) := (bC BK311.out 2).trans rfl
   have hcz18_3 : w17.cell? ⟨gb311, 3, none⟩ = some (.string a0_3) := (bC BK311.out 3).trans rfl
   have hfz18_0 := bF BK311.out 0
   have hfz18_1 := bF BK311.out 1
   have hfz18_2 := bF BK311.out 2
   have hfz18_3 := bF BK311.out 3
   try go_wp2
   have n0_ := aM (blk_drew BK311.out)
   have n1_ := aM (bD HB.out)
   clear BK311
   clear HB
   have BK311 := n0_
   have HB := n1_
   clear n0_ n1_
   refine start_ (n := 19) (S := fun w' => w'.cell? ⟨gb311, 0, none⟩ = some (.int .i64 a0_0) ∧ w'.cell? ⟨gb311, 1, none⟩ = some (.int .i64 a0_1) ∧ w'.cell? ⟨gb311, 2, none⟩ = some (.int .i64 a0_2) ∧ w'.cell? ⟨gb311, 3, none⟩ = some (.string a0_3)) (ds := []) #[false, false, false, false, false, false, false, false, false, false, false, false, false, false, false, false, false, false, false] z0 rfl rfl ⟨(bC BK311.out 0).trans rfl, (bC BK311.out 1).trans rfl, (bC BK311.out 2).trans rfl, (bC BK311.out 3).trans rfl⟩ (fun hHeld => ?_); refine with_tabW impl_Command_parts.tab5 impl_Command_parts.bits5 (fun HT_ HW_ => ?_)
   generalize w17.drew = w19 at BK311 HB hHeld ⊢
   refine pA 0 23 ?_
   refine pA 2 25 ?_
   refine pA 5 28 ?_
   refine pA 6 29 ?_
   refine pA 9 32 ?_
   refine tA 3 26 ?_ (hy := by rintro w' ⟨s0, s1, s2, s3⟩; go_simp; with_reducible rfl)
   refine pA 4 27 ?_
   refine tA 10 33 ?_ (hy := by rintro w' ⟨s0, s1, s2, s3⟩; go_simp; with_reducible rfl)
   refine pA 11 34 ?_
   refine one_ (i := 1) (N := some 24) #[true, true, true, true, true, true, true, false, false, true, true, true, false, false, false, false, false, false, false] rfl rfl (one_of HT_.out z0) (by decide) (fun K hK => ?_)
   refine goes_ Try.func77 z0 rfl #[.int .i64 0, .int .i64 a0_1] (by rfl) rfl rfl z12 ?_
   with_reducible refine (impl_keepTo.calls 0 a0_1 t312 t313 t314 _ A4.out).mono ?_
   rintro e w20 ⟨rfl, hb⟩
   refine ⟨_, rfl, ?_⟩
   have n0_ := aM (blk_below (g := gb311) (o := .cells #[.int .i64 a0_0, .int .i64 a0_1, .int .i64 a0_2, .string a0_3] 29 (0, 0)) z8 hb)
   have n1_ := aM (below_step z15 hb)
   clear BK311
   clear HB
   have BK311 := n0_
   have HB := n1_
   clear n0_ n1_
   (try clear hb)
   (try clear hb2)
   (try clear hk)
   (try clear hi)
   refine hK.out _ _ ⟨(bC BK311.out 0).trans rfl, (bC BK311.out 1).trans rfl, (bC BK311.out 2).trans rfl, (bC BK311.out 3).trans rfl⟩ (fun hHeld => ?_)
   clear hK K
   refine norm_ (a' := ?_) ?_ ?_
   rotate_left
   ·show Act.put _ (some 24) _ = _
    simp only [Act.put, sA, sB, sC, i64_w, i32_w]
    rfl
   refine one_ (i := 7) (N := some 30) #[true, true, true, true, true, true, true, true, false, true, true, true, false, false, false, false, false, false, false] rfl rfl (one_of HT_.out z0) (by decide) (fun K hK => ?_)
   refine goes_ Try.func77 z0 rfl #[.int .i64 a0_1, .int .i64 (a1.size : Int)] (by rfl) rfl rfl z12 ?_
   with_reducible refine (impl_keepTo.calls a0_1 (a1.size : Int) t315 t316 t317 _ A5.out).mono ?_
   rintro e w21 ⟨rfl, hb⟩
   refine ⟨_, rfl, ?_⟩
   have n0_ := aM (blk_below (g := gb311) (o := .cells #[.int .i64 a0_0, .int .i64 a0_1, .int .i64 a0_2, .string a0_3] 29 (0, 0)) z8 hb)
   have n1_ := aM (below_step z15 hb)
   clear BK311
   clear HB
   have BK311 := n0_
   have HB := n1_
   clear n0_ n1_
   (try clear hb)
   (try clear hb2)
   (try clear hk)
   (try clear hi)
   refine hK.out _ _ ⟨(bC BK311.out 0).trans rfl, (bC BK311.out 1).trans rfl, (bC BK311.out 2).trans rfl, (bC BK311.out 3).trans rfl⟩ (fun hHeld => ?_)
   clear hK K
   refine norm_ (a' := ?_) ?_ ?_
   rotate_left
   ·show Act.put _ (some 30) _ = _
    simp only [Act.put, sA, sB, sC, i64_w, i32_w]
    rfl
   refine pA 12 35 ?_
   refine pA 13 36 ?_
   refine tA 14 37 ?_ (hy := by rintro w' ⟨s0, s1, s2, s3⟩; go_simp; with_reducible rfl)
   refine join_ (σ := Value) 2 #[true, true, true, true, true, true, true, true, true, true, true, true, true, true, true, true, true, false, false] (fun s_ => [(31, s_), (38, .bool t321), (39, .bool t321)]) (fun s_ w' => (w'.cell? ⟨gb311, 0, none⟩ = some (.int .i64 a0_0) ∧ w'.cell? ⟨gb311, 1, none⟩ = some (.int .i64 a0_1) ∧ w'.cell? ⟨gb311, 2, none⟩ = some (.int .i64 a0_2) ∧ w'.cell? ⟨gb311, 3, none⟩ = some (.string a0_3)) ∧ (Kd.R k61 61 w' w.heap.size (fun _ => True) s_ y318) ∧ (w'.heap[gb311]? = some (.cells #[.int .i64 a0_0, .int .i64 a0_1, .int .i64 a0_2, .string a0_3] 29 (0, 0))) ∧ (Below w.heap.size w w')) ?_ ?_
   rotate_left
   ·intro hCont
    refine two_ (i := 8) (j := 15) (Ni := some 31) (Nj := some 38) #[true, true, true, true, true, true, true, true, true, true, true, true, true, true, true, false, false, false, false] #[true, true, true, true, true, true, true, true, false, true, true, true, true, true, true, true, false, false, false] rfl rfl rfl rfl (two_of HT_.out z0) (by decide) (by decide) (fun K hK => ?_) (fun K hK => ?_)
    ·skip
     refine Kd.R_lit_step k61 _ 61 ?hg (N := 31) ?hd (xs := ([(⟨t312, t313, t314⟩ : S61), (⟨0, a0_3, (⟨#[]⟩ : ByteArray)⟩ : S61), (⟨t315, t316, t317⟩ : S61)] : List (S61))) (inner := [.int .i64 t312, .string t313, .string t314, .int .i64 0, .string a0_3, .string (⟨#[]⟩ : ByteArray), .int .i64 t315, .string t316, .string t317]) (ok := fun _ => True) (okp := fun _ => True) ?hr ?hp (fun _ hk => hk) trivial (Below.refl _ _) (Nat.le_refl _) (by simp) ?_; (case hd => rfl); (case hg => rfl); (case hr => first | (go_simp; done) | (go_simp; rfl)); (case hp => exact (Reps.c3 (show Kd.M k61 _ _ _ (⟨t312, t313, t314⟩ : S61) [.int .i64 t312, .string t313, .string t314] from (k61_mkM _ _ _ (⟨t312, t313, t314⟩ : S61) )) (Reps.c3 (show Kd.M k61 _ _ _ (⟨0, a0_3, (⟨#[]⟩ : ByteArray)⟩ : S61) [.int .i64 0, .string a0_3, .string (⟨#[]⟩ : ByteArray)] from (k61_mkM _ _ _ (⟨0, a0_3, (⟨#[]⟩ : ByteArray)⟩ : S61) )) (Reps.c3 (show Kd.M k61 _ _ _ (⟨t315, t316, t317⟩ : S61) [.int .i64 t315, .string t316, .string t317] from (k61_mkM _ _ _ (⟨t315, t316, t317⟩ : S61) )) (Reps.none _ _)))))
     intro v319 w22 ho23 hb hg_ hnew_
     clear hg_ hnew_
     (first | rw [← Ny318.out] at ho23 | (simp only [Int.reduceToNat] at ho23; rw [← Ny318.out] at ho23))
     have n0_ := aM (Kd.R_lower ho23 (below_size z15))
     have n1_ := aM (blk_below (g := gb311) (o := .cells #[.int .i64 a0_0, .int .i64 a0_1, .int .i64 a0_2, .string a0_3] 29 (0, 0)) z8 hb)
     have n2_ := aM (below_step z15 hb)
     clear BK311
     clear HB
     have HO320 := n0_
     have BK311 := n1_
     have HB := n2_
     clear n0_ n1_ n2_
     clear hb ho23
     refine hK.out _ _ ⟨(bC BK311.out 0).trans rfl, (bC BK311.out 1).trans rfl, (bC BK311.out 2).trans rfl, (bC BK311.out 3).trans rfl⟩ (fun hHeld => ?_)
     clear hK K
     refine norm_ (a' := ?_) ?_ ?_
     rotate_left
     ·show Act.put _ (some 31) _ = _
      simp only [Act.put, sA, sB, sC, i64_w, i32_w]
      rfl
     refine one_ (i := 15) (N := some 38) #[true, true, true, true, true, true, true, true, true, true, true, true, true, true, true, true, false, false, false] rfl rfl (one_of HT_.out z0) (by decide) (fun K hK => ?_)
     refine goes_ Try.func45 z0 rfl #[.string a0_3] (by rfl) rfl rfl z12 ?_
     with_reducible refine (impl_GoodText.calls k a0_3 t321 _ A15.out).mono ?_
     rintro e w' ⟨rfl, ⟨nd, rfl⟩⟩
     refine ⟨_, rfl, ?_⟩
     refine hK.out _ _ ⟨(bC BK311.out 0).trans rfl, (bC BK311.out 1).trans rfl, (bC BK311.out 2).trans rfl, (bC BK311.out 3).trans rfl⟩ (fun hHeld => ?_)
     clear hK K
     refine norm_ (a' := ?_) ?_ ?_
     rotate_left
     ·show Act.put _ (some 38) _ = _
      simp only [Act.put, sA, sB, sC, i64_w, i32_w]
      rfl
     refine pA 16 39 ?_
     exact norm_ (by simp only [putAll, Act.put, sA, sB, sC] <;> rfl) (hCont (v319) _ ⟨hHeld, (by (with_reducible repeat (first | apply Kd.R_alloc | apply Kd.R_drewN | apply Kd.R_drew)); exact HO320.out), z8, z15⟩)
    ·skip
     refine goes_ Try.func45 z0 rfl #[.string a0_3] (by rfl) rfl rfl z12 ?_
     with_reducible refine (impl_GoodText.calls k a0_3 t321 _ A15.out).mono ?_
     rintro e w' ⟨rfl, ⟨nd, rfl⟩⟩
     refine ⟨_, rfl, ?_⟩
     refine hK.out _ _ ⟨(bC BK311.out 0).trans rfl, (bC BK311.out 1).trans rfl, (bC BK311.out 2).trans rfl, (bC BK311.out 3).trans rfl⟩ (fun hHeld => ?_)
     clear hK K
     refine norm_ (a' := ?_) ?_ ?_
     rotate_left
     ·show Act.put _ (some 38) _ = _
      simp only [Act.put, sA, sB, sC, i64_w, i32_w]
      rfl
     refine pA 16 39 ?_
     refine one_ (i := 8) (N := some 31) #[true, true, true, true, true, true, true, true, true, true, true, true, true, true, true, true, true, false, false] rfl rfl (one_of HT_.out z0) (by decide) (fun K hK => ?_)
     refine Kd.R_lit_step k61 _ 61 ?hg (N := 31) ?hd (xs := ([(⟨t312, t313, t314⟩ : S61), (⟨0, a0_3, (⟨#[]⟩ : ByteArray)⟩ : S61), (⟨t315, t316, t317⟩ : S61)] : List (S61))) (inner := [.int .i64 t312, .string t313, .string t314, .int .i64 0, .string a0_3, .string (⟨#[]⟩ : ByteArray), .int .i64 t315, .string t316, .string t317]) (ok := fun _ => True) (okp := fun _ => True) ?hr ?hp (fun _ hk => hk) trivial (Below.refl _ _) (Nat.le_refl _) (by simp) ?_; (case hd => rfl); (case hg => rfl); (case hr => first | (go_simp; done) | (go_simp; rfl)); (case hp => exact (Reps.c3 (show Kd.M k61 _ _ _ (⟨t312, t313, t314⟩ : S61) [.int .i64 t312, .string t313, .string t314] from (k61_mkM _ _ _ (⟨t312, t313, t314⟩ : S61) )) (Reps.c3 (show Kd.M k61 _ _ _ (⟨0, a0_3, (⟨#[]⟩ : ByteArray)⟩ : S61) [.int .i64 0, .string a0_3, .string (⟨#[]⟩ : ByteArray)] from (k61_mkM _ _ _ (⟨0, a0_3, (⟨#[]⟩ : ByteArray)⟩ : S61) )) (Reps.c3 (show Kd.M k61 _ _ _ (⟨t315, t316, t317⟩ : S61) [.int .i64 t315, .string t316, .string t317] from (k61_mkM _ _ _ (⟨t315, t316, t317⟩ : S61) )) (Reps.none _ _)))))
     intro v319 w22 ho23 hb hg_ hnew_
     clear hg_ hnew_
     (first | rw [← Ny318.out] at ho23 | (simp only [Int.reduceToNat] at ho23; rw [← Ny318.out] at ho23))
     have n0_ := aM (Kd.R_lower ho23 (below_size z15))
     have n1_ := aM (blk_below (g := gb311) (o := .cells #[.int .i64 a0_0, .int .i64 a0_1, .int .i64 a0_2, .string a0_3] 29 (0, 0)) z8 hb)
     have n2_ := aM (below_step z15 hb)
     clear BK311
     clear HB
     have HO320 := n0_
     have BK311 := n1_
     have HB := n2_
     clear n0_ n1_ n2_
     clear hb ho23
     refine hK.out _ _ ⟨(bC BK311.out 0).trans rfl, (bC BK311.out 1).trans rfl, (bC BK311.out 2).trans rfl, (bC BK311.out 3).trans rfl⟩ (fun hHeld => ?_)
     clear hK K
     refine norm_ (a' := ?_) ?_ ?_
     rotate_left
     ·show Act.put _ (some 31) _ = _
      simp only [Act.put, sA, sB, sC, i64_w, i32_w]
      rfl
     exact norm_ (by simp only [putAll, Act.put, sA, sB, sC] <;> rfl) (hCont (v319) _ ⟨hHeld, (by (with_reducible repeat (first | apply Kd.R_alloc | apply Kd.R_drewN | apply Kd.R_drew)); exact HO320.out), z8, z15⟩)
   rintro v319 w24 ⟨hS_, h0_, h1_, h2_⟩
   have n0_ : Aside0 (Kd.R k61 61 w24 w.heap.size (fun _ => True) v319 y318) := ⟨h0_⟩
   have n1_ : Aside0 (w24.heap[gb311]? = some (.cells #[.int .i64 a0_0, .int .i64 a0_1, .int .i64 a0_2, .string a0_3] 29 (0, 0))) := ⟨h1_⟩
   have n2_ : Aside0 (Below w.heap.size w w24) := ⟨h2_⟩
   clear BK311
   clear HB
   clear h0_ h1_ h2_
   have HO320 := n0_
   have BK311 := n1_
   have HB := n2_
   clear n0_ n1_ n2_
   have hHeld : w24.cell? ⟨gb311, 0, none⟩ = some (.int .i64 a0_0) ∧ w24.cell? ⟨gb311, 1, none⟩ = some (.int .i64 a0_1) ∧ w24.cell? ⟨gb311, 2, none⟩ = some (.int .i64 a0_2) ∧ w24.cell? ⟨gb311, 3, none⟩ = some (.string a0_3) := hS_
   refine norm_ (a' := ?_) ?_ ?_
   rotate_left
   ·simp only [putAll, Act.put, sA, sB, sC]
    rfl
   refine pA 17 4 ?_
   refine pA 18 5 ?_
   refine done_ (done_of HT_.out z0) ?_
   try go_wp2
   go_ret2
   exact ⟨_, y3, by (with_reducible repeat (first | apply Kd.R_alloc | apply Kd.R_drewN | apply Kd.R_drew)); exact HO320.out, y12⟩
 ·rw [if_neg c3] at H
  have c3b0 : (a0_0 == 1) = false := qF c3
  have c3b1 : (a0_0 != 1) = true := nT c3
  by_cases c25 : a0_0 = 2
  ·rw [if_pos c25] at H
   have c25b0 : (a0_0 == 2) = true := qT c25
   have c25b1 : (a0_0 != 2) = false := nF c25
   clear c25
   have HC26 := aM H
   clear H
   go_enter Try.func56, Try.ntmps56
   try go_wp2_with (first | ((with_reducible refine gate_dst (N := 2) rfl ?_); refine box_event ?hg (N := 2) ?hd (cs := #[.int .i64 a0_0, .int .i64 a0_1, .int .i64 a0_2, .string a0_3]) (t := 29) ?hr ?_; (case hd => rfl); (case hg => rfl); (case hr => first | (go_simp; done) | (go_simp; rfl)); intro gb311 hg w27 hbox hb; have n0_ := aM (below_step z11 hb); have n1_ := aM (hbox); have n2_ := aM ((by rw [hg]; exact (below_size z11) : w.heap.size ≤ gb311)); have n3_ := aM ((by rw [hg]; exact (below_size z11) : w.heap.size ≤ gb311)); clear HB; have HB := n0_; have BK311 := n1_; have GW311 := n2_; have GE311 := n3_; clear n0_ n1_ n2_ n3_; clear hb hbox hg))
   have n0_ := aM (blk_drew BK311.out)
   have n1_ := aM (bD HB.out)
   clear BK311
   clear HB
   have BK311 := n0_
   have HB := n1_
   clear n0_ n1_
   refine start_ (n := 6) (S := fun w' => w'.cell? ⟨gb311, 0, none⟩ = some (.int .i64 a0_0) ∧ w'.cell? ⟨gb311, 1, none⟩ = some (.int .i64 a0_1) ∧ w'.cell? ⟨gb311, 2, none⟩ = some (.int .i64 a0_2) ∧ w'.cell? ⟨gb311, 3, none⟩ = some (.string a0_3)) (ds := []) #[false, false, false, false, false, false] z0 rfl rfl ⟨(bC BK311.out 0).trans rfl, (bC BK311.out 1).trans rfl, (bC BK311.out 2).trans rfl, (bC BK311.out 3).trans rfl⟩ (fun hHeld => ?_)
   generalize w27.drew = w28 at BK311 HB hHeld ⊢
   refine pA 0 15 ?_
   refine pA 2 17 ?_
   refine tA 1 16 ?_ (hy := by rintro w' ⟨s0, s1, s2, s3⟩; go_simp; with_reducible rfl)
   refine pA 4 7 ?_
   refine tA 3 18 ?_ (hy := by rintro w' ⟨s0, s1, s2, s3⟩; go_simp; with_reducible rfl)
   refine pA 5 8 ?_
   refine done_ z0 ?_
   have hcz29_0 : w28.cell? ⟨gb311, 0, none⟩ = some (.int .i64 a0_0) := (bC BK311.out 0).trans rfl
   have hcz29_1 : w28.cell? ⟨gb311, 1, none⟩ = some (.int .i64 a0_1) := (bC BK311.out 1).trans rfl
   have hcz29_2 : w28.cell? ⟨gb311, 2, none⟩ = some (.int .i64 a0_2) := (bC BK311.out 2).trans rfl
   have hcz29_3 : w28.cell? ⟨gb311, 3, none⟩ = some (.string a0_3) := (bC BK311.out 3).trans rfl
   have hfz29_0 := bF BK311.out 0
   have hfz29_1 := bF BK311.out 1
   have hfz29_2 := bF BK311.out 2
   have hfz29_3 := bF BK311.out 3
   go_upto_region 7 with (fail)
   go_cut [52] (fun v52 wc => ∃ (kq : Nat) (x52_25 : Bool), v52 = .bool x52_25 ∧ Aside0 (impl_Command_parts.j0 kq a1 (a1.size : Int) a0_1 a0_2 x52_25 = some (r1, r2)) ∧ Aside0 (kq ≤ k) ∧ Aside0 (wc.heap[gb311]? = some (.cells #[.int .i64 a0_0, .int .i64 a0_1, .int .i64 a0_2, .string a0_3] 29 (0, 0))) ∧ Aside0 (Below w.heap.size w wc))
   case first =>
    have H := HC26.out
    clear HC26
    by_cases c30 : a0_1 ≥ a0_2
    ·rw [if_pos c30] at H
     have c30b0 : decide (a0_2 ≤ a0_1) = true := dT c30
     clear c30
     (first | rw [c30b0] | (simp only [i64_w, i32_w]; rw [c30b0]) | skip)
     have H' := aM H
     clear H
     go_wp2
     go_meet
     case rel => exact ⟨_, (true), z1, H', ⟨y0⟩, ⟨y6⟩, ⟨y12⟩⟩
    ·rw [if_neg c30] at H
     have c30b0 : decide (a0_2 ≤ a0_1) = false := dF c30
     clear c30
     (first | rw [c30b0] | (simp only [i64_w, i32_w]; rw [c30b0]) | skip)
     by_cases c31 : 0 ≤ a0_1
     ·rw [if_pos c31] at H
      have c31b0 := eq_true c31
      have c31b1 : decide (0 ≤ a0_1) = true := dT c31
      clear c31
      by_cases c32 : a0_1 ≤ a0_2
      ·rw [if_pos c32] at H
       have c32b0 := eq_true c32
       have c32b1 : decide (a0_1 ≤ a0_2) = true := dT c32
       clear c32
       by_cases c33 : a0_2 ≤ (a1.size : Int)
       ·rw [if_pos c33] at H
        have c33b0 := eq_true c33
        have c33b1 : decide (a0_2 ≤ (a1.size : Int)) = true := dT c33
        clear c33
        replace H := oB H
        obtain ⟨t322, A340, H⟩ := H
        try dsimp only at H
        have A34 := aM A340
        clear A340
        have H' := aM H
        clear H
        go_wp2_with (first | (go_at_call 18; (with_reducible refine (impl_GoodDoc.calls k (a1.extract (a0_1 : Int).toNat (a0_2 : Int).toNat) t322 _ A34.out).mono ?_); rintro e w35 ⟨rfl, hb⟩; have n0_ := aM (blk_below (g := gb311) (o := .cells #[.int .i64 a0_0, .int .i64 a0_1, .int .i64 a0_2, .string a0_3] 29 (0, 0)) z8 hb); have n1_ := aM (below_step z15 hb); clear BK311; clear HB; have BK311 := n0_; have HB := n1_; clear n0_ n1_; (try clear hb); (try clear hb2); (try clear hk); (try clear hi)))
        go_meet
        case rel => exact ⟨_, (!t322), z1, H', ⟨y0⟩, ⟨y6⟩, ⟨y12⟩⟩
       ·rw [if_neg c33] at H
        exact absurd H (by simp)
      ·rw [if_neg c32] at H
       exact absurd H (by simp)
     ·rw [if_neg c31] at H
      exact absurd H (by simp)
   case rest =>
    clear HC26
    try clear c2
    try clear p2
    try clear c3
    try clear c3b0
    try clear c3b1
    try clear c4
    try clear c5
    try clear c6
    try clear c6b0
    try clear c6b1
    try clear c7
    try clear c25
    try clear c25b0
    try clear c25b1
    try clear c30
    try clear c30b0
    try clear c31
    try clear c31b0
    try clear c31b1
    try clear c32
    try clear c32b0
    try clear c32b1
    try clear c33
    try clear c33b0
    try clear c33b1
    try clear hcz18_0
    try clear hcz18_1
    try clear hcz18_2
    try clear hcz18_3
    try clear hcz29_0
    try clear hcz29_1
    try clear hcz29_2
    try clear hcz29_3
    try clear hfz18_0
    try clear hfz18_1
    try clear hfz18_2
    try clear hfz18_3
    try clear hfz29_0
    try clear hfz29_1
    try clear hfz29_2
    try clear hfz29_3
    obtain ⟨kq, x52_25, rfl, HA, HJ25, BK311, HB⟩ := hcut
    cases kq with
    | zero => exact absurd HA.out (by simp [impl_Command_parts.j0])
    | succ kj25 =>
     have H := HA.out
     clear HA
     simp only [impl_Command_parts.j0] at H
     by_cases c36 : x52_25 = true
     ·subst c36
      rw [if_pos rfl] at H
      simp only [Option.some.injEq, Prod.mk.injEq] at H
      obtain ⟨rfl, rfl⟩ := H
      go_wp2
      go_ret2
      exact ⟨_, y3, y21, y12⟩
     ·replace c36 := Bool.eq_false_iff.mpr c36
      subst c36
      rw [if_neg (show ¬ (false = true) by decide)] at H
      replace H := oB H
      obtain ⟨⟨t323, t324, t325⟩, A370, H⟩ := H
      try dsimp only at H
      have A37 := aM A370
      clear A370
      by_cases c38 : 0 ≤ a0_1
      ·rw [if_pos c38] at H
       have c38b0 := eq_true c38
       have c38b1 : decide (0 ≤ a0_1) = true := dT c38
       clear c38
       by_cases c39 : a0_1 ≤ a0_2
       ·rw [if_pos c39] at H
        have c39b0 := eq_true c39
        have c39b1 : decide (a0_1 ≤ a0_2) = true := dT c39
        clear c39
        by_cases c40 : a0_2 ≤ (a1.size : Int)
        ·rw [if_pos c40] at H
         have c40b0 := eq_true c40
         have c40b1 : decide (a0_2 ≤ (a1.size : Int)) = true := dT c40
         clear c40
         replace H := oB H
         obtain ⟨⟨t326, t327, t328⟩, A410, H⟩ := H
         try dsimp only at H
         have A41 := aM A410
         clear A410
         obtain ⟨y329, hy329⟩ : ∃ y_ : List (S61), y_ = (([(⟨t323, t324, t325⟩ : S61), (⟨0, (⟨#[]⟩ : ByteArray), a1.extract (a0_1 : Int).toNat (a0_2 : Int).toNat⟩ : S61), (⟨t326, t327, t328⟩ : S61)] : List (S61))) := ⟨_, rfl⟩
         replace H : (some (y329, true)) = some (r1, r2) := by first | (rw [hy329]; with_reducible exact H) | (have H2_ := (Option.bind_some _ _).symm.trans H; rw [hy329]; with_reducible exact H2_) | (have H2_ := (Option.bind_some _ _).symm.trans H; with_reducible exact H2_) | with_reducible exact H | (rw [hy329]; exact H) | exact H
         have Ny329 := aM hy329
         clear hy329
         simp only [Option.some.injEq, Prod.mk.injEq] at H
         obtain ⟨rfl, rfl⟩ := H
         try go_wp2
         have n0_ := aM (blk_drew BK311.out)
         have n1_ := aM (bD HB.out)
         clear BK311
         clear HB
         have BK311 := n0_
         have HB := n1_
         clear n0_ n1_
         refine start_ (n := 13) (S := fun w' => True) (ds := []) #[false, false, false, false, false, false, false, false, false, false, false, false, false] z0 rfl rfl trivial (fun hHeld => ?_); refine with_tabW impl_Command_parts.tab9 impl_Command_parts.bits9 (fun HT_ HW_ => ?_)
         generalize wc.drew = w42 at BK311 HB hHeld ⊢
         refine pA 0 53 ?_
         refine pA 2 55 ?_
         refine pA 3 56 ?_
         refine pA 4 57 ?_
         refine pA 5 58 ?_
         refine pA 6 59 ?_
         refine pA 7 60 ?_
         refine pA 8 61 ?_
         refine one_ (i := 1) (N := some 54) #[true, true, true, true, true, true, true, true, true, false, false, false, false] rfl rfl (one_of HT_.out z0) (by decide) (fun K hK => ?_)
         refine goes_ Try.func77 z0 rfl #[.int .i64 0, .int .i64 a0_1] (by rfl) rfl rfl z12 ?_
         with_reducible refine (impl_keepTo.calls 0 a0_1 t323 t324 t325 _ A37.out).mono ?_
         rintro e w43 ⟨rfl, hb⟩
         refine ⟨_, rfl, ?_⟩
         have n0_ := aM (blk_below (g := gb311) (o := .cells #[.int .i64 a0_0, .int .i64 a0_1, .int .i64 a0_2, .string a0_3] 29 (0, 0)) z8 hb)
         have n1_ := aM (below_step z15 hb)
         clear BK311
         clear HB
         have BK311 := n0_
         have HB := n1_
         clear n0_ n1_
         (try clear hb)
         (try clear hb2)
         (try clear hk)
         (try clear hi)
         refine hK.out _ _ trivial (fun hHeld => ?_)
         clear hK K
         refine norm_ (a' := ?_) ?_ ?_
         rotate_left
         ·show Act.put _ (some 54) _ = _
          simp only [Act.put, sA, sB, sC, i64_w, i32_w]
          rfl
         refine one_ (i := 9) (N := some 62) #[true, true, true, true, true, true, true, true, true, true, false, false, false] rfl rfl (one_of HT_.out z0) (by decide) (fun K hK => ?_)
         refine goes_ Try.func77 z0 rfl #[.int .i64 a0_2, .int .i64 (a1.size : Int)] (by rfl) rfl rfl z12 ?_
         with_reducible refine (impl_keepTo.calls a0_2 (a1.size : Int) t326 t327 t328 _ A41.out).mono ?_
         rintro e w44 ⟨rfl, hb⟩
         refine ⟨_, rfl, ?_⟩
         have n0_ := aM (blk_below (g := gb311) (o := .cells #[.int .i64 a0_0, .int .i64 a0_1, .int .i64 a0_2, .string a0_3] 29 (0, 0)) z8 hb)
         have n1_ := aM (below_step z15 hb)
         clear BK311
         clear HB
         have BK311 := n0_
         have HB := n1_
         clear n0_ n1_
         (try clear hb)
         (try clear hb2)
         (try clear hk)
         (try clear hi)
         refine hK.out _ _ trivial (fun hHeld => ?_)
         clear hK K
         refine norm_ (a' := ?_) ?_ ?_
         rotate_left
         ·show Act.put _ (some 62) _ = _
          simp only [Act.put, sA, sB, sC, i64_w, i32_w]
          rfl
         refine one_ (i := 10) (N := some 63) #[true, true, true, true, true, true, true, true, true, true, true, false, false] rfl rfl (one_of HT_.out z0) (by decide) (fun K hK => ?_)
         refine Kd.R_lit_step k61 _ 61 ?hg (N := 63) ?hd (xs := ([(⟨t323, t324, t325⟩ : S61), (⟨0, (⟨#[]⟩ : ByteArray), a1.extract (a0_1 : Int).toNat (a0_2 : Int).toNat⟩ : S61), (⟨t326, t327, t328⟩ : S61)] : List (S61))) (inner := [.int .i64 t323, .string t324, .string t325, .int .i64 0, .string (⟨#[]⟩ : ByteArray), .string (a1.extract (a0_1 : Int).toNat (a0_2 : Int).toNat), .int .i64 t326, .string t327, .string t328]) (ok := fun _ => True) (okp := fun _ => True) ?hr ?hp (fun _ hk => hk) trivial (Below.refl _ _) (Nat.le_refl _) (by simp) ?_; (case hd => rfl); (case hg => rfl); (case hr => first | (go_simp; done) | (go_simp; rfl)); (case hp => exact (Reps.c3 (show Kd.M k61 _ _ _ (⟨t323, t324, t325⟩ : S61) [.int .i64 t323, .string t324, .string t325] from (k61_mkM _ _ _ (⟨t323, t324, t325⟩ : S61) )) (Reps.c3 (show Kd.M k61 _ _ _ (⟨0, (⟨#[]⟩ : ByteArray), a1.extract (a0_1 : Int).toNat (a0_2 : Int).toNat⟩ : S61) [.int .i64 0, .string (⟨#[]⟩ : ByteArray), .string (a1.extract (a0_1 : Int).toNat (a0_2 : Int).toNat)] from (k61_mkM _ _ _ (⟨0, (⟨#[]⟩ : ByteArray), a1.extract (a0_1 : Int).toNat (a0_2 : Int).toNat⟩ : S61) )) (Reps.c3 (show Kd.M k61 _ _ _ (⟨t326, t327, t328⟩ : S61) [.int .i64 t326, .string t327, .string t328] from (k61_mkM _ _ _ (⟨t326, t327, t328⟩ : S61) )) (Reps.none _ _)))))
         intro v330 w45 ho46 hb hg_ hnew_
         clear hg_ hnew_
         (first | rw [← Ny329.out] at ho46 | (simp only [Int.reduceToNat] at ho46; rw [← Ny329.out] at ho46))
         have n0_ := aM (Kd.R_lower ho46 (below_size z15))
         have n1_ := aM (blk_below (g := gb311) (o := .cells #[.int .i64 a0_0, .int .i64 a0_1, .int .i64 a0_2, .string a0_3] 29 (0, 0)) z8 hb)
         have n2_ := aM (below_step z15 hb)
         clear BK311
         clear HB
         have HO331 := n0_
         have BK311 := n1_
         have HB := n2_
         clear n0_ n1_ n2_
         clear hb ho46
         refine hK.out _ _ trivial (fun hHeld => ?_)
         clear hK K
         refine norm_ (a' := ?_) ?_ ?_
         rotate_left
         ·show Act.put _ (some 63) _ = _
          simp only [Act.put, sA, sB, sC, i64_w, i32_w]
          rfl
         refine pA 11 4 ?_
         refine pA 12 5 ?_
         refine done_ (done_of HT_.out z0) ?_
         try go_wp2
         go_ret2
         exact ⟨_, y3, by (with_reducible repeat (first | apply Kd.R_alloc | apply Kd.R_drewN | apply Kd.R_drew)); exact HO331.out, y12⟩
        ·rw [if_neg c40] at H
         exact absurd H (by simp)
       ·rw [if_neg c39] at H
        exact absurd H (by simp)
      ·rw [if_neg c38] at H
       exact absurd H (by simp)
  ·rw [if_neg c25] at H
   have c25b0 : (a0_0 == 2) = false := qF c25
   have c25b1 : (a0_0 != 2) = true := nT c25
   by_cases c47 : a0_0 = 3
   ·rw [if_pos c47] at H
    have c47b0 : (a0_0 == 3) = true := qT c47
    have c47b1 : (a0_0 != 3) = false := nF c47
    clear c47
    have HC48 := aM H
    clear H
    go_enter Try.func56, Try.ntmps56
    try go_wp2_with (first | ((with_reducible refine gate_dst (N := 2) rfl ?_); refine box_event ?hg (N := 2) ?hd (cs := #[.int .i64 a0_0, .int .i64 a0_1, .int .i64 a0_2, .string a0_3]) (t := 29) ?hr ?_; (case hd => rfl); (case hg => rfl); (case hr => first | (go_simp; done) | (go_simp; rfl)); intro gb311 hg w49 hbox hb; have n0_ := aM (below_step z11 hb); have n1_ := aM (hbox); have n2_ := aM ((by rw [hg]; exact (below_size z11) : w.heap.size ≤ gb311)); have n3_ := aM ((by rw [hg]; exact (below_size z11) : w.heap.size ≤ gb311)); clear HB; have HB := n0_; have BK311 := n1_; have GW311 := n2_; have GE311 := n3_; clear n0_ n1_ n2_ n3_; clear hb hbox hg))
    have n0_ := aM (blk_drew BK311.out)
    have n1_ := aM (bD HB.out)
    clear BK311
    clear HB
    have BK311 := n0_
    have HB := n1_
    clear n0_ n1_
    refine start_ (n := 6) (S := fun w' => w'.cell? ⟨gb311, 0, none⟩ = some (.int .i64 a0_0) ∧ w'.cell? ⟨gb311, 1, none⟩ = some (.int .i64 a0_1) ∧ w'.cell? ⟨gb311, 2, none⟩ = some (.int .i64 a0_2) ∧ w'.cell? ⟨gb311, 3, none⟩ = some (.string a0_3)) (ds := []) #[false, false, false, false, false, false] z0 rfl rfl ⟨(bC BK311.out 0).trans rfl, (bC BK311.out 1).trans rfl, (bC BK311.out 2).trans rfl, (bC BK311.out 3).trans rfl⟩ (fun hHeld => ?_)
    generalize w49.drew = w50 at BK311 HB hHeld ⊢
    refine pA 0 15 ?_
    refine pA 2 17 ?_
    refine tA 1 16 ?_ (hy := by rintro w' ⟨s0, s1, s2, s3⟩; go_simp; with_reducible rfl)
    refine pA 4 7 ?_
    refine tA 3 18 ?_ (hy := by rintro w' ⟨s0, s1, s2, s3⟩; go_simp; with_reducible rfl)
    refine pA 5 8 ?_
    refine done_ z0 ?_
    have hcz51_0 : w50.cell? ⟨gb311, 0, none⟩ = some (.int .i64 a0_0) := (bC BK311.out 0).trans rfl
    have hcz51_1 : w50.cell? ⟨gb311, 1, none⟩ = some (.int .i64 a0_1) := (bC BK311.out 1).trans rfl
    have hcz51_2 : w50.cell? ⟨gb311, 2, none⟩ = some (.int .i64 a0_2) := (bC BK311.out 2).trans rfl
    have hcz51_3 : w50.cell? ⟨gb311, 3, none⟩ = some (.string a0_3) := (bC BK311.out 3).trans rfl
    have hfz51_0 := bF BK311.out 0
    have hfz51_1 := bF BK311.out 1
    have hfz51_2 := bF BK311.out 2
    have hfz51_3 := bF BK311.out 3
    go_upto_region 11 with (fail)
    go_cut [82] (fun v82 wc => ∃ (kq : Nat) (x82_47 : Bool), v82 = .bool x82_47 ∧ Aside0 (impl_Command_parts.j1 kq (a1.size : Int) a0_1 a0_2 x82_47 a0_0 a0_1 a0_2 a0_3 = some (r1, r2)) ∧ Aside0 (kq ≤ k) ∧ Aside0 (wc.heap[gb311]? = some (.cells #[.int .i64 a0_0, .int .i64 a0_1, .int .i64 a0_2, .string a0_3] 29 (0, 0))) ∧ Aside0 (Below w.heap.size w wc))
    case first =>
     have H := HC48.out
     clear HC48
     by_cases c52 : a0_1 > a0_2
     ·rw [if_pos c52] at H
      have c52b0 : decide (a0_2 < a0_1) = true := dT c52
      clear c52
      (first | rw [c52b0] | (simp only [i64_w, i32_w]; rw [c52b0]) | skip)
      have H' := aM H
      clear H
      go_wp2
      go_meet
      case rel => exact ⟨_, (true), z1, H', ⟨y0⟩, ⟨y6⟩, ⟨y12⟩⟩
     ·rw [if_neg c52] at H
      have c52b0 : decide (a0_2 < a0_1) = false := dF c52
      clear c52
      (first | rw [c52b0] | (simp only [i64_w, i32_w]; rw [c52b0]) | skip)
      by_cases c53 : 0 ≤ a0_1
      ·rw [if_pos c53] at H
       have c53b0 := eq_true c53
       have c53b1 : decide (0 ≤ a0_1) = true := dT c53
       clear c53
       by_cases c54 : a0_1 ≤ a0_2
       ·rw [if_pos c54] at H
        have c54b0 := eq_true c54
        have c54b1 : decide (a0_1 ≤ a0_2) = true := dT c54
        clear c54
        by_cases c55 : a0_2 ≤ (a1.size : Int)
        ·rw [if_pos c55] at H
         have c55b0 := eq_true c55
         have c55b1 : decide (a0_2 ≤ (a1.size : Int)) = true := dT c55
         clear c55
         replace H := oB H
         obtain ⟨t332, A560, H⟩ := H
         try dsimp only at H
         have A56 := aM A560
         clear A560
         by_cases c57 : t332 = true
         ·subst c57
          rw [if_pos rfl] at H
          replace H := oB H
          obtain ⟨t333, A580, H⟩ := H
          try dsimp only at H
          have A58 := aM A580
          clear A580
          have H' := aM H
          clear H
          go_wp2_with (first | (go_at_call 18; (with_reducible refine (impl_GoodDoc.calls k (a1.extract (a0_1 : Int).toNat (a0_2 : Int).toNat) true _ A56.out).mono ?_); rintro e w59 ⟨rfl, hb⟩; have n0_ := aM (blk_below (g := gb311) (o := .cells #[.int .i64 a0_0, .int .i64 a0_1, .int .i64 a0_2, .string a0_3] 29 (0, 0)) z8 hb); have n1_ := aM (below_step z15 hb); clear BK311; clear HB; have BK311 := n0_; have HB := n1_; clear n0_ n1_; (try clear hb); (try clear hb2); (try clear hk); (try clear hi); have hcz60_0 : w59.cell? ⟨gb311, 0, none⟩ = some (.int .i64 a0_0) := (bC BK311.out 0).trans rfl; have hcz60_1 : w59.cell? ⟨gb311, 1, none⟩ = some (.int .i64 a0_1) := (bC BK311.out 1).trans rfl; have hcz60_2 : w59.cell? ⟨gb311, 2, none⟩ = some (.int .i64 a0_2) := (bC BK311.out 2).trans rfl; have hcz60_3 : w59.cell? ⟨gb311, 3, none⟩ = some (.string a0_3) := (bC BK311.out 3).trans rfl; have hfz60_0 := bF BK311.out 0; have hfz60_1 := bF BK311.out 1; have hfz60_2 := bF BK311.out 2; have hfz60_3 := bF BK311.out 3) | (go_at_call 78; (with_reducible refine (impl_isNameText.calls a0_3 t333 _ A58.out).mono ?_); rintro e w' ⟨rfl, ⟨nd, rfl⟩⟩))
          go_meet
          case rel => exact ⟨_, (!t333), z1, H', ⟨y0⟩, ⟨y6⟩, ⟨y12⟩⟩
         ·replace c57 := Bool.eq_false_iff.mpr c57
          subst c57
          rw [if_neg (show ¬ (false = true) by decide)] at H
          have H' := aM H
          clear H
          go_wp2_with (first | (go_at_call 18; (with_reducible refine (impl_GoodDoc.calls k (a1.extract (a0_1 : Int).toNat (a0_2 : Int).toNat) false _ A56.out).mono ?_); rintro e w61 ⟨rfl, hb⟩; have n0_ := aM (blk_below (g := gb311) (o := .cells #[.int .i64 a0_0, .int .i64 a0_1, .int .i64 a0_2, .string a0_3] 29 (0, 0)) z8 hb); have n1_ := aM (below_step z15 hb); clear BK311; clear HB; have BK311 := n0_; have HB := n1_; clear n0_ n1_; (try clear hb); (try clear hb2); (try clear hk); (try clear hi)))
          go_meet
          case rel => exact ⟨_, (true), z1, H', ⟨y0⟩, ⟨y6⟩, ⟨y12⟩⟩
        ·rw [if_neg c55] at H
         exact absurd H (by simp)
       ·rw [if_neg c54] at H
        exact absurd H (by simp)
      ·rw [if_neg c53] at H
       exact absurd H (by simp)
    case rest =>
     clear HC48
     try clear c2
     try clear p2
     try clear c3
     try clear c3b0
     try clear c3b1
     try clear c4
     try clear c5
     try clear c6
     try clear c6b0
     try clear c6b1
     try clear c7
     try clear c25
     try clear c25b0
     try clear c25b1
     try clear c30
     try clear c30b0
     try clear c31
     try clear c31b0
     try clear c31b1
     try clear c32
     try clear c32b0
     try clear c32b1
     try clear c33
     try clear c33b0
     try clear c33b1
     try clear c36
     try clear c38
     try clear c38b0
     try clear c38b1
     try clear c39
     try clear c39b0
     try clear c39b1
     try clear c40
     try clear c40b0
     try clear c40b1
     try clear c47
     try clear c47b0
     try clear c47b1
     try clear c52
     try clear c52b0
     try clear c53
     try clear c53b0
     try clear c53b1
     try clear c54
     try clear c54b0
     try clear c54b1
     try clear c55
     try clear c55b0
     try clear c55b1
     try clear c56
     try clear c57
     try clear hcz18_0
     try clear hcz18_1
     try clear hcz18_2
     try clear hcz18_3
     try clear hcz29_0
     try clear hcz29_1
     try clear hcz29_2
     try clear hcz29_3
     try clear hcz51_0
     try clear hcz51_1
     try clear hcz51_2
     try clear hcz51_3
     try clear hcz60_0
     try clear hcz60_1
     try clear hcz60_2
     try clear hcz60_3
     try clear hfz18_0
     try clear hfz18_1
     try clear hfz18_2
     try clear hfz18_3
     try clear hfz29_0
     try clear hfz29_1
     try clear hfz29_2
     try clear hfz29_3
     try clear hfz51_0
     try clear hfz51_1
     try clear hfz51_2
     try clear hfz51_3
     try clear hfz60_0
     try clear hfz60_1
     try clear hfz60_2
     try clear hfz60_3
     try clear p2
     obtain ⟨kq, x82_47, rfl, HA, HJ47, BK311, HB⟩ := hcut
     cases kq with
     | zero => exact absurd HA.out (by simp [impl_Command_parts.j1])
     | succ kj47 =>
      have H := HA.out
      clear HA
      simp only [impl_Command_parts.j1] at H
      by_cases c62 : x82_47 = true
      ·subst c62
       rw [if_pos rfl] at H
       simp only [Option.some.injEq, Prod.mk.injEq] at H
       obtain ⟨rfl, rfl⟩ := H
       go_wp2
       go_ret2
       exact ⟨_, y3, y21, y12⟩
      ·replace c62 := Bool.eq_false_iff.mpr c62
       subst c62
       rw [if_neg (show ¬ (false = true) by decide)] at H
       replace H := oB H
       obtain ⟨⟨t334, t335, t336⟩, A630, H⟩ := H
       try dsimp only at H
       have A63 := aM A630
       clear A630
       replace H := oB H
       obtain ⟨⟨t337, t338, t339⟩, A640, H⟩ := H
       try dsimp only at H
       have A64 := aM A640
       clear A640
       replace H := oB H
       obtain ⟨⟨t340, t341, t342⟩, A650, H⟩ := H
       try dsimp only at H
       have A65 := aM A650
       clear A650
       obtain ⟨y343, hy343⟩ : ∃ y_ : List (S61), y_ = (([(⟨t334, t335, t336⟩ : S61), (⟨0, a0_3, (⟨#[]⟩ : ByteArray)⟩ : S61), (⟨t337, t338, t339⟩ : S61), (⟨0, (⟨#[47]⟩ : ByteArray), (⟨#[]⟩ : ByteArray)⟩ : S61), (⟨t340, t341, t342⟩ : S61)] : List (S61))) := ⟨_, rfl⟩
       replace H : (some (y343, true)) = some (r1, r2) := by first | (rw [hy343]; with_reducible exact H) | (have H2_ := (Option.bind_some _ _).symm.trans H; rw [hy343]; with_reducible exact H2_) | (have H2_ := (Option.bind_some _ _).symm.trans H; with_reducible exact H2_) | with_reducible exact H | (rw [hy343]; exact H) | exact H
       have Ny343 := aM hy343
       clear hy343
       simp only [Option.some.injEq, Prod.mk.injEq] at H
       obtain ⟨rfl, rfl⟩ := H
       try go_wp2
       have n0_ := aM (blk_drew BK311.out)
       have n1_ := aM (bD HB.out)
       clear BK311
       clear HB
       have BK311 := n0_
       have HB := n1_
       clear n0_ n1_
       refine start_ (n := 15) (S := fun w' => w'.cell? ⟨gb311, 0, none⟩ = some (.int .i64 a0_0) ∧ w'.cell? ⟨gb311, 1, none⟩ = some (.int .i64 a0_1) ∧ w'.cell? ⟨gb311, 2, none⟩ = some (.int .i64 a0_2) ∧ w'.cell? ⟨gb311, 3, none⟩ = some (.string a0_3)) (ds := []) #[false, false, false, false, false, false, false, false, false, false, false, false, false, false, false] z0 rfl rfl ⟨(bC BK311.out 0).trans rfl, (bC BK311.out 1).trans rfl, (bC BK311.out 2).trans rfl, (bC BK311.out 3).trans rfl⟩ (fun hHeld => ?_); refine with_tabW impl_Command_parts.tab13 impl_Command_parts.bits13 (fun HT_ HW_ => ?_)
       generalize wc.drew = w66 at BK311 HB hHeld ⊢
       refine pA 0 83 ?_
       refine pA 2 85 ?_
       refine pA 5 88 ?_
       refine pA 6 89 ?_
       refine pA 8 91 ?_
       refine pA 9 92 ?_
       refine pA 10 93 ?_
       refine tA 3 86 ?_ (hy := by rintro w' ⟨s0, s1, s2, s3⟩; go_simp; with_reducible rfl)
       refine pA 4 87 ?_
       refine one_ (i := 1) (N := some 84) #[true, true, true, true, true, true, true, false, true, true, true, false, false, false, false] rfl rfl (one_of HT_.out z0) (by decide) (fun K hK => ?_)
       refine goes_ Try.func77 z0 rfl #[.int .i64 0, .int .i64 a0_1] (by rfl) rfl rfl z12 ?_
       with_reducible refine (impl_keepTo.calls 0 a0_1 t334 t335 t336 _ A63.out).mono ?_
       rintro e w67 ⟨rfl, hb⟩
       refine ⟨_, rfl, ?_⟩
       have n0_ := aM (blk_below (g := gb311) (o := .cells #[.int .i64 a0_0, .int .i64 a0_1, .int .i64 a0_2, .string a0_3] 29 (0, 0)) z8 hb)
       have n1_ := aM (below_step z15 hb)
       clear BK311
       clear HB
       have BK311 := n0_
       have HB := n1_
       clear n0_ n1_
       (try clear hb)
       (try clear hb2)
       (try clear hk)
       (try clear hi)
       refine hK.out _ _ ⟨(bC BK311.out 0).trans rfl, (bC BK311.out 1).trans rfl, (bC BK311.out 2).trans rfl, (bC BK311.out 3).trans rfl⟩ (fun hHeld => ?_)
       clear hK K
       refine norm_ (a' := ?_) ?_ ?_
       rotate_left
       ·show Act.put _ (some 84) _ = _
        simp only [Act.put, sA, sB, sC, i64_w, i32_w]
        rfl
       refine one_ (i := 7) (N := some 90) #[true, true, true, true, true, true, true, true, true, true, true, false, false, false, false] rfl rfl (one_of HT_.out z0) (by decide) (fun K hK => ?_)
       refine goes_ Try.func77 z0 rfl #[.int .i64 a0_1, .int .i64 a0_2] (by rfl) rfl rfl z12 ?_
       with_reducible refine (impl_keepTo.calls a0_1 a0_2 t337 t338 t339 _ A64.out).mono ?_
       rintro e w68 ⟨rfl, hb⟩
       refine ⟨_, rfl, ?_⟩
       have n0_ := aM (blk_below (g := gb311) (o := .cells #[.int .i64 a0_0, .int .i64 a0_1, .int .i64 a0_2, .string a0_3] 29 (0, 0)) z8 hb)
       have n1_ := aM (below_step z15 hb)
       clear BK311
       clear HB
       have BK311 := n0_
       have HB := n1_
       clear n0_ n1_
       (try clear hb)
       (try clear hb2)
       (try clear hk)
       (try clear hi)
       refine hK.out _ _ ⟨(bC BK311.out 0).trans rfl, (bC BK311.out 1).trans rfl, (bC BK311.out 2).trans rfl, (bC BK311.out 3).trans rfl⟩ (fun hHeld => ?_)
       clear hK K
       refine norm_ (a' := ?_) ?_ ?_
       rotate_left
       ·show Act.put _ (some 90) _ = _
        simp only [Act.put, sA, sB, sC, i64_w, i32_w]
        rfl
       refine one_ (i := 11) (N := some 94) #[true, true, true, true, true, true, true, true, true, true, true, true, false, false, false] rfl rfl (one_of HT_.out z0) (by decide) (fun K hK => ?_)
       refine goes_ Try.func77 z0 rfl #[.int .i64 a0_2, .int .i64 (a1.size : Int)] (by rfl) rfl rfl z12 ?_
       with_reducible refine (impl_keepTo.calls a0_2 (a1.size : Int) t340 t341 t342 _ A65.out).mono ?_
       rintro e w69 ⟨rfl, hb⟩
       refine ⟨_, rfl, ?_⟩
       have n0_ := aM (blk_below (g := gb311) (o := .cells #[.int .i64 a0_0, .int .i64 a0_1, .int .i64 a0_2, .string a0_3] 29 (0, 0)) z8 hb)
       have n1_ := aM (below_step z15 hb)
       clear BK311
       clear HB
       have BK311 := n0_
       have HB := n1_
       clear n0_ n1_
       (try clear hb)
       (try clear hb2)
       (try clear hk)
       (try clear hi)
       refine hK.out _ _ ⟨(bC BK311.out 0).trans rfl, (bC BK311.out 1).trans rfl, (bC BK311.out 2).trans rfl, (bC BK311.out 3).trans rfl⟩ (fun hHeld => ?_)
       clear hK K
       refine norm_ (a' := ?_) ?_ ?_
       rotate_left
       ·show Act.put _ (some 94) _ = _
        simp only [Act.put, sA, sB, sC, i64_w, i32_w]
        rfl
       refine one_ (i := 12) (N := some 95) #[true, true, true, true, true, true, true, true, true, true, true, true, true, false, false] rfl rfl (one_of HT_.out z0) (by decide) (fun K hK => ?_)
       refine Kd.R_lit_step k61 _ 61 ?hg (N := 95) ?hd (xs := ([(⟨t334, t335, t336⟩ : S61), (⟨0, a0_3, (⟨#[]⟩ : ByteArray)⟩ : S61), (⟨t337, t338, t339⟩ : S61), (⟨0, (⟨#[47]⟩ : ByteArray), (⟨#[]⟩ : ByteArray)⟩ : S61), (⟨t340, t341, t342⟩ : S61)] : List (S61))) (inner := [.int .i64 t334, .string t335, .string t336, .int .i64 0, .string a0_3, .string (⟨#[]⟩ : ByteArray), .int .i64 t337, .string t338, .string t339, .int .i64 0, .string (⟨#[47]⟩ : ByteArray), .string (⟨#[]⟩ : ByteArray), .int .i64 t340, .string t341, .string t342]) (ok := fun _ => True) (okp := fun _ => True) ?hr ?hp (fun _ hk => hk) trivial (Below.refl _ _) (Nat.le_refl _) (by simp) ?_; (case hd => rfl); (case hg => rfl); (case hr => first | (go_simp; done) | (go_simp; rfl)); (case hp => exact (Reps.c3 (show Kd.M k61 _ _ _ (⟨t334, t335, t336⟩ : S61) [.int .i64 t334, .string t335, .string t336] from (k61_mkM _ _ _ (⟨t334, t335, t336⟩ : S61) )) (Reps.c3 (show Kd.M k61 _ _ _ (⟨0, a0_3, (⟨#[]⟩ : ByteArray)⟩ : S61) [.int .i64 0, .string a0_3, .string (⟨#[]⟩ : ByteArray)] from (k61_mkM _ _ _ (⟨0, a0_3, (⟨#[]⟩ : ByteArray)⟩ : S61) )) (Reps.c3 (show Kd.M k61 _ _ _ (⟨t337, t338, t339⟩ : S61) [.int .i64 t337, .string t338, .string t339] from (k61_mkM _ _ _ (⟨t337, t338, t339⟩ : S61) )) (Reps.c3 (show Kd.M k61 _ _ _ (⟨0, (⟨#[47]⟩ : ByteArray), (⟨#[]⟩ : ByteArray)⟩ : S61) [.int .i64 0, .string (⟨#[47]⟩ : ByteArray), .string (⟨#[]⟩ : ByteArray)] from (k61_mkM _ _ _ (⟨0, (⟨#[47]⟩ : ByteArray), (⟨#[]⟩ : ByteArray)⟩ : S61) )) (Reps.c3 (show Kd.M k61 _ _ _ (⟨t340, t341, t342⟩ : S61) [.int .i64 t340, .string t341, .string t342] from (k61_mkM _ _ _ (⟨t340, t341, t342⟩ : S61) )) (Reps.none _ _)))))))
       intro v344 w70 ho71 hb hg_ hnew_
       clear hg_ hnew_
       (first | rw [← Ny343.out] at ho71 | (simp only [Int.reduceToNat] at ho71; rw [← Ny343.out] at ho71))
       have n0_ := aM (Kd.R_lower ho71 (below_size z15))
       have n1_ := aM (blk_below (g := gb311) (o := .cells #[.int .i64 a0_0, .int .i64 a0_1, .int .i64 a0_2, .string a0_3] 29 (0, 0)) z8 hb)
       have n2_ := aM (below_step z15 hb)
       clear BK311
       clear HB
       have HO345 := n0_
       have BK311 := n1_
       have HB := n2_
       clear n0_ n1_ n2_
       clear hb ho71
       refine hK.out _ _ ⟨(bC BK311.out 0).trans rfl, (bC BK311.out 1).trans rfl, (bC BK311.out 2).trans rfl, (bC BK311.out 3).trans rfl⟩ (fun hHeld => ?_)
       clear hK K
       refine norm_ (a' := ?_) ?_ ?_
       rotate_left
       ·show Act.put _ (some 95) _ = _
        simp only [Act.put, sA, sB, sC, i64_w, i32_w]
        rfl
       refine pA 13 4 ?_
       refine pA 14 5 ?_
       refine done_ (done_of HT_.out z0) ?_
       try go_wp2
       go_ret2
       exact ⟨_, y3, by (with_reducible repeat (first | apply Kd.R_alloc | apply Kd.R_drewN | apply Kd.R_drew)); exact HO345.out, y12⟩
   ·rw [if_neg c47] at H
    have c47b0 : (a0_0 == 3) = false := qF c47
    have c47b1 : (a0_0 != 3) = true := nT c47
    by_cases c72 : a0_0 = 5
    ·rw [if_pos c72] at H
     have c72b0 : (a0_0 == 5) = true := qT c72
     have c72b1 : (a0_0 != 5) = false := nF c72
     clear c72
     replace H := oB H
     obtain ⟨t346, A730, H⟩ := H
     try dsimp only at H
     have A73 := aM A730
     clear A730
     by_cases c74 : (t346.length : Int) = 0
     ·rw [if_pos c74] at H
      have c74b0 : ((t346.length : Int) == 0) = true := qT c74
      have c74b1 : ((t346.length : Int) != 0) = false := nF c74
      clear c74
      simp only [Option.some.injEq, Prod.mk.injEq] at H
      obtain ⟨rfl, rfl⟩ := H
      go_enter Try.func56, Try.ntmps56
      try go_wp2_with (first | ((with_reducible refine gate_dst (N := 2) rfl ?_); refine box_event ?hg (N := 2) ?hd (cs := #[.int .i64 a0_0, .int .i64 a0_1, .int .i64 a0_2, .string a0_3]) (t := 29) ?hr ?_; (case hd => rfl); (case hg => rfl); (case hr => first | (go_simp; done) | (go_simp; rfl)); intro gb311 hg w75 hbox hb; have n0_ := aM (below_step z11 hb); have n1_ := aM (hbox); have n2_ := aM ((by rw [hg]; exact (below_size z11) : w.heap.size ≤ gb311)); have n3_ := aM ((by rw [hg]; exact (below_size z11) : w.heap.size ≤ gb311)); clear HB; have HB := n0_; have BK311 := n1_; have GW311 := n2_; have GE311 := n3_; clear n0_ n1_ n2_ n3_; clear hb hbox hg))
      have n0_ := aM (blk_drew BK311.out)
      have n1_ := aM (bD HB.out)
      clear BK311
      clear HB
      have BK311 := n0_
      have HB := n1_
      clear n0_ n1_
      refine start_ (n := 6) (S := fun w' => w'.cell? ⟨gb311, 0, none⟩ = some (.int .i64 a0_0) ∧ w'.cell? ⟨gb311, 1, none⟩ = some (.int .i64 a0_1) ∧ w'.cell? ⟨gb311, 2, none⟩ = some (.int .i64 a0_2) ∧ w'.cell? ⟨gb311, 3, none⟩ = some (.string a0_3)) (ds := []) #[false, false, false, false, false, false] z0 rfl rfl ⟨(bC BK311.out 0).trans rfl, (bC BK311.out 1).trans rfl, (bC BK311.out 2).trans rfl, (bC BK311.out 3).trans rfl⟩ (fun hHeld => ?_)
      generalize w75.drew = w76 at BK311 HB hHeld ⊢
      refine pA 0 15 ?_
      refine pA 2 17 ?_
      refine tA 1 16 ?_ (hy := by rintro w' ⟨s0, s1, s2, s3⟩; go_simp; with_reducible rfl)
      refine pA 4 7 ?_
      refine tA 3 18 ?_ (hy := by rintro w' ⟨s0, s1, s2, s3⟩; go_simp; with_reducible rfl)
      refine pA 5 8 ?_
      refine done_ z0 ?_
      have hcz77_0 : w76.cell? ⟨gb311, 0, none⟩ = some (.int .i64 a0_0) := (bC BK311.out 0).trans rfl
      have hcz77_1 : w76.cell? ⟨gb311, 1, none⟩ = some (.int .i64 a0_1) := (bC BK311.out 1).trans rfl
      have hcz77_2 : w76.cell? ⟨gb311, 2, none⟩ = some (.int .i64 a0_2) := (bC BK311.out 2).trans rfl
      have hcz77_3 : w76.cell? ⟨gb311, 3, none⟩ = some (.string a0_3) := (bC BK311.out 3).trans rfl
      have hfz77_0 := bF BK311.out 0
      have hfz77_1 := bF BK311.out 1
      have hfz77_2 := bF BK311.out 2
      have hfz77_3 := bF BK311.out 3
      try go_wp2_with (first | ((with_reducible refine gate_callee (f := 79) rfl ?_); refine goesL_ (some 100) rfl rfl Try.func79 z0 rfl #[.string a1, .int .i64 a0_1] rfl z12 ?_; (with_reducible refine (impl_around.calls k a1 a0_1 t346 _ A73.out).mono ?_); rintro e w78 ⟨v347, rfl, ho0, hb⟩; refine ⟨_, rfl, ?_⟩; have n0_ := aM (Kd.R_lower ho0 (below_size z15)); have n1_ := aM (blk_below (g := gb311) (o := .cells #[.int .i64 a0_0, .int .i64 a0_1, .int .i64 a0_2, .string a0_3] 29 (0, 0)) z8 hb); have n2_ := aM (below_step z15 hb); clear BK311; clear HB; have HO348 := n0_; have BK311 := n1_; have HB := n2_; clear n0_ n1_ n2_; (try clear hb); (try clear hb2); (try clear hk); (try clear hi); (try clear ho0); obtain ⟨Ao79, co79, eo79⟩ := Kd.R_slice HO348.out; subst eo79))
      go_ret2
      exact ⟨_, y3, y21, y12⟩
     ·rw [if_neg c74] at H
      have c74b0 : ((t346.length : Int) == 0) = false := qF c74
      have c74b1 : ((t346.length : Int) != 0) = true := nT c74
      have c74b2 : ¬ (t346 = []) := fun h_ => c74 (by rw [h_]; rfl)
      obtain ⟨ji80, hji80⟩ : ∃ j_ : Int, (wrap64 ((t346.length : Int) - 1)) = j_ := ⟨_, rfl⟩
      replace H : (if 0 ≤ (ji80) then (if (ji80) < (t346.length : Int) then ((impl_keepTo.f 0 a0_1).bind fun bt350 => (if 0 ≤ (rd t346 (ji80)) then (if (rd t346 (ji80)) ≤ (wrap64 ((rd t346 (ji80)) + 1)) then (if (wrap64 ((rd t346 (ji80)) + 1)) ≤ (a1.size : Int) then (if 1 + (a1.extract ((rd t346 (ji80)) : Int).toNat ((wrap64 ((rd t346 (ji80)) + 1)) : Int).toNat).size ≤ 9223372036854775807 then ((impl_keepTo.f a0_1 (a1.size : Int)).bind fun bt353 => (some ((([(⟨bt350.1, bt350.2.1, bt350.2.2⟩ : S61), (⟨0, (⟨#[47]⟩ : ByteArray) ++ (a1.extract ((rd t346 (ji80)) : Int).toNat ((wrap64 ((rd t346 (ji80)) + 1)) : Int).toNat), (⟨#[]⟩ : ByteArray)⟩ : S61), (⟨bt353.1, bt353.2.1, bt353.2.2⟩ : S61)] : List (S61))), true))) else (none)) else (none)) else (none)) else (none))) else (none)) else (none)) = some (r1, r2) := by first | (rw [hji80] at H; exact H) | (simp only [hji80] at H ⊢; exact H)
      (try rw [hji80] at A73)
      have hji80w : (IntKind.i64.wrap ((t346.length : Int) - 1)) = ji80 := (i64_w _).trans hji80
      by_cases c81 : 0 ≤ (ji80)
      ·rw [if_pos c81] at H
       have c81b0 : decide (0 ≤ (ji80)) = true := dT c81
       clear c81
       by_cases c82 : (ji80) < (t346.length : Int)
       ·rw [if_pos c82] at H
        have c82b0 : decide ((ji80) < (t346.length : Int)) = true := dT c82
        clear c82
        replace H := oB H
        obtain ⟨⟨t350, t351, t352⟩, A830, H⟩ := H
        try dsimp only at H
        have A83 := aM A830
        clear A830
        by_cases c84 : 0 ≤ (rd t346 (ji80))
        ·rw [if_pos c84] at H
         have c84b0 := eq_true c84
         have c84b1 : decide (0 ≤ (rd t346 (ji80))) = true := dT c84
         clear c84
         by_cases c85 : (rd t346 (ji80)) ≤ (wrap64 ((rd t346 (ji80)) + 1))
         ·rw [if_pos c85] at H
          have c85b0 := eq_true c85
          have c85b1 : decide ((rd t346 (ji80)) ≤ (wrap64 ((rd t346 (ji80)) + 1))) = true := dT c85
          by_cases c86 : (wrap64 ((rd t346 (ji80)) + 1)) ≤ (a1.size : Int)
          ·rw [if_pos c86] at H
           have c86b0 := eq_true c86
           have c86b1 : decide ((wrap64 ((rd t346 (ji80)) + 1)) ≤ (a1.size : Int)) = true := dT c86
           by_cases c87 : 1 + (a1.extract ((rd t346 (ji80)) : Int).toNat ((wrap64 ((rd t346 (ji80)) + 1)) : Int).toNat).size ≤ 9223372036854775807
           ·rw [if_pos c87] at H
            have c87b0 := eq_true c87
            have c87b1 : decide (1 + (a1.extract ((rd t346 (ji80)) : Int).toNat ((wrap64 ((rd t346 (ji80)) + 1)) : Int).toNat).size ≤ 9223372036854775807) = true := dT c87
            try have c87b2 : (9223372036854775807 < 1 + (a1.extract ((rd t346 (ji80)) : Int).toNat ((wrap64 ((rd t346 (ji80)) + 1)) : Int).toNat).size) = False := eq_false (Nat.not_lt.2 c87)
            (try (have c87x : (9223372036854775807 < 1 + ((wrap64 ((rd t346 (ji80)) + 1)).toNat - (rd t346 (ji80)).toNat)) = False := eq_false (fun h_ => by have e_ := of_eq_true c87b0; simp only [ByteArray.size_extract, ByteArray.size_append] at e_; have f0_ : (wrap64 ((rd t346 (ji80)) + 1)) ≤ (a1.size : Int) := (by first | assumption | exact of_eq_true (by assumption) | exact oD (by assumption)); omega)))
            replace H := oB H
            obtain ⟨⟨t353, t354, t355⟩, A880, H⟩ := H
            try dsimp only at H
            have A88 := aM A880
            clear A880
            obtain ⟨y356, hy356⟩ : ∃ y_ : List (S61), y_ = (([(⟨t350, t351, t352⟩ : S61), (⟨0, (⟨#[47]⟩ : ByteArray) ++ (a1.extract ((rd t346 (ji80)) : Int).toNat ((wrap64 ((rd t346 (ji80)) + 1)) : Int).toNat), (⟨#[]⟩ : ByteArray)⟩ : S61), (⟨t353, t354, t355⟩ : S61)] : List (S61))) := ⟨_, rfl⟩
            replace H : (some (y356, true)) = some (r1, r2) := by first | (rw [hy356]; with_reducible exact H) | (have H2_ := (Option.bind_some _ _).symm.trans H; rw [hy356]; with_reducible exact H2_) | (have H2_ := (Option.bind_some _ _).symm.trans H; with_reducible exact H2_) | with_reducible exact H | (rw [hy356]; exact H) | exact H
            have Ny356 := aM hy356
            clear hy356
            simp only [Option.some.injEq, Prod.mk.injEq] at H
            obtain ⟨rfl, rfl⟩ := H
            go_enter Try.func56, Try.ntmps56
            try go_wp2_with (first | ((with_reducible refine gate_dst (N := 2) rfl ?_); refine box_event ?hg (N := 2) ?hd (cs := #[.int .i64 a0_0, .int .i64 a0_1, .int .i64 a0_2, .string a0_3]) (t := 29) ?hr ?_; (case hd => rfl); (case hg => rfl); (case hr => first | (go_simp; done) | (go_simp; rfl)); intro gb311 hg w89 hbox hb; have n0_ := aM (below_step z11 hb); have n1_ := aM (hbox); have n2_ := aM ((by rw [hg]; exact (below_size z11) : w.heap.size ≤ gb311)); have n3_ := aM ((by rw [hg]; exact (below_size z11) : w.heap.size ≤ gb311)); clear HB; have HB := n0_; have BK311 := n1_; have GW311 := n2_; have GE311 := n3_; clear n0_ n1_ n2_ n3_; clear hb hbox hg))
            have n0_ := aM (blk_drew BK311.out)
            have n1_ := aM (bD HB.out)
            clear BK311
            clear HB
            have BK311 := n0_
            have HB := n1_
            clear n0_ n1_
            refine start_ (n := 6) (S := fun w' => w'.cell? ⟨gb311, 0, none⟩ = some (.int .i64 a0_0) ∧ w'.cell? ⟨gb311, 1, none⟩ = some (.int .i64 a0_1) ∧ w'.cell? ⟨gb311, 2, none⟩ = some (.int .i64 a0_2) ∧ w'.cell? ⟨gb311, 3, none⟩ = some (.string a0_3)) (ds := []) #[false, false, false, false, false, false] z0 rfl rfl ⟨(bC BK311.out 0).trans rfl, (bC BK311.out 1).trans rfl, (bC BK311.out 2).trans rfl, (bC BK311.out 3).trans rfl⟩ (fun hHeld => ?_)
            generalize w89.drew = w90 at BK311 HB hHeld ⊢
            refine pA 0 15 ?_
            refine pA 2 17 ?_
            refine tA 1 16 ?_ (hy := by rintro w' ⟨s0, s1, s2, s3⟩; go_simp; with_reducible rfl)
            refine pA 4 7 ?_
            refine tA 3 18 ?_ (hy := by rintro w' ⟨s0, s1, s2, s3⟩; go_simp; with_reducible rfl)
            refine pA 5 8 ?_
            refine done_ z0 ?_
            have hcz91_0 : w90.cell? ⟨gb311, 0, none⟩ = some (.int .i64 a0_0) := (bC BK311.out 0).trans rfl
            have hcz91_1 : w90.cell? ⟨gb311, 1, none⟩ = some (.int .i64 a0_1) := (bC BK311.out 1).trans rfl
            have hcz91_2 : w90.cell? ⟨gb311, 2, none⟩ = some (.int .i64 a0_2) := (bC BK311.out 2).trans rfl
            have hcz91_3 : w90.cell? ⟨gb311, 3, none⟩ = some (.string a0_3) := (bC BK311.out 3).trans rfl
            have hfz91_0 := bF BK311.out 0
            have hfz91_1 := bF BK311.out 1
            have hfz91_2 := bF BK311.out 2
            have hfz91_3 := bF BK311.out 3
            try go_wp2_with (first | ((with_reducible refine gate_callee (f := 79) rfl ?_); refine goesL_ (some 100) rfl rfl Try.func79 z0 rfl #[.string a1, .int .i64 a0_1] rfl z12 ?_; (with_reducible refine (impl_around.calls k a1 a0_1 t346 _ A73.out).mono ?_); rintro e w92 ⟨v347, rfl, ho0, hb⟩; refine ⟨_, rfl, ?_⟩; have n0_ := aM (Kd.R_lower ho0 (below_size z15)); have n1_ := aM (blk_below (g := gb311) (o := .cells #[.int .i64 a0_0, .int .i64 a0_1, .int .i64 a0_2, .string a0_3] 29 (0, 0)) z8 hb); have n2_ := aM (below_step z15 hb); clear BK311; clear HB; have HO348 := n0_; have BK311 := n1_; have HB := n2_; clear n0_ n1_ n2_; (try clear hb); (try clear hb2); (try clear hk); (try clear hi); (try clear ho0); obtain ⟨Ao93, co93, eo93⟩ := Kd.R_slice HO348.out; subst eo93; have p349 : 0 ≤ ((ji80) : Int) := oD z2; have q349 : (ji80) < (t346.length : Int) := oD z2; obtain ⟨ad349, e349, hx349_0⟩ := Kd.at_int (Kd.R_reads' HO348.out).2.2 (ji80) p349 q349; cases e349; replace p349 := eq_true p349; replace q349 := eq_true q349))
            have n0_ := aM (Kd.R_drew HO348.out)
            have n1_ := aM (blk_drew BK311.out)
            have n2_ := aM (bD HB.out)
            clear HO348
            clear BK311
            clear HB
            have HO348 := n0_
            have BK311 := n1_
            have HB := n2_
            clear n0_ n1_ n2_
            refine start_ (n := 15) (S := fun w' => True) (ds := []) #[false, false, false, false, false, false, false, false, false, false, false, false, false, false, false] z0 rfl rfl trivial (fun hHeld => ?_); refine with_tabW impl_Command_parts.tab19 impl_Command_parts.bits19 (fun HT_ HW_ => ?_)
            generalize w92.drew = w94 at HO348 BK311 HB hHeld ⊢
            refine pA 0 110 ?_
            refine pA 2 112 ?_
            refine pA 3 113 ?_
            refine pA 4 114 ?_
            refine pA 5 115 ?_
            refine pA 6 116 ?_
            refine pA 7 117 ?_
            refine pA 8 118 ?_
            refine pA 9 119 ?_
            refine pA 10 120 ?_
            refine one_ (i := 1) (N := some 111) #[true, true, true, true, true, true, true, true, true, true, true, false, false, false, false] rfl rfl (one_of HT_.out z0) (by decide) (fun K hK => ?_)
            refine goes_ Try.func77 z0 rfl #[.int .i64 0, .int .i64 a0_1] (by rfl) rfl rfl z12 ?_
            with_reducible refine (impl_keepTo.calls 0 a0_1 t350 t351 t352 _ A83.out).mono ?_
            rintro e w95 ⟨rfl, hb⟩
            refine ⟨_, rfl, ?_⟩
            have n0_ := aM (Kd.R_below (by (with_reducible repeat (first | apply Kd.R_alloc | apply Kd.R_drewN | apply Kd.R_drew)); exact HO348.out) hb)
            have n1_ := aM (blk_below (g := gb311) (o := .cells #[.int .i64 a0_0, .int .i64 a0_1, .int .i64 a0_2, .string a0_3] 29 (0, 0)) z8 hb)
            have n2_ := aM (below_step z15 hb)
            clear HO348
            clear BK311
            clear HB
            have HO348 := n0_
            have BK311 := n1_
            have HB := n2_
            clear n0_ n1_ n2_
            (try clear hb)
            (try clear hb2)
            (try clear hk)
            (try clear hi)
            refine hK.out _ _ trivial (fun hHeld => ?_)
            clear hK K
            refine norm_ (a' := ?_) ?_ ?_
            rotate_left
            ·show Act.put _ (some 111) _ = _
             simp only [Act.put, sA, sB, sC, i64_w, i32_w]
             rfl
            refine one_ (i := 11) (N := some 121) #[true, true, true, true, true, true, true, true, true, true, true, true, false, false, false] rfl rfl (one_of HT_.out z0) (by decide) (fun K hK => ?_)
            refine goes_ Try.func77 z0 rfl #[.int .i64 a0_1, .int .i64 (a1.size : Int)] (by rfl) rfl rfl z12 ?_
            with_reducible refine (impl_keepTo.calls a0_1 (a1.size : Int) t353 t354 t355 _ A88.out).mono ?_
            rintro e w96 ⟨rfl, hb⟩
            refine ⟨_, rfl, ?_⟩
            have n0_ := aM (Kd.R_below (by (with_reducible repeat (first | apply Kd.R_alloc | apply Kd.R_drewN | apply Kd.R_drew)); exact HO348.out) hb)
            have n1_ := aM (blk_below (g := gb311) (o := .cells #[.int .i64 a0_0, .int .i64 a0_1, .int .i64 a0_2, .string a0_3] 29 (0, 0)) z8 hb)
            have n2_ := aM (below_step z15 hb)
            clear HO348
            clear BK311
            clear HB
            have HO348 := n0_
            have BK311 := n1_
            have HB := n2_
            clear n0_ n1_ n2_
            (try clear hb)
            (try clear hb2)
            (try clear hk)
            (try clear hi)
            refine hK.out _ _ trivial (fun hHeld => ?_)
            clear hK K
            refine norm_ (a' := ?_) ?_ ?_
            rotate_left
            ·show Act.put _ (some 121) _ = _
             simp only [Act.put, sA, sB, sC, i64_w, i32_w]
             rfl
            refine one_ (i := 12) (N := some 122) #[true, true, true, true, true, true, true, true, true, true, true, true, true, false, false] rfl rfl (one_of HT_.out z0) (by decide) (fun K hK => ?_)
            refine Kd.R_lit_step k61 _ 61 ?hg (N := 122) ?hd (xs := ([(⟨t350, t351, t352⟩ : S61), (⟨0, (⟨#[47]⟩ : ByteArray) ++ (a1.extract ((rd t346 (ji80)) : Int).toNat ((wrap64 ((rd t346 (ji80)) + 1)) : Int).toNat), (⟨#[]⟩ : ByteArray)⟩ : S61), (⟨t353, t354, t355⟩ : S61)] : List (S61))) (inner := [.int .i64 t350, .string t351, .string t352, .int .i64 0, .string ((⟨#[47]⟩ : ByteArray) ++ (a1.extract ((rd t346 (ji80)) : Int).toNat ((wrap64 ((rd t346 (ji80)) + 1)) : Int).toNat)), .string (⟨#[]⟩ : ByteArray), .int .i64 t353, .string t354, .string t355]) (ok := fun _ => True) (okp := fun _ => True) ?hr ?hp (fun _ hk => hk) trivial (Below.refl _ _) (Nat.le_refl _) (by simp) ?_; (case hd => rfl); (case hg => rfl); (case hr => first | (go_simp; done) | (go_simp; rfl)); (case hp => exact (Reps.c3 (show Kd.M k61 _ _ _ (⟨t350, t351, t352⟩ : S61) [.int .i64 t350, .string t351, .string t352] from (k61_mkM _ _ _ (⟨t350, t351, t352⟩ : S61) )) (Reps.c3 (show Kd.M k61 _ _ _ (⟨0, (⟨#[47]⟩ : ByteArray) ++ (a1.extract ((rd t346 (ji80)) : Int).toNat ((wrap64 ((rd t346 (ji80)) + 1)) : Int).toNat), (⟨#[]⟩ : ByteArray)⟩ : S61) [.int .i64 0, .string ((⟨#[47]⟩ : ByteArray) ++ (a1.extract ((rd t346 (ji80)) : Int).toNat ((wrap64 ((rd t346 (ji80)) + 1)) : Int).toNat)), .string (⟨#[]⟩ : ByteArray)] from (k61_mkM _ _ _ (⟨0, (⟨#[47]⟩ : ByteArray) ++ (a1.extract ((rd t346 (ji80)) : Int).toNat ((wrap64 ((rd t346 (ji80)) + 1)) : Int).toNat), (⟨#[]⟩ : ByteArray)⟩ : S61) )) (Reps.c3 (show Kd.M k61 _ _ _ (⟨t353, t354, t355⟩ : S61) [.int .i64 t353, .string t354, .string t355] from (k61_mkM _ _ _ (⟨t353, t354, t355⟩ : S61) )) (Reps.none _ _)))))
            intro v357 w97 ho98 hb hg_ hnew_
            clear hg_ hnew_
            (first | rw [← Ny356.out] at ho98 | (simp only [Int.reduceToNat] at ho98; rw [← Ny356.out] at ho98))
            have n0_ := aM (Kd.R_below (by (with_reducible repeat (first | apply Kd.R_alloc | apply Kd.R_drewN | apply Kd.R_drew)); exact HO348.out) hb)
            have n1_ := aM (Kd.R_lower ho98 (below_size z15))
            have n2_ := aM (blk_below (g := gb311) (o := .cells #[.int .i64 a0_0, .int .i64 a0_1, .int .i64 a0_2, .string a0_3] 29 (0, 0)) z8 hb)
            have n3_ := aM (below_step z15 hb)
            clear HO348
            clear BK311
            clear HB
            have HO348 := n0_
            have HO358 := n1_
            have BK311 := n2_
            have HB := n3_
            clear n0_ n1_ n2_ n3_
            clear hb ho98
            refine hK.out _ _ trivial (fun hHeld => ?_)
            clear hK K
            refine norm_ (a' := ?_) ?_ ?_
            rotate_left
            ·show Act.put _ (some 122) _ = _
             simp only [Act.put, sA, sB, sC, i64_w, i32_w]
             rfl
            refine pA 13 4 ?_
            refine pA 14 5 ?_
            refine done_ (done_of HT_.out z0) ?_
            try go_wp2
            go_ret2
            exact ⟨_, by first | rfl | (simp [errW_none, errW_some] <;> rfl) | (simp only [← hji80]; first | rfl | (simp [errW_none, errW_some] <;> rfl)) | (simp [*, errW_none, errW_some] <;> rfl), by (with_reducible repeat (first | apply Kd.R_alloc | apply Kd.R_drewN | apply Kd.R_drew)); exact HO358.out, y12⟩
           ·rw [if_neg c87] at H
            exact absurd H (by simp)
          ·rw [if_neg c86] at H
           exact absurd H (by simp)
         ·rw [if_neg c85] at H
          exact absurd H (by simp)
        ·rw [if_neg c84] at H
         exact absurd H (by simp)
       ·rw [if_neg c82] at H
        exact absurd H (by simp)
      ·rw [if_neg c81] at H
       exact absurd H (by simp)
    ·rw [if_neg c72] at H
     have c72b0 : (a0_0 == 5) = false := qF c72
     have c72b1 : (a0_0 != 5) = true := nT c72
     by_cases c99 : a0_0 = 6
     ·rw [if_pos c99] at H
      have c99b0 : (a0_0 == 6) = true := qT c99
      have c99b1 : (a0_0 != 6) = false := nF c99
      clear c99
      have HC100 := aM H
      clear H
      go_enter Try.func56, Try.ntmps56
      try go_wp2_with (first | ((with_reducible refine gate_dst (N := 2) rfl ?_); refine box_event ?hg (N := 2) ?hd (cs := #[.int .i64 a0_0, .int .i64 a0_1, .int .i64 a0_2, .string a0_3]) (t := 29) ?hr ?_; (case hd => rfl); (case hg => rfl); (case hr => first | (go_simp; done) | (go_simp; rfl)); intro gb311 hg w101 hbox hb; have n0_ := aM (below_step z11 hb); have n1_ := aM (hbox); have n2_ := aM ((by rw [hg]; exact (below_size z11) : w.heap.size ≤ gb311)); have n3_ := aM ((by rw [hg]; exact (below_size z11) : w.heap.size ≤ gb311)); clear HB; have HB := n0_; have BK311 := n1_; have GW311 := n2_; have GE311 := n3_; clear n0_ n1_ n2_ n3_; clear hb hbox hg))
      have n0_ := aM (blk_drew BK311.out)
      have n1_ := aM (bD HB.out)
      clear BK311
      clear HB
      have BK311 := n0_
      have HB := n1_
      clear n0_ n1_
      refine start_ (n := 6) (S := fun w' => w'.cell? ⟨gb311, 0, none⟩ = some (.int .i64 a0_0) ∧ w'.cell? ⟨gb311, 1, none⟩ = some (.int .i64 a0_1) ∧ w'.cell? ⟨gb311, 2, none⟩ = some (.int .i64 a0_2) ∧ w'.cell? ⟨gb311, 3, none⟩ = some (.string a0_3)) (ds := []) #[false, false, false, false, false, false] z0 rfl rfl ⟨(bC BK311.out 0).trans rfl, (bC BK311.out 1).trans rfl, (bC BK311.out 2).trans rfl, (bC BK311.out 3).trans rfl⟩ (fun hHeld => ?_)
      generalize w101.drew = w102 at BK311 HB hHeld ⊢
      refine pA 0 15 ?_
      refine pA 2 17 ?_
      refine tA 1 16 ?_ (hy := by rintro w' ⟨s0, s1, s2, s3⟩; go_simp; with_reducible rfl)
      refine pA 4 7 ?_
      refine tA 3 18 ?_ (hy := by rintro w' ⟨s0, s1, s2, s3⟩; go_simp; with_reducible rfl)
      refine pA 5 8 ?_
      refine done_ z0 ?_
      have hcz103_0 : w102.cell? ⟨gb311, 0, none⟩ = some (.int .i64 a0_0) := (bC BK311.out 0).trans rfl
      have hcz103_1 : w102.cell? ⟨gb311, 1, none⟩ = some (.int .i64 a0_1) := (bC BK311.out 1).trans rfl
      have hcz103_2 : w102.cell? ⟨gb311, 2, none⟩ = some (.int .i64 a0_2) := (bC BK311.out 2).trans rfl
      have hcz103_3 : w102.cell? ⟨gb311, 3, none⟩ = some (.string a0_3) := (bC BK311.out 3).trans rfl
      have hfz103_0 := bF BK311.out 0
      have hfz103_1 := bF BK311.out 1
      have hfz103_2 := bF BK311.out 2
      have hfz103_3 := bF BK311.out 3
      go_upto_region 21 with (fail)
      go_cut [145] (fun v145 wc => ∃ (kq : Nat) (x145_99 : Bool), v145 = .bool x145_99 ∧ Aside0 (impl_Command_parts.j2 kq a1 (a1.size : Int) a0_1 x145_99 = some (r1, r2)) ∧ Aside0 (kq ≤ k) ∧ Aside0 (wc.heap[gb311]? = some (.cells #[.int .i64 a0_0, .int .i64 a0_1, .int .i64 a0_2, .string a0_3] 29 (0, 0))) ∧ Aside0 (Below w.heap.size w wc))
      case first =>
       have H := HC100.out
       clear HC100
       by_cases c104 : a0_1 = 0
       ·rw [if_pos c104] at H
        have c104b0 : (a0_1 == 0) = true := qT c104
        have c104b1 : (a0_1 != 0) = false := nF c104
        clear c104
        (first | rw [c104b0] | (simp only [i64_w, i32_w]; rw [c104b0]) | skip)
        have H' := aM H
        clear H
        go_wp2
        go_meet
        case rel => exact ⟨_, (true), z1, H', ⟨y0⟩, ⟨y6⟩, ⟨y12⟩⟩
       ·rw [if_neg c104] at H
        have c104b0 : (a0_1 == 0) = false := qF c104
        have c104b1 : (a0_1 != 0) = true := nT c104
        (first | rw [c104b0] | (simp only [i64_w, i32_w]; rw [c104b0]) | skip)
        by_cases c105 : a0_1 = (a1.size : Int)
        ·rw [if_pos c105] at H
         have c105b0 : (a0_1 == (a1.size : Int)) = true := qT c105
         have c105b1 : (a0_1 != (a1.size : Int)) = false := nF c105
         clear c105
         have H' := aM H
         clear H
         go_wp2
         go_meet
         case rel => exact ⟨_, (true), z1, H', ⟨y0⟩, ⟨y6⟩, ⟨y12⟩⟩
        ·rw [if_neg c105] at H
         have c105b0 : (a0_1 == (a1.size : Int)) = false := qF c105
         have c105b1 : (a0_1 != (a1.size : Int)) = true := nT c105
         obtain ⟨ji106, hji106⟩ : ∃ j_ : Int, (wrap64 (a0_1 - 1)) = j_ := ⟨_, rfl⟩
         replace H : (if 0 ≤ (ji106) then (if (ji106) < (a1.size : Int) then (if (bt a1 (ji106)) = 47 then (if 0 ≤ a0_1 then (if a0_1 < (a1.size : Int) then ((impl_isName.f (bt a1 a0_1)).bind fun t359 => (impl_Command_parts.j2 k a1 (a1.size : Int) a0_1 (!t359))) else (none)) else (none)) else (impl_Command_parts.j2 k a1 (a1.size : Int) a0_1 true)) else (none)) else (none)) = some (r1, r2) := by first | (rw [hji106] at H; exact H) | (simp only [hji106] at H ⊢; exact H)
         have hji106w : (IntKind.i64.wrap (a0_1 - 1)) = ji106 := (i64_w _).trans hji106
         by_cases c107 : 0 ≤ (ji106)
         ·rw [if_pos c107] at H
          have c107b0 : decide (0 ≤ (ji106)) = true := dT c107
          clear c107
          by_cases c108 : (ji106) < (a1.size : Int)
          ·rw [if_pos c108] at H
           have c108b0 : decide ((ji106) < (a1.size : Int)) = true := dT c108
           clear c108
           by_cases c110 : (bt a1 (ji106)) = 47
           ·rw [if_pos c110] at H
            have c110b0 : ((bt a1 (ji106)) == 47) = true := qT c110
            have c110b1 : ((bt a1 (ji106)) != 47) = false := nF c110
            clear c110
            by_cases c111 : 0 ≤ a0_1
            ·rw [if_pos c111] at H
             have c111b0 : decide (0 ≤ a0_1) = true := dT c111
             clear c111
             by_cases c112 : a0_1 < (a1.size : Int)
             ·rw [if_pos c112] at H
              have c112b0 : decide (a0_1 < (a1.size : Int)) = true := dT c112
              clear c112
              replace H := oB H
              obtain ⟨t359, A1140, H⟩ := H
              try dsimp only at H
              have A114 := aM A1140
              clear A1140
              have H' := aM H
              clear H
              have p109 : 0 ≤ ((ji106) : Int) := oD z2
              have q109 : (ji106) < (a1.size : Int) := oD z2
              have hx109 := bt_at a1 (ji106)
              replace p109 := eq_true p109
              replace q109 := eq_true q109
              have p113 : 0 ≤ (a0_1 : Int) := oD z2
              have q113 : a0_1 < (a1.size : Int) := oD z2
              have hx113 := bt_at a1 a0_1
              replace p113 := eq_true p113
              replace q113 := eq_true q113
              go_wp2_with (first | (go_at_call 50; (with_reducible refine (impl_isName.calls (bt a1 a0_1) t359 _ A114.out).mono ?_); rintro e w' ⟨rfl, ⟨nd, rfl⟩⟩))
              go_meet
              case rel => exact ⟨_, (!t359), z1, (by first | exact H' | (simp only [hji106]; exact H') | (simp only [← hji106]; exact H')), ⟨y0⟩, ⟨y6⟩, ⟨y12⟩⟩
             ·rw [if_neg c112] at H
              exact absurd H (by simp)
            ·rw [if_neg c111] at H
             exact absurd H (by simp)
           ·rw [if_neg c110] at H
            have c110b0 : ((bt a1 (ji106)) == 47) = false := qF c110
            have c110b1 : ((bt a1 (ji106)) != 47) = true := nT c110
            have H' := aM H
            clear H
            have p109 : 0 ≤ ((ji106) : Int) := oD z2
            have q109 : (ji106) < (a1.size : Int) := oD z2
            have hx109 := bt_at a1 (ji106)
            replace p109 := eq_true p109
            replace q109 := eq_true q109
            go_wp2
            go_meet
            case rel => exact ⟨_, (true), z1, (by first | exact H' | (simp only [hji106]; exact H') | (simp only [← hji106]; exact H')), ⟨y0⟩, ⟨y6⟩, ⟨y12⟩⟩
          ·rw [if_neg c108] at H
           exact absurd H (by simp)
         ·rw [if_neg c107] at H
          exact absurd H (by simp)
      case rest =>
       clear HC100
       try clear c1
       try clear p1
       try clear q1
       try clear hx1
       try clear p2
       try clear c3
       try clear p3
       try clear q3
       try clear hx3
       try clear c4
       try clear c5
       try clear p6
       try clear c7
       try clear c8
       try clear c9
       try clear c10
       try clear p10
       try clear q10
       try clear hx10
       try clear c11
       try clear p11
       try clear q11
       try clear hx11
       try clear p34
       try clear q34
       try clear hx34
       try clear c47
       try clear c47b0
       try clear c47b1
       try clear c56
       try clear p64
       try clear c72
       try clear c72b0
       try clear c72b1
       try clear c74
       try clear c74b0
       try clear c74b1
       try clear c74b2
       try clear c77
       try clear c79
       try clear c81
       try clear c81b0
       try clear c82
       try clear c82b0
       try clear c84
       try clear c84b0
       try clear c84b1
       try clear c85
       try clear c85b0
       try clear c85b1
       try clear c86
       try clear c86b0
       try clear c86b1
       try clear c87
       try clear c87b0
       try clear c87b1
       try clear c87b2
       try clear c99
       try clear c99b0
       try clear c99b1
       try clear c104
       try clear c104b0
       try clear c104b1
       try clear c105
       try clear c105b0
       try clear c105b1
       try clear c107
       try clear c107b0
       try clear c108
       try clear c108b0
       try clear p109
       try clear q109
       try clear hx109
       try clear c110
       try clear c110b0
       try clear c110b1
       try clear c111
       try clear c111b0
       try clear c112
       try clear c112b0
       try clear p113
       try clear q113
       try clear hx113
       try clear hcz103_0
       try clear hcz103_1
       try clear hcz103_2
       try clear hcz103_3
       try clear hcz77_0
       try clear hcz77_1
       try clear hcz77_2
       try clear hcz77_3
       try clear hcz91_0
       try clear hcz91_1
       try clear hcz91_2
       try clear hcz91_3
       try clear hfz103_0
       try clear hfz103_1
       try clear hfz103_2
       try clear hfz103_3
       try clear hfz77_0
       try clear hfz77_1
       try clear hfz77_2
       try clear hfz77_3
       try clear hfz91_0
       try clear hfz91_1
       try clear hfz91_2
       try clear hfz91_3
       try clear hx349_0
       try clear p109
       try clear p113
       try clear p349
       try clear q109
       try clear q113
       try clear q349
       obtain ⟨kq, x145_99, rfl, HA, HJ99, BK311, HB⟩ := hcut
       cases kq with
       | zero => exact absurd HA.out (by simp [impl_Command_parts.j2])
       | succ kj99 =>
        have H := HA.out
        clear HA
        simp only [impl_Command_parts.j2] at H
        by_cases c115 : x145_99 = true
        ·subst c115
         rw [if_pos rfl] at H
         simp only [Option.some.injEq, Prod.mk.injEq] at H
         obtain ⟨rfl, rfl⟩ := H
         go_wp2
         go_ret2
         exact ⟨_, y3, y21, y12⟩
        ·replace c115 := Bool.eq_false_iff.mpr c115
         subst c115
         rw [if_neg (show ¬ (false = true) by decide)] at H
         replace H := oB H
         obtain ⟨⟨t360, t361⟩, A1160, H⟩ := H
         try dsimp only at H
         have A116 := aM A1160
         clear A1160
         by_cases c117 : 0 ≤ t360
         ·rw [if_pos c117] at H
          have c117b0 : decide (0 ≤ t360) = true := dT c117
          clear c117
          by_cases c118 : t360 < (a1.size : Int)
          ·rw [if_pos c118] at H
           have c118b0 : decide (t360 < (a1.size : Int)) = true := dT c118
           clear c118
           by_cases c120 : 0 ≤ a0_1
           ·rw [if_pos c120] at H
            have c120b0 : decide (0 ≤ a0_1) = true := dT c120
            clear c120
            by_cases c121 : a0_1 < (a1.size : Int)
            ·rw [if_pos c121] at H
             have c121b0 : decide (a0_1 < (a1.size : Int)) = true := dT c121
             clear c121
             by_cases c123 : (bt a1 t360) = (bt a1 a0_1)
             ·rw [if_pos c123] at H
              have c123b0 : ((bt a1 t360) == (bt a1 a0_1)) = true := qT c123
              have c123b1 : ((bt a1 t360) != (bt a1 a0_1)) = false := nF c123
              clear c123
              replace H := oB H
              obtain ⟨⟨t362, t363, t364⟩, A1240, H⟩ := H
              try dsimp only at H
              have A124 := aM A1240
              clear A1240
              obtain ⟨ji125, hji125⟩ : ∃ j_ : Int, (wrap64 (a0_1 - 1)) = j_ := ⟨_, rfl⟩
              replace H : (if 0 ≤ (ji125) then (if (ji125) ≤ (wrap64 (a0_1 + 1)) then (if (wrap64 (a0_1 + 1)) ≤ (a1.size : Int) then ((impl_keepTo.f (wrap64 (a0_1 + 1)) (a1.size : Int)).bind fun bt365 => (some ((([(⟨t362, t363, t364⟩ : S61), (⟨0, (⟨#[]⟩ : ByteArray), a1.extract ((ji125) : Int).toNat ((wrap64 (a0_1 + 1)) : Int).toNat⟩ : S61), (⟨bt365.1, bt365.2.1, bt365.2.2⟩ : S61)] : List (S61))), true))) else (none)) else (none)) else (none)) = some (r1, r2) := by first | (rw [hji125] at H; exact H) | (simp only [hji125] at H ⊢; exact H)
              (try rw [hji125] at A116)
              (try rw [hji125] at A124)
              have hji125w : (IntKind.i64.wrap (a0_1 - 1)) = ji125 := (i64_w _).trans hji125
              by_cases c126 : 0 ≤ (ji125)
              ·rw [if_pos c126] at H
               have c126b0 := eq_true c126
               have c126b1 : decide (0 ≤ (ji125)) = true := dT c126
               clear c126
               by_cases c127 : (ji125) ≤ (wrap64 (a0_1 + 1))
               ·rw [if_pos c127] at H
                have c127b0 := eq_true c127
                have c127b1 : decide ((ji125) ≤ (wrap64 (a0_1 + 1))) = true := dT c127
                by_cases c128 : (wrap64 (a0_1 + 1)) ≤ (a1.size : Int)
                ·rw [if_pos c128] at H
                 have c128b0 := eq_true c128
                 have c128b1 : decide ((wrap64 (a0_1 + 1)) ≤ (a1.size : Int)) = true := dT c128
                 replace H := oB H
                 obtain ⟨⟨t365, t366, t367⟩, A1290, H⟩ := H
                 try dsimp only at H
                 have A129 := aM A1290
                 clear A1290
                 obtain ⟨y368, hy368⟩ : ∃ y_ : List (S61), y_ = (([(⟨t362, t363, t364⟩ : S61), (⟨0, (⟨#[]⟩ : ByteArray), a1.extract ((ji125) : Int).toNat ((wrap64 (a0_1 + 1)) : Int).toNat⟩ : S61), (⟨t365, t366, t367⟩ : S61)] : List (S61))) := ⟨_, rfl⟩
                 replace H : (some (y368, true)) = some (r1, r2) := by first | (rw [hy368]; with_reducible exact H) | (have H2_ := (Option.bind_some _ _).symm.trans H; rw [hy368]; with_reducible exact H2_) | (have H2_ := (Option.bind_some _ _).symm.trans H; with_reducible exact H2_) | with_reducible exact H | (rw [hy368]; exact H) | exact H
                 have Ny368 := aM hy368
                 clear hy368
                 simp only [Option.some.injEq, Prod.mk.injEq] at H
                 obtain ⟨rfl, rfl⟩ := H
                 try go_wp2_with (first | ((with_reducible refine gate_callee (f := 70) rfl ?_); refine goesL_ (some 150) rfl rfl Try.func70 z0 rfl #[.string a1, .int .i64 ji125] rfl (by (try simp only [List.map_toArray, List.map_cons, List.map_nil]); first | done | (simp only [hji125]; rfl) | rfl | (simp only [List.length_drop, List.length_take]; rfl)) ?_; (with_reducible refine (impl_MatchOf.calls kj99 a1 ji125 t360 t361 _ A116.out).mono ?_); rintro e w130 ⟨rfl, hb⟩; refine ⟨_, rfl, ?_⟩; have n0_ := aM (blk_below (g := gb311) (o := .cells #[.int .i64 a0_0, .int .i64 a0_1, .int .i64 a0_2, .string a0_3] 29 (0, 0)) z8 hb); have n1_ := aM (below_step z15 hb); clear BK311; clear HB; have BK311 := n0_; have HB := n1_; clear n0_ n1_; (try clear hb); (try clear hb2); (try clear hk); (try clear hi)))
                 have n0_ := aM (blk_drew BK311.out)
                 have n1_ := aM (bD HB.out)
                 clear BK311
                 clear HB
                 have BK311 := n0_
                 have HB := n1_
                 clear n0_ n1_
                 have p119 : 0 ≤ (t360 : Int) := oD z2
                 have q119 : t360 < (a1.size : Int) := oD z2
                 have hx119 := bt_at a1 t360
                 replace p119 := eq_true p119
                 replace q119 := eq_true q119
                 have p122 : 0 ≤ (a0_1 : Int) := oD z2
                 have q122 : a0_1 < (a1.size : Int) := oD z2
                 have hx122 := bt_at a1 a0_1
                 replace p122 := eq_true p122
                 replace q122 := eq_true q122
                 refine start_ (n := 7) (S := fun w' => True) (ds := []) #[false, false, false, false, false, false, false] z0 rfl rfl trivial (fun hHeld => ?_)
                 generalize w130.drew = w131 at BK311 HB hHeld ⊢
                 refine pA 0 153 ?_
                 refine pA 1 154 ?_
                 refine pA 3 156 ?_
                 refine pA 4 157 ?_
                 refine tA 2 155 ?_ (hy := by intro w' _; go_simp; with_reducible rfl)
                 refine tA 5 158 ?_ (hy := by intro w' _; go_simp; with_reducible rfl)
                 refine pA 6 159 ?_
                 refine done_ z0 ?_
                 try go_wp2
                 have n0_ := aM (blk_drew BK311.out)
                 have n1_ := aM (bD HB.out)
                 clear BK311
                 clear HB
                 have BK311 := n0_
                 have HB := n1_
                 clear n0_ n1_
                 refine start_ (n := 17) (S := fun w' => True) (ds := []) #[false, false, false, false, false, false, false, false, false, false, false, false, false, false, false, false, false] z0 rfl rfl trivial (fun hHeld => ?_); refine with_tabW impl_Command_parts.tab26 impl_Command_parts.bits26 (fun HT_ HW_ => ?_)
                 generalize w131.drew = w132 at BK311 HB hHeld ⊢
                 refine pA 0 160 ?_
                 refine pA 1 161 ?_
                 refine pA 3 163 ?_
                 refine pA 4 164 ?_
                 refine pA 5 165 ?_
                 refine pA 6 166 ?_
                 refine pA 7 167 ?_
                 refine pA 8 168 ?_
                 refine pA 9 169 ?_
                 refine pA 10 170 ?_
                 refine pA 11 171 ?_
                 refine pA 12 172 ?_
                 refine one_ (i := 2) (N := some 162) #[true, true, true, true, true, true, true, true, true, true, true, true, true, false, false, false, false] rfl rfl (one_of HT_.out z0) (by decide) (fun K hK => ?_)
                 refine goes_ Try.func77 z0 rfl #[.int .i64 0, .int .i64 ji125] (by rfl) rfl rfl (by (try simp only [List.map_toArray, List.map_cons, List.map_nil]); first | done | (simp only [hji125]; rfl) | rfl | (simp only [List.length_drop, List.length_take]; rfl)) ?_
                 with_reducible refine (impl_keepTo.calls 0 ji125 t362 t363 t364 _ A124.out).mono ?_
                 rintro e w133 ⟨rfl, hb⟩
                 refine ⟨_, rfl, ?_⟩
                 have n0_ := aM (blk_below (g := gb311) (o := .cells #[.int .i64 a0_0, .int .i64 a0_1, .int .i64 a0_2, .string a0_3] 29 (0, 0)) z8 hb)
                 have n1_ := aM (below_step z15 hb)
                 clear BK311
                 clear HB
                 have BK311 := n0_
                 have HB := n1_
                 clear n0_ n1_
                 (try clear hb)
                 (try clear hb2)
                 (try clear hk)
                 (try clear hi)
                 refine hK.out _ _ trivial (fun hHeld => ?_)
                 clear hK K
                 refine norm_ (a' := ?_) ?_ ?_
                 rotate_left
                 ·show Act.put _ (some 162) _ = _
                  simp only [Act.put, sA, sB, sC, i64_w, i32_w]
                  rfl
                 refine one_ (i := 13) (N := some 173) #[true, true, true, true, true, true, true, true, true, true, true, true, true, true, false, false, false] rfl rfl (one_of HT_.out z0) (by decide) (fun K hK => ?_)
                 refine goes_ Try.func77 z0 rfl #[.int .i64 (wrap64 (a0_1 + 1)), .int .i64 (a1.size : Int)] (by rfl) rfl rfl z12 ?_
                 with_reducible refine (impl_keepTo.calls (wrap64 (a0_1 + 1)) (a1.size : Int) t365 t366 t367 _ A129.out).mono ?_
                 rintro e w134 ⟨rfl, hb⟩
                 refine ⟨_, rfl, ?_⟩
                 have n0_ := aM (blk_below (g := gb311) (o := .cells #[.int .i64 a0_0, .int .i64 a0_1, .int .i64 a0_2, .string a0_3] 29 (0, 0)) z8 hb)
                 have n1_ := aM (below_step z15 hb)
                 clear BK311
                 clear HB
                 have BK311 := n0_
                 have HB := n1_
                 clear n0_ n1_
                 (try clear hb)
                 (try clear hb2)
                 (try clear hk)
                 (try clear hi)
                 refine hK.out _ _ trivial (fun hHeld => ?_)
                 clear hK K
                 refine norm_ (a' := ?_) ?_ ?_
                 rotate_left
                 ·show Act.put _ (some 173) _ = _
                  simp only [Act.put, sA, sB, sC, i64_w, i32_w]
                  rfl
                 refine one_ (i := 14) (N := some 174) #[true, true, true, true, true, true, true, true, true, true, true, true, true, true, true, false, false] rfl rfl (one_of HT_.out z0) (by decide) (fun K hK => ?_)
                 refine Kd.R_lit_step k61 _ 61 ?hg (N := 174) ?hd (xs := ([(⟨t362, t363, t364⟩ : S61), (⟨0, (⟨#[]⟩ : ByteArray), a1.extract ((ji125) : Int).toNat ((wrap64 (a0_1 + 1)) : Int).toNat⟩ : S61), (⟨t365, t366, t367⟩ : S61)] : List (S61))) (inner := [.int .i64 t362, .string t363, .string t364, .int .i64 0, .string (⟨#[]⟩ : ByteArray), .string (a1.extract ((ji125) : Int).toNat ((wrap64 (a0_1 + 1)) : Int).toNat), .int .i64 t365, .string t366, .string t367]) (ok := fun _ => True) (okp := fun _ => True) ?hr ?hp (fun _ hk => hk) trivial (Below.refl _ _) (Nat.le_refl _) (by simp) ?_; (case hd => rfl); (case hg => rfl); (case hr => first | (go_simp; done) | (go_simp; rfl)); (case hp => exact (Reps.c3 (show Kd.M k61 _ _ _ (⟨t362, t363, t364⟩ : S61) [.int .i64 t362, .string t363, .string t364] from (k61_mkM _ _ _ (⟨t362, t363, t364⟩ : S61) )) (Reps.c3 (show Kd.M k61 _ _ _ (⟨0, (⟨#[]⟩ : ByteArray), a1.extract ((ji125) : Int).toNat ((wrap64 (a0_1 + 1)) : Int).toNat⟩ : S61) [.int .i64 0, .string (⟨#[]⟩ : ByteArray), .string (a1.extract ((ji125) : Int).toNat ((wrap64 (a0_1 + 1)) : Int).toNat)] from (k61_mkM _ _ _ (⟨0, (⟨#[]⟩ : ByteArray), a1.extract ((ji125) : Int).toNat ((wrap64 (a0_1 + 1)) : Int).toNat⟩ : S61) )) (Reps.c3 (show Kd.M k61 _ _ _ (⟨t365, t366, t367⟩ : S61) [.int .i64 t365, .string t366, .string t367] from (k61_mkM _ _ _ (⟨t365, t366, t367⟩ : S61) )) (Reps.none _ _)))))
                 intro v369 w135 ho136 hb hg_ hnew_
                 clear hg_ hnew_
                 (first | rw [← Ny368.out] at ho136 | (simp only [Int.reduceToNat] at ho136; rw [← Ny368.out] at ho136))
                 have n0_ := aM (Kd.R_lower ho136 (below_size z15))
                 have n1_ := aM (blk_below (g := gb311) (o := .cells #[.int .i64 a0_0, .int .i64 a0_1, .int .i64 a0_2, .string a0_3] 29 (0, 0)) z8 hb)
                 have n2_ := aM (below_step z15 hb)
                 clear BK311
                 clear HB
                 have HO370 := n0_
                 have BK311 := n1_
                 have HB := n2_
                 clear n0_ n1_ n2_
                 clear hb ho136
                 refine hK.out _ _ trivial (fun hHeld => ?_)
                 clear hK K
                 refine norm_ (a' := ?_) ?_ ?_
                 rotate_left
                 ·show Act.put _ (some 174) _ = _
                  simp only [Act.put, sA, sB, sC, i64_w, i32_w]
                  rfl
                 refine pA 15 4 ?_
                 refine pA 16 5 ?_
                 refine done_ (done_of HT_.out z0) ?_
                 try go_wp2
                 go_ret2
                 exact ⟨_, by first | rfl | (simp [errW_none, errW_some] <;> rfl) | (simp only [← hji125]; first | rfl | (simp [errW_none, errW_some] <;> rfl)) | (simp [*, errW_none, errW_some] <;> rfl), by (with_reducible repeat (first | apply Kd.R_alloc | apply Kd.R_drewN | apply Kd.R_drew)); exact HO370.out, y12⟩
                ·rw [if_neg c128] at H
                 exact absurd H (by simp)
               ·rw [if_neg c127] at H
                exact absurd H (by simp)
              ·rw [if_neg c126] at H
               exact absurd H (by simp)
             ·rw [if_neg c123] at H
              have c123b0 : ((bt a1 t360) == (bt a1 a0_1)) = false := qF c123
              have c123b1 : ((bt a1 t360) != (bt a1 a0_1)) = true := nT c123
              simp only [Option.some.injEq, Prod.mk.injEq] at H
              obtain ⟨rfl, rfl⟩ := H
              try go_wp2_with (first | ((with_reducible refine gate_callee (f := 70) rfl ?_); refine goesL_ (some 150) rfl rfl Try.func70 z0 rfl #[.string a1, .int .i64 (wrap64 (a0_1 - 1))] rfl z12 ?_; (with_reducible refine (impl_MatchOf.calls kj99 a1 (wrap64 (a0_1 - 1)) t360 t361 _ A116.out).mono ?_); rintro e w137 ⟨rfl, hb⟩; refine ⟨_, rfl, ?_⟩; have n0_ := aM (blk_below (g := gb311) (o := .cells #[.int .i64 a0_0, .int .i64 a0_1, .int .i64 a0_2, .string a0_3] 29 (0, 0)) z8 hb); have n1_ := aM (below_step z15 hb); clear BK311; clear HB; have BK311 := n0_; have HB := n1_; clear n0_ n1_; (try clear hb); (try clear hb2); (try clear hk); (try clear hi)))
              have n0_ := aM (blk_drew BK311.out)
              have n1_ := aM (bD HB.out)
              clear BK311
              clear HB
              have BK311 := n0_
              have HB := n1_
              clear n0_ n1_
              have p119 : 0 ≤ (t360 : Int) := oD z2
              have q119 : t360 < (a1.size : Int) := oD z2
              have hx119 := bt_at a1 t360
              replace p119 := eq_true p119
              replace q119 := eq_true q119
              have p122 : 0 ≤ (a0_1 : Int) := oD z2
              have q122 : a0_1 < (a1.size : Int) := oD z2
              have hx122 := bt_at a1 a0_1
              replace p122 := eq_true p122
              replace q122 := eq_true q122
              refine start_ (n := 7) (S := fun w' => True) (ds := []) #[false, false, false, false, false, false, false] z0 rfl rfl trivial (fun hHeld => ?_)
              generalize w137.drew = w138 at BK311 HB hHeld ⊢
              refine pA 0 153 ?_
              refine pA 1 154 ?_
              refine pA 3 156 ?_
              refine pA 4 157 ?_
              refine tA 2 155 ?_ (hy := by intro w' _; go_simp; with_reducible rfl)
              refine tA 5 158 ?_ (hy := by intro w' _; go_simp; with_reducible rfl)
              refine pA 6 159 ?_
              refine done_ z0 ?_
              try go_wp2
              go_ret2
              exact ⟨_, y3, y21, y12⟩
            ·rw [if_neg c121] at H
             exact absurd H (by simp)
           ·rw [if_neg c120] at H
            exact absurd H (by simp)
          ·rw [if_neg c118] at H
           exact absurd H (by simp)
         ·rw [if_neg c117] at H
          exact absurd H (by simp)
     ·rw [if_neg c99] at H
      have c99b0 : (a0_0 == 6) = false := qF c99
      have c99b1 : (a0_0 != 6) = true := nT c99
      replace H := oB H
      obtain ⟨⟨t371, t374⟩, A1390, H⟩ := H
      try dsimp only at H
      have A139 := aM A1390
      clear A1390
      simp only [Option.some.injEq, Prod.mk.injEq] at H
      obtain ⟨rfl, rfl⟩ := H
      go_enter Try.func56, Try.ntmps56
      try go_wp2_with (first | ((with_reducible refine gate_dst (N := 2) rfl ?_); refine box_event ?hg (N := 2) ?hd (cs := #[.int .i64 a0_0, .int .i64 a0_1, .int .i64 a0_2, .string a0_3]) (t := 29) ?hr ?_; (case hd => rfl); (case hg => rfl); (case hr => first | (go_simp; done) | (go_simp; rfl)); intro gb311 hg w140 hbox hb; have n0_ := aM (below_step z11 hb); have n1_ := aM (hbox); have n2_ := aM ((by rw [hg]; exact (below_size z11) : w.heap.size ≤ gb311)); have n3_ := aM ((by rw [hg]; exact (below_size z11) : w.heap.size ≤ gb311)); clear HB; have HB := n0_; have BK311 := n1_; have GW311 := n2_; have GE311 := n3_; clear n0_ n1_ n2_ n3_; clear hb hbox hg))
      have n0_ := aM (blk_drew BK311.out)
      have n1_ := aM (bD HB.out)
      clear BK311
      clear HB
      have BK311 := n0_
      have HB := n1_
      clear n0_ n1_
      refine start_ (n := 6) (S := fun w' => w'.cell? ⟨gb311, 0, none⟩ = some (.int .i64 a0_0) ∧ w'.cell? ⟨gb311, 1, none⟩ = some (.int .i64 a0_1) ∧ w'.cell? ⟨gb311, 2, none⟩ = some (.int .i64 a0_2) ∧ w'.cell? ⟨gb311, 3, none⟩ = some (.string a0_3)) (ds := []) #[false, false, false, false, false, false] z0 rfl rfl ⟨(bC BK311.out 0).trans rfl, (bC BK311.out 1).trans rfl, (bC BK311.out 2).trans rfl, (bC BK311.out 3).trans rfl⟩ (fun hHeld => ?_)
      generalize w140.drew = w141 at BK311 HB hHeld ⊢
      refine pA 0 15 ?_
      refine pA 2 17 ?_
      refine tA 1 16 ?_ (hy := by rintro w' ⟨s0, s1, s2, s3⟩; go_simp; with_reducible rfl)
      refine pA 4 7 ?_
      refine tA 3 18 ?_ (hy := by rintro w' ⟨s0, s1, s2, s3⟩; go_simp; with_reducible rfl)
      refine pA 5 8 ?_
      refine done_ z0 ?_
      have hcz142_0 : w141.cell? ⟨gb311, 0, none⟩ = some (.int .i64 a0_0) := (bC BK311.out 0).trans rfl
      have hcz142_1 : w141.cell? ⟨gb311, 1, none⟩ = some (.int .i64 a0_1) := (bC BK311.out 1).trans rfl
      have hcz142_2 : w141.cell? ⟨gb311, 2, none⟩ = some (.int .i64 a0_2) := (bC BK311.out 2).trans rfl
      have hcz142_3 : w141.cell? ⟨gb311, 3, none⟩ = some (.string a0_3) := (bC BK311.out 3).trans rfl
      have hfz142_0 := bF BK311.out 0
      have hfz142_1 := bF BK311.out 1
      have hfz142_2 := bF BK311.out 2
      have hfz142_3 := bF BK311.out 3
      try go_wp2_with (first | ((with_reducible refine gate_callee (f := 80) rfl ?_); refine goesL_ (some 177) rfl rfl Try.func80 z0 rfl #[.agg #[.int .i64 a0_0, .int .i64 a0_1, .int .i64 a0_2, .string a0_3], .string a1] rfl z12 ?_; (with_reducible refine (impl_Command_onElement.calls k a0_0 a0_1 a0_2 a0_3 a1 t371 t374 _ A139.out).mono ?_); rintro e w143 ⟨v372, rfl, ho0, hb⟩; refine ⟨_, rfl, ?_⟩; have n0_ := aM (Kd.R_lower ho0 (below_size z15)); have n1_ := aM (blk_below (g := gb311) (o := .cells #[.int .i64 a0_0, .int .i64 a0_1, .int .i64 a0_2, .string a0_3] 29 (0, 0)) z8 hb); have n2_ := aM (below_step z15 hb); clear BK311; clear HB; have HO373 := n0_; have BK311 := n1_; have HB := n2_; clear n0_ n1_ n2_; (try clear hb); (try clear hb2); (try clear hk); (try clear hi); (try clear ho0)))
      go_ret2
      exact ⟨_, y3, by (with_reducible repeat (first | apply Kd.R_alloc | apply Kd.R_drewN | apply Kd.R_drew)); exact HO373.out, y12⟩

end Go.Proofs.Ytmigfgcpdelnfaa.AFnExactCompileCommand
