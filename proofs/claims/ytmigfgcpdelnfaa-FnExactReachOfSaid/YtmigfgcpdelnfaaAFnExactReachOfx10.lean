-- this session's own text: written by wip/tools/ownprint.py over the kit's print
import Derived.Test.YtmigfgcpdelnfaaAFnExactReachOfx0
import Derived.Test.YtmigfgcpdelnfaaAFnExactReachOfx7
import Derived.Test.YtmigfgcpdelnfaaAFnExactReachOfx8
import Derived.Test.YtmigfgcpdelnfaaAFnExactReachOfx9
namespace Go.Proofs.Ytmigfgcpdelnfaa.AFnExactReachOf
open Go.RowKit Go.Proofs.YtmigfgcpdelnfaaW.PrintWords Go.Proofs.YtmigfgcpdelnfaaW.PrintLast Go.Proofs.YtmigfgcpdelnfaaW.PrintMore
attribute [local go_sem] max2_int min2_int max_two min_two max_three min_three max_four min_four   -- for this text's walks alone
set_option linter.unusedVariables false
set_option linter.unusedSimpArgs false

/-! ### impl_Command_parts: function 56 -/
mutual
def impl_Command_parts.j0 : Nat → ByteArray → Int → Int → Int → Bool → Option ((List (S61)) × Bool)
 | 0, _, _, _, _, _ => none
 | k + 1, x1, x6, x7, x8, x52 => if x52 = true then (some (([] : List (S61)), false)) else ((impl_keepTo.f 0 x7).bind fun bt316 => (if 0 ≤ x7 then (if x7 ≤ x8 then (if x8 ≤ (x1.size : Int) then ((impl_keepTo.f x8 x6).bind fun bt319 => (some ((([(⟨bt316.1, bt316.2.1, bt316.2.2⟩ : S61), (⟨0, (⟨#[]⟩ : ByteArray), x1.extract (x7 : Int).toNat (x8 : Int).toNat⟩ : S61), (⟨bt319.1, bt319.2.1, bt319.2.2⟩ : S61)] : List (S61))), true))) else (none)) else (none)) else (none)))
def impl_Command_parts.j1 : Nat → Int → Int → Int → Bool → Int → Int → Int → ByteArray → Option ((List (S61)) × Bool)
 | 0, _, _, _, _, _, _, _, _ => none
 | k + 1, x6, x7, x8, x82, x305000, x305001, x305002, x305003 => if x82 = true then (some (([] : List (S61)), false)) else ((impl_keepTo.f 0 x7).bind fun bt327 => ((impl_keepTo.f x7 x8).bind fun bt330 => ((impl_keepTo.f x8 x6).bind fun bt333 => (some ((([(⟨bt327.1, bt327.2.1, bt327.2.2⟩ : S61), (⟨0, x305003, (⟨#[]⟩ : ByteArray)⟩ : S61), (⟨bt330.1, bt330.2.1, bt330.2.2⟩ : S61), (⟨0, (⟨#[47]⟩ : ByteArray), (⟨#[]⟩ : ByteArray)⟩ : S61), (⟨bt333.1, bt333.2.1, bt333.2.2⟩ : S61)] : List (S61))), true)))))
def impl_Command_parts.j2 : Nat → ByteArray → Int → Int → Bool → Option ((List (S61)) × Bool)
 | 0, _, _, _, _ => none
 | k + 1, x1, x6, x7, x145 => if x145 = true then (some (([] : List (S61)), false)) else ((impl_MatchOf.f k x1 (wrap64 (x7 - 1))).bind fun bt353 => (if 0 ≤ bt353.1 then (if bt353.1 < (x1.size : Int) then (if 0 ≤ x7 then (if x7 < (x1.size : Int) then (if (bt x1 bt353.1) = (bt x1 x7) then ((impl_keepTo.f 0 (wrap64 (x7 - 1))).bind fun bt355 => (if 0 ≤ (wrap64 (x7 - 1)) then (if (wrap64 (x7 - 1)) ≤ (wrap64 (x7 + 1)) then (if (wrap64 (x7 + 1)) ≤ (x1.size : Int) then ((impl_keepTo.f (wrap64 (x7 + 1)) x6).bind fun bt358 => (some ((([(⟨bt355.1, bt355.2.1, bt355.2.2⟩ : S61), (⟨0, (⟨#[]⟩ : ByteArray), x1.extract ((wrap64 (x7 - 1)) : Int).toNat ((wrap64 (x7 + 1)) : Int).toNat⟩ : S61), (⟨bt358.1, bt358.2.1, bt358.2.2⟩ : S61)] : List (S61))), true))) else (none)) else (none)) else (none))) else (some (([] : List (S61)), false))) else (none)) else (none)) else (none)) else (none)))
end
def impl_Command_parts.f (k : Nat) (a0_0 : Int) (a0_1 : Int) (a0_2 : Int) (a0_3 : ByteArray) (a1 : ByteArray) : Option ((List (S61)) × Bool) := if a0_0 = 1 then ((impl_keepTo.f 0 a0_1).bind fun bt305 => ((impl_keepTo.f a0_1 (a1.size : Int)).bind fun bt308 => ((some (([(⟨bt305.1, bt305.2.1, bt305.2.2⟩ : S61), (⟨0, a0_3, (⟨#[]⟩ : ByteArray)⟩ : S61), (⟨bt308.1, bt308.2.1, bt308.2.2⟩ : S61)] : List (S61)) : List (S61))).bind fun y311 => (if a0_3.toList = ([] : List UInt8) then (some (y311, false)) else ((impl_GoodText.f k a0_3).bind fun t314 => (some (y311, t314))))))) else (if a0_0 = 2 then (if a0_1 ≥ a0_2 then (impl_Command_parts.j0 k a1 (a1.size : Int) a0_1 a0_2 true) else (if 0 ≤ a0_1 then (if a0_1 ≤ a0_2 then (if a0_2 ≤ (a1.size : Int) then ((impl_GoodDoc.f k (a1.extract (a0_1 : Int).toNat (a0_2 : Int).toNat)).bind fun t315 => (impl_Command_parts.j0 k a1 (a1.size : Int) a0_1 a0_2 (!t315))) else (none)) else (none)) else (none))) else (if a0_0 = 3 then (if a0_1 > a0_2 then (impl_Command_parts.j1 k (a1.size : Int) a0_1 a0_2 true a0_0 a0_1 a0_2 a0_3) else (if 0 ≤ a0_1 then (if a0_1 ≤ a0_2 then (if a0_2 ≤ (a1.size : Int) then ((impl_GoodDoc.f k (a1.extract (a0_1 : Int).toNat (a0_2 : Int).toNat)).bind fun t325 => (if t325 = true then ((impl_isNameText.f a0_3).bind fun t326 => (impl_Command_parts.j1 k (a1.size : Int) a0_1 a0_2 (!t326) a0_0 a0_1 a0_2 a0_3)) else (impl_Command_parts.j1 k (a1.size : Int) a0_1 a0_2 true a0_0 a0_1 a0_2 a0_3))) else (none)) else (none)) else (none))) else (if a0_0 = 5 then ((impl_around.f k a1 a0_1).bind fun t339 => (if (t339.length : Int) = 0 then (some (([] : List (S61)), false)) else (if 0 ≤ (wrap64 ((t339.length : Int) - 1)) then (if (wrap64 ((t339.length : Int) - 1)) < (t339.length : Int) then ((impl_keepTo.f 0 a0_1).bind fun bt343 => (if 0 ≤ (rd t339 (wrap64 ((t339.length : Int) - 1))) then (if (rd t339 (wrap64 ((t339.length : Int) - 1))) ≤ (wrap64 ((rd t339 (wrap64 ((t339.length : Int) - 1))) + 1)) then (if (wrap64 ((rd t339 (wrap64 ((t339.length : Int) - 1))) + 1)) ≤ (a1.size : Int) then (if 1 + (a1.extract ((rd t339 (wrap64 ((t339.length : Int) - 1))) : Int).toNat ((wrap64 ((rd t339 (wrap64 ((t339.length : Int) - 1))) + 1)) : Int).toNat).size ≤ 9223372036854775807 then ((impl_keepTo.f a0_1 (a1.size : Int)).bind fun bt346 => (some ((([(⟨bt343.1, bt343.2.1, bt343.2.2⟩ : S61), (⟨0, (⟨#[47]⟩ : ByteArray) ++ (a1.extract ((rd t339 (wrap64 ((t339.length : Int) - 1))) : Int).toNat ((wrap64 ((rd t339 (wrap64 ((t339.length : Int) - 1))) + 1)) : Int).toNat), (⟨#[]⟩ : ByteArray)⟩ : S61), (⟨bt346.1, bt346.2.1, bt346.2.2⟩ : S61)] : List (S61))), true))) else (none)) else (none)) else (none)) else (none))) else (none)) else (none)))) else (if a0_0 = 6 then (if a0_1 = 0 then (impl_Command_parts.j2 k a1 (a1.size : Int) a0_1 true) else (if a0_1 = (a1.size : Int) then (impl_Command_parts.j2 k a1 (a1.size : Int) a0_1 true) else (if 0 ≤ (wrap64 (a0_1 - 1)) then (if (wrap64 (a0_1 - 1)) < (a1.size : Int) then (if (bt a1 (wrap64 (a0_1 - 1))) = 47 then (if 0 ≤ a0_1 then (if a0_1 < (a1.size : Int) then ((impl_isName.f (bt a1 a0_1)).bind fun t352 => (impl_Command_parts.j2 k a1 (a1.size : Int) a0_1 (!t352))) else (none)) else (none)) else (impl_Command_parts.j2 k a1 (a1.size : Int) a0_1 true)) else (none)) else (none)))) else ((impl_Command_onElement.f k a0_0 a0_1 a0_2 a0_3 a1).bind fun bt364 => (some (bt364.1, bt364.2)))))))
theorem impl_Command_parts.mono_l : ∀ k, (∀ y0 y1 y2 y3 y4, LeO (impl_Command_parts.j0 k y0 y1 y2 y3 y4) (impl_Command_parts.j0 (k + 1) y0 y1 y2 y3 y4)) ∧ (∀ y0 y1 y2 y3 y4 y5 y6 y7, LeO (impl_Command_parts.j1 k y0 y1 y2 y3 y4 y5 y6 y7) (impl_Command_parts.j1 (k + 1) y0 y1 y2 y3 y4 y5 y6 y7)) ∧ (∀ y0 y1 y2 y3, LeO (impl_Command_parts.j2 k y0 y1 y2 y3) (impl_Command_parts.j2 (k + 1) y0 y1 y2 y3))
 | 0 => ⟨fun _ _ _ _ _ r h => by simp [impl_Command_parts.j0] at h, fun _ _ _ _ _ _ _ _ r h => by simp [impl_Command_parts.j1] at h, fun _ _ _ _ r h => by simp [impl_Command_parts.j2] at h⟩
 | k + 1 => by
  obtain ⟨ih0, ih1, ih2⟩ := impl_Command_parts.mono_l k
  refine ⟨?_, ?_, ?_⟩
  ·intro y0 y1 y2 y3 y4
   unfold impl_Command_parts.j0
   repeat' first
   | (with_reducible exact ih0 _ _ _ _ _)
   | (with_reducible exact ih1 _ _ _ _ _ _ _ _)
   | (with_reducible exact ih2 _ _ _ _)
   | (with_reducible exact impl_Command_onElement.mono _ _ _ _ _ _)
   | (with_reducible exact impl_GoodDoc.mono _ _)
   | (with_reducible exact impl_GoodText.mono _ _)
   | (with_reducible exact impl_MatchOf.mono _ _ _)
   | (with_reducible exact impl_around.mono _ _ _)
   | (with_reducible exact LeO.refl _)
   | (with_reducible exact LeO.none _)
   | (with_reducible refine LeO.ite ?_ ?_)
   | (with_reducible refine LeO.bind ?_ (fun _ => ?_))
   | exact ih0 _ _ _ _ _
   | exact ih1 _ _ _ _ _ _ _ _
   | exact ih2 _ _ _ _
   | exact impl_Command_onElement.mono _ _ _ _ _ _
   | exact impl_GoodDoc.mono _ _
   | exact impl_GoodText.mono _ _
   | exact impl_MatchOf.mono _ _ _
   | exact impl_around.mono _ _ _
   | exact LeO.none _
   | refine LeO.ite ?_ ?_
   | refine LeO.bind ?_ (fun _ => ?_)
  ·intro y0 y1 y2 y3 y4 y5 y6 y7
   unfold impl_Command_parts.j1
   repeat' first
   | (with_reducible exact ih0 _ _ _ _ _)
   | (with_reducible exact ih1 _ _ _ _ _ _ _ _)
   | (with_reducible exact ih2 _ _ _ _)
   | (with_reducible exact impl_Command_onElement.mono _ _ _ _ _ _)
   | (with_reducible exact impl_GoodDoc.mono _ _)
   | (with_reducible exact impl_GoodText.mono _ _)
   | (with_reducible exact impl_MatchOf.mono _ _ _)
   | (with_reducible exact impl_around.mono _ _ _)
   | (with_reducible exact LeO.refl _)
   | (with_reducible exact LeO.none _)
   | (with_reducible refine LeO.ite ?_ ?_)
   | (with_reducible refine LeO.bind ?_ (fun _ => ?_))
   | exact ih0 _ _ _ _ _
   | exact ih1 _ _ _ _ _ _ _ _
   | exact ih2 _ _ _ _
   | exact impl_Command_onElement.mono _ _ _ _ _ _
   | exact impl_GoodDoc.mono _ _
   | exact impl_GoodText.mono _ _
   | exact impl_MatchOf.mono _ _ _
   | exact impl_around.mono _ _ _
   | exact LeO.none _
   | refine LeO.ite ?_ ?_
   | refine LeO.bind ?_ (fun _ => ?_)
  ·intro y0 y1 y2 y3
   unfold impl_Command_parts.j2
   repeat' first
   | (with_reducible exact ih0 _ _ _ _ _)
   | (with_reducible exact ih1 _ _ _ _ _ _ _ _)
   | (with_reducible exact ih2 _ _ _ _)
   | (with_reducible exact impl_Command_onElement.mono _ _ _ _ _ _)
   | (with_reducible exact impl_GoodDoc.mono _ _)
   | (with_reducible exact impl_GoodText.mono _ _)
   | (with_reducible exact impl_MatchOf.mono _ _ _)
   | (with_reducible exact impl_around.mono _ _ _)
   | (with_reducible exact LeO.refl _)
   | (with_reducible exact LeO.none _)
   | (with_reducible refine LeO.ite ?_ ?_)
   | (with_reducible refine LeO.bind ?_ (fun _ => ?_))
   | exact ih0 _ _ _ _ _
   | exact ih1 _ _ _ _ _ _ _ _
   | exact ih2 _ _ _ _
   | exact impl_Command_onElement.mono _ _ _ _ _ _
   | exact impl_GoodDoc.mono _ _
   | exact impl_GoodText.mono _ _
   | exact impl_MatchOf.mono _ _ _
   | exact impl_around.mono _ _ _
   | exact LeO.none _
   | refine LeO.ite ?_ ?_
   | refine LeO.bind ?_ (fun _ => ?_)
theorem impl_Command_parts.mono : ∀ a0 a1 a2 a3 a4 k, LeO (impl_Command_parts.f k a0 a1 a2 a3 a4) (impl_Command_parts.f (k + 1) a0 a1 a2 a3 a4) := by
 intro a0 a1 a2 a3 a4 k
 obtain ⟨ih0, ih1, ih2⟩ := impl_Command_parts.mono_l k
 unfold impl_Command_parts.f
 repeat' first
   | (with_reducible exact ih0 _ _ _ _ _)
   | (with_reducible exact ih1 _ _ _ _ _ _ _ _)
   | (with_reducible exact ih2 _ _ _ _)
   | (with_reducible exact impl_Command_onElement.mono _ _ _ _ _ _)
   | (with_reducible exact impl_GoodDoc.mono _ _)
   | (with_reducible exact impl_GoodText.mono _ _)
   | (with_reducible exact impl_MatchOf.mono _ _ _)
   | (with_reducible exact impl_around.mono _ _ _)
   | (with_reducible exact LeO.refl _)
   | (with_reducible exact LeO.none _)
   | (with_reducible refine LeO.ite ?_ ?_)
   | (with_reducible refine LeO.bind ?_ (fun _ => ?_))
   | exact ih0 _ _ _ _ _
   | exact ih1 _ _ _ _ _ _ _ _
   | exact ih2 _ _ _ _
   | exact impl_Command_onElement.mono _ _ _ _ _ _
   | exact impl_GoodDoc.mono _ _
   | exact impl_GoodText.mono _ _
   | exact impl_MatchOf.mono _ _ _
   | exact impl_around.mono _ _ _
   | exact LeO.none _
   | refine LeO.ite ?_ ?_
   | refine LeO.bind ?_ (fun _ => ?_)
def impl_Command_parts.T5 : Bool × List (List Nat × List Nat) := (true, [([], []), ([0], [0]), ([], []), ([2], [2]), ([3], [3]), ([], []), ([], []), ([5, 6, 1], [5, 6]), ([1, 4, 7], [1, 4, 7]), ([], []), ([9], [9]), ([10], [10]), ([11, 7], [11]), ([12], [12]), ([13, 12], [12, 13]), ([14, 12, 12], [12, 14]), ([12, 15], [12, 15]), ([8, 15, 0, 1, 2, 3, 4, 5, 6, 7, 8], [8]), ([16, 17, 0, 1, 2, 3, 4, 5, 6, 7, 8, 9, 10, 11, 12, 13, 14, 15, 16, 17], [16])])
def impl_Command_parts.B5 : List Nat := [0, 1, 0, 4, 12, 0, 0, 99, 255, 0, 512, 1536, 3811, 7907, 16099, 32483, 65251, 65535, 262143]
theorem impl_Command_parts.tab5 : rtab .any (opsOf Try.f56 5) = impl_Command_parts.T5 := by kernel_rfl
theorem impl_Command_parts.bits5 : waitsOk impl_Command_parts.T5.2 impl_Command_parts.B5 = true := by kernel_rfl
def impl_Command_parts.T9 : Bool × List (List Nat × List Nat) := (true, [([], []), ([0], [0]), ([], []), ([], []), ([], []), ([2, 3, 4], [2, 3, 4]), ([5], [5]), ([], []), ([], []), ([7, 8, 1], [7, 8]), ([1, 6, 9], [1, 6, 9]), ([10, 9, 0, 1, 2, 3, 4, 5, 6, 7, 8, 9, 10], [10]), ([11, 0, 1, 2, 3, 4, 5, 6, 7, 8, 9, 10, 11], [])])
def impl_Command_parts.B9 : List Nat := [0, 1, 0, 0, 0, 28, 60, 0, 0, 387, 1023, 2047, 4095]
theorem impl_Command_parts.tab9 : rtab .any (opsOf Try.f56 9) = impl_Command_parts.T9 := by kernel_rfl
theorem impl_Command_parts.bits9 : waitsOk impl_Command_parts.T9.2 impl_Command_parts.B9 = true := by kernel_rfl
def impl_Command_parts.T13 : Bool × List (List Nat × List Nat) := (true, [([], []), ([0], [0]), ([], []), ([2], [2]), ([3], [3]), ([], []), ([], []), ([5, 6, 1], [5, 6]), ([], []), ([], []), ([], []), ([9, 10, 7], [9, 10]), ([1, 4, 7, 8, 11], [1, 4, 7, 8, 11]), ([12, 11, 0, 1, 2, 3, 4, 5, 6, 7, 8, 9, 10, 11, 12], [12]), ([13, 0, 1, 2, 3, 4, 5, 6, 7, 8, 9, 10, 11, 12, 13], [])])
def impl_Command_parts.B13 : List Nat := [0, 1, 0, 4, 12, 0, 0, 99, 0, 0, 0, 1763, 4095, 8191, 16383]
theorem impl_Command_parts.tab13 : rtab .any (opsOf Try.f56 13) = impl_Command_parts.T13 := by kernel_rfl
theorem impl_Command_parts.bits13 : waitsOk impl_Command_parts.T13.2 impl_Command_parts.B13 = true := by kernel_rfl
def impl_Command_parts.T19 : Bool × List (List Nat × List Nat) := (true, [([], []), ([0], [0]), ([], []), ([], []), ([], []), ([4], [4]), ([2, 3, 5], [2, 3, 5]), ([6], [6]), ([7], [7]), ([], []), ([], []), ([9, 10, 1], [9, 10]), ([1, 8, 11], [1, 8, 11]), ([12, 11, 0, 1, 2, 3, 4, 5, 6, 7, 8, 9, 10, 11, 12], [12]), ([13, 0, 1, 2, 3, 4, 5, 6, 7, 8, 9, 10, 11, 12, 13], [])])
def impl_Command_parts.B19 : List Nat := [0, 1, 0, 0, 0, 16, 60, 124, 252, 0, 0, 1539, 4095, 8191, 16383]
theorem impl_Command_parts.tab19 : rtab .any (opsOf Try.f56 19) = impl_Command_parts.T19 := by kernel_rfl
theorem impl_Command_parts.bits19 : waitsOk impl_Command_parts.T19.2 impl_Command_parts.B19 = true := by kernel_rfl
def impl_Command_parts.T26 : Bool × List (List Nat × List Nat) := (true, [([], []), ([0], [0]), ([1], [1]), ([], []), ([], []), ([4], [4]), ([], []), ([6], [6]), ([3, 5, 7], [3, 5, 7]), ([8], [8]), ([], []), ([10], [10]), ([], []), ([11, 12, 2], [11, 12]), ([2, 9, 13], [2, 9, 13]), ([14, 13, 0, 1, 2, 3, 4, 5, 6, 7, 8, 9, 10, 11, 12, 13, 14], [14]), ([15, 0, 1, 2, 3, 4, 5, 6, 7, 8, 9, 10, 11, 12, 13, 14, 15], [])])
def impl_Command_parts.B26 : List Nat := [0, 1, 3, 0, 0, 16, 0, 64, 248, 504, 0, 1024, 0, 7175, 16383, 32767, 65535]
theorem impl_Command_parts.tab26 : rtab .any (opsOf Try.f56 26) = impl_Command_parts.T26 := by kernel_rfl
theorem impl_Command_parts.bits26 : waitsOk impl_Command_parts.T26.2 impl_Command_parts.B26 = true := by kernel_rfl
set_option maxHeartbeats 8000000 in
set_option maxRecDepth 100000 in
theorem impl_Command_parts.calls (k : Nat) (a0_0 : Int) (a0_1 : Int) (a0_2 : Int) (a0_3 : ByteArray) (a1 : ByteArray) (r1 : List (S61)) (r2 : Bool) (w : World) (h : impl_Command_parts.f k a0_0 a0_1 a0_2 a0_3 a1 = some (r1, r2)) :
  Calls Try.prog 56 #[.agg #[.int .i64 a0_0, .int .i64 a0_1, .int .i64 a0_2, .string a0_3], .string a1] w fun e w' => ∃ v0_ : Value, e = .returned (.tuple #[v0_, .bool r2]) ∧ Kd.R k61 61 w' w.heap.size (fun _ => True) v0_ r1 ∧ Below w.heap.size w w' := by
 have hu29 := Try.underlying29
 have hu61 := Try.underlying61
 have HB := Aside0.mk (Below.refl w.heap.size w)
 have H : (if a0_0 = 1 then ((impl_keepTo.f 0 a0_1).bind fun bt305 => ((impl_keepTo.f a0_1 (a1.size : Int)).bind fun bt308 => ((some (([(⟨bt305.1, bt305.2.1, bt305.2.2⟩ : S61), (⟨0, a0_3, (⟨#[]⟩ : ByteArray)⟩ : S61), (⟨bt308.1, bt308.2.1, bt308.2.2⟩ : S61)] : List (S61)) : List (S61))).bind fun y311 => (if a0_3.toList = ([] : List UInt8) then (some (y311, false)) else ((impl_GoodText.f k a0_3).bind fun t314 => (some (y311, t314))))))) else (if a0_0 = 2 then (if a0_1 ≥ a0_2 then (impl_Command_parts.j0 k a1 (a1.size : Int) a0_1 a0_2 true) else (if 0 ≤ a0_1 then (if a0_1 ≤ a0_2 then (if a0_2 ≤ (a1.size : Int) then ((impl_GoodDoc.f k (a1.extract (a0_1 : Int).toNat (a0_2 : Int).toNat)).bind fun t315 => (impl_Command_parts.j0 k a1 (a1.size : Int) a0_1 a0_2 (!t315))) else (none)) else (none)) else (none))) else (if a0_0 = 3 then (if a0_1 > a0_2 then (impl_Command_parts.j1 k (a1.size : Int) a0_1 a0_2 true a0_0 a0_1 a0_2 a0_3) else (if 0 ≤ a0_1 then (if a0_1 ≤ a0_2 then (if a0_2 ≤ (a1.size : Int) then ((impl_GoodDoc.f k (a1.extract (a0_1 : Int).toNat (a0_2 : Int).toNat)).bind fun t325 => (if t325 = true then ((impl_isNameText.f a0_3).bind fun t326 => (impl_Command_parts.j1 k (a1.size : Int) a0_1 a0_2 (!t326) a0_0 a0_1 a0_2 a0_3)) else (impl_Command_parts.j1 k (a1.size : Int) a0_1 a0_2 true a0_0 a0_1 a0_2 a0_3))) else (none)) else (none)) else (none))) else (if a0_0 = 5 then ((impl_around.f k a1 a0_1).bind fun t339 => (if (t339.length : Int) = 0 then (some (([] : List (S61)), false)) else (if 0 ≤ (wrap64 ((t339.length : Int) - 1)) then (if (wrap64 ((t339.length : Int) - 1)) < (t339.length : Int) then ((impl_keepTo.f 0 a0_1).bind fun bt343 => (if 0 ≤ (rd t339 (wrap64 ((t339.length : Int) - 1))) then (if (rd t339 (wrap64 ((t339.length : Int) - 1))) ≤ (wrap64 ((rd t339 (wrap64 ((t339.length : Int) - 1))) + 1)) then (if (wrap64 ((rd t339 (wrap64 ((t339.length : Int) - 1))) + 1)) ≤ (a1.size : Int) then (if 1 + (a1.extract ((rd t339 (wrap64 ((t339.length : Int) - 1))) : Int).toNat ((wrap64 ((rd t339 (wrap64 ((t339.length : Int) - 1))) + 1)) : Int).toNat).size ≤ 9223372036854775807 then ((impl_keepTo.f a0_1 (a1.size : Int)).bind fun bt346 => (some ((([(⟨bt343.1, bt343.2.1, bt343.2.2⟩ : S61), (⟨0, (⟨#[47]⟩ : ByteArray) ++ (a1.extract ((rd t339 (wrap64 ((t339.length : Int) - 1))) : Int).toNat ((wrap64 ((rd t339 (wrap64 ((t339.length : Int) - 1))) + 1)) : Int).toNat), (⟨#[]⟩ : ByteArray)⟩ : S61), (⟨bt346.1, bt346.2.1, bt346.2.2⟩ : S61)] : List (S61))), true))) else (none)) else (none)) else (none)) else (none))) else (none)) else (none)))) else (if a0_0 = 6 then (if a0_1 = 0 then (impl_Command_parts.j2 k a1 (a1.size : Int) a0_1 true) else (if a0_1 = (a1.size : Int) then (impl_Command_parts.j2 k a1 (a1.size : Int) a0_1 true) else (if 0 ≤ (wrap64 (a0_1 - 1)) then (if (wrap64 (a0_1 - 1)) < (a1.size : Int) then (if (bt a1 (wrap64 (a0_1 - 1))) = 47 then (if 0 ≤ a0_1 then (if a0_1 < (a1.size : Int) then ((impl_isName.f (bt a1 a0_1)).bind fun t352 => (impl_Command_parts.j2 k a1 (a1.size : Int) a0_1 (!t352))) else (none)) else (none)) else (impl_Command_parts.j2 k a1 (a1.size : Int) a0_1 true)) else (none)) else (none)))) else ((impl_Command_onElement.f k a0_0 a0_1 a0_2 a0_3 a1).bind fun bt364 => (some (bt364.1, bt364.2)))))))) = some (r1, r2) := h
 clear h
 by_cases c3 : a0_0 = 1
 ·rw [if_pos c3] at H
  have c3b0 : (a0_0 == 1) = true := beq_iff_eq.mpr c3
  have c3b1 : (a0_0 != 1) = false := bne_eq_false_iff_eq.mpr c3
  clear c3
  replace H := Option.bind_eq_some_iff.mp H
  obtain ⟨⟨t305, t306, t307⟩, A40, H⟩ := H
  try dsimp only at H
  have A4 := Aside0.mk A40
  clear A40
  replace H := Option.bind_eq_some_iff.mp H
  obtain ⟨⟨t308, t309, t310⟩, A50, H⟩ := H
  try dsimp only at H
  have A5 := Aside0.mk A50
  clear A50
  obtain ⟨y311, hy311⟩ : ∃ y_ : List (S61), y_ = (([(⟨t305, t306, t307⟩ : S61), (⟨0, a0_3, (⟨#[]⟩ : ByteArray)⟩ : S61), (⟨t308, t309, t310⟩ : S61)] : List (S61))) := ⟨_, rfl⟩
  replace H : (if a0_3.toList = ([] : List UInt8) then (some (y311, false)) else ((impl_GoodText.f k a0_3).bind fun t314 => (some (y311, t314)))) = some (r1, r2) := by first | (rw [hy311]; with_reducible exact H) | (have H2_ := (Option.bind_some _ _).symm.trans H; rw [hy311]; with_reducible exact H2_) | (have H2_ := (Option.bind_some _ _).symm.trans H; with_reducible exact H2_) | with_reducible exact H | (rw [hy311]; exact H) | exact H
  have Ny311 := Aside0.mk hy311
  clear hy311
  by_cases c6 : a0_3.toList = ([] : List UInt8)
  ·rw [if_pos c6] at H
   have c6b0 : (a0_3.toList == ([] : List UInt8)) = true := beq_iff_eq.mpr c6
   have c6b1 : (a0_3.toList != ([] : List UInt8)) = false := bne_eq_false_iff_eq.mpr c6
   clear c6
   simp only [Option.some.injEq, Prod.mk.injEq] at H
   obtain ⟨rfl, rfl⟩ := H
   go_enter Try.func56, Try.ntmps56
   try go_wp2_with (first | ((with_reducible refine gate_dst (N := 2) rfl ?_); refine box_event ?hg (N := 2) ?hd (cs := #[.int .i64 a0_0, .int .i64 a0_1, .int .i64 a0_2, .string a0_3]) (t := 29) ?hr ?_; (case hd => rfl); (case hg => rfl); (case hr => first | (go_simp; done) | (go_simp; rfl)); intro gb304 hg w7 hbox hb; have n0_ := Aside0.mk (below_step z11 hb); have n1_ := Aside0.mk (hbox); have n2_ := Aside0.mk ((by rw [hg]; exact (below_size z11) : w.heap.size ≤ gb304)); have n3_ := Aside0.mk ((by rw [hg]; exact (below_size z11) : w.heap.size ≤ gb304)); clear HB; have HB := n0_; have BK304 := n1_; have GW304 := n2_; have GE304 := n3_; clear n0_ n1_ n2_ n3_; clear hb hbox hg))
   have n0_ := Aside0.mk (blk_drew BK304.out)
   have n1_ := Aside0.mk (below_drew1 HB.out)
   clear BK304
   clear HB
   have BK304 := n0_
   have HB := n1_
   clear n0_ n1_
   refine start_ (n := 6) (S := fun w' => w'.cell? ⟨gb304, 0, none⟩ = some (.int .i64 a0_0) ∧ w'.cell? ⟨gb304, 1, none⟩ = some (.int .i64 a0_1) ∧ w'.cell? ⟨gb304, 2, none⟩ = some (.int .i64 a0_2) ∧ w'.cell? ⟨gb304, 3, none⟩ = some (.string a0_3)) (ds := []) #[false, false, false, false, false, false] z0 rfl rfl ⟨(blk_cell BK304.out 0).trans rfl, (blk_cell BK304.out 1).trans rfl, (blk_cell BK304.out 2).trans rfl, (blk_cell BK304.out 3).trans rfl⟩ (fun hHeld => ?_)
   generalize w7.drew = w8 at BK304 HB hHeld ⊢
   refine pA 0 15 ?_
   refine pA 2 17 ?_
   refine tA 1 16 ?_ (hy := by rintro w' ⟨s0, s1, s2, s3⟩; go_simp; with_reducible rfl)
   refine pA 4 7 ?_
   refine tA 3 18 ?_ (hy := by rintro w' ⟨s0, s1, s2, s3⟩; go_simp; with_reducible rfl)
   refine pA 5 8 ?_
   refine done_ z0 ?_
   have hcz9_0 : w8.cell? ⟨gb304, 0, none⟩ = some (.int .i64 a0_0) := (blk_cell BK304.out 0).trans rfl
   have hcz9_1 : w8.cell? ⟨gb304, 1, none⟩ = some (.int .i64 a0_1) := (blk_cell BK304.out 1).trans rfl
   have hcz9_2 : w8.cell? ⟨gb304, 2, none⟩ = some (.int .i64 a0_2) := (blk_cell BK304.out 2).trans rfl
   have hcz9_3 : w8.cell? ⟨gb304, 3, none⟩ = some (.string a0_3) := (blk_cell BK304.out 3).trans rfl
   have hfz9_0 := blk_frozen BK304.out 0
   have hfz9_1 := blk_frozen BK304.out 1
   have hfz9_2 := blk_frozen BK304.out 2
   have hfz9_3 := blk_frozen BK304.out 3
   try go_wp2
   have n0_ := Aside0.mk (blk_drew BK304.out)
   have n1_ := Aside0.mk (below_drew1 HB.out)
   clear BK304
   clear HB
   have BK304 := n0_
   have HB := n1_
   clear n0_ n1_
   refine start_ (n := 19) (S := fun w' => w'.cell? ⟨gb304, 0, none⟩ = some (.int .i64 a0_0) ∧ w'.cell? ⟨gb304, 1, none⟩ = some (.int .i64 a0_1) ∧ w'.cell? ⟨gb304, 2, none⟩ = some (.int .i64 a0_2) ∧ w'.cell? ⟨gb304, 3, none⟩ = some (.string a0_3)) (ds := []) #[false, false, false, false, false, false, false, false, false, false, false, false, false, false, false, false, false, false, false] z0 rfl rfl ⟨(blk_cell BK304.out 0).trans rfl, (blk_cell BK304.out 1).trans rfl, (blk_cell BK304.out 2).trans rfl, (blk_cell BK304.out 3).trans rfl⟩ (fun hHeld => ?_); refine with_tabW impl_Command_parts.tab5 impl_Command_parts.bits5 (fun HT_ HW_ => ?_)
   generalize w8.drew = w10 at BK304 HB hHeld ⊢
   refine pA 0 23 ?_
   refine pA 2 25 ?_
   refine pA 5 28 ?_
   refine pA 6 29 ?_
   refine pA 9 32 ?_
   refine tA 3 26 ?_ (hy := by rintro w' ⟨s0, s1, s2, s3⟩; go_simp; with_reducible rfl)
   refine pA 4 27 ?_
   refine tA 10 33 ?_ (hy := by rintro w' ⟨s0, s1, s2, s3⟩; go_simp; with_reducible rfl)
   refine pA 11 34 ?_
   refine one_ (i := 1) (N := some 24) #[true, true, true, true, true, true, true, false, false, true, true, true, false, false, false, false, false, false, false] rfl rfl (one_of HT_.out z0) (by decide) (fun K hK => ?_)
   refine goes_ Try.func77 z0 rfl #[.int .i64 0, .int .i64 a0_1] (by rfl) rfl rfl z12 ?_
   with_reducible refine (impl_keepTo.calls 0 a0_1 t305 t306 t307 _ A4.out).mono ?_
   rintro e w11 ⟨rfl, hb⟩
   refine ⟨_, rfl, ?_⟩
   have n0_ := Aside0.mk (blk_below (g := gb304) (o := .cells #[.int .i64 a0_0, .int .i64 a0_1, .int .i64 a0_2, .string a0_3] 29 (0, 0)) z8 hb)
   have n1_ := Aside0.mk (below_step z15 hb)
   clear BK304
   clear HB
   have BK304 := n0_
   have HB := n1_
   clear n0_ n1_
   (try clear hb)
   (try clear hb2)
   (try clear hk)
   (try clear hi)
   refine hK.out _ _ ⟨(blk_cell BK304.out 0).trans rfl, (blk_cell BK304.out 1).trans rfl, (blk_cell BK304.out 2).trans rfl, (blk_cell BK304.out 3).trans rfl⟩ (fun hHeld => ?_)
   clear hK K
   refine norm_ (a' := ?_) ?_ ?_
   rotate_left
   ·show Act.put _ (some 24) _ = _
    simp only [Act.put, List.setIfInBounds_toArray, List.set_cons_zero, List.set_cons_succ, i64_w, i32_w]
    rfl
   refine one_ (i := 7) (N := some 30) #[true, true, true, true, true, true, true, true, false, true, true, true, false, false, false, false, false, false, false] rfl rfl (one_of HT_.out z0) (by decide) (fun K hK => ?_)
   refine goes_ Try.func77 z0 rfl #[.int .i64 a0_1, .int .i64 (a1.size : Int)] (by rfl) rfl rfl z12 ?_
   with_reducible refine (impl_keepTo.calls a0_1 (a1.size : Int) t308 t309 t310 _ A5.out).mono ?_
   rintro e w12 ⟨rfl, hb⟩
   refine ⟨_, rfl, ?_⟩
   have n0_ := Aside0.mk (blk_below (g := gb304) (o := .cells #[.int .i64 a0_0, .int .i64 a0_1, .int .i64 a0_2, .string a0_3] 29 (0, 0)) z8 hb)
   have n1_ := Aside0.mk (below_step z15 hb)
   clear BK304
   clear HB
   have BK304 := n0_
   have HB := n1_
   clear n0_ n1_
   (try clear hb)
   (try clear hb2)
   (try clear hk)
   (try clear hi)
   refine hK.out _ _ ⟨(blk_cell BK304.out 0).trans rfl, (blk_cell BK304.out 1).trans rfl, (blk_cell BK304.out 2).trans rfl, (blk_cell BK304.out 3).trans rfl⟩ (fun hHeld => ?_)
   clear hK K
   refine norm_ (a' := ?_) ?_ ?_
   rotate_left
   ·show Act.put _ (some 30) _ = _
    simp only [Act.put, List.setIfInBounds_toArray, List.set_cons_zero, List.set_cons_succ, i64_w, i32_w]
    rfl
   refine pA 12 35 ?_
   refine pB 13 36 ?_
   refine pB 14 37 ?_
   refine pB 15 38 ?_
   refine pA 16 39 ?_
   refine one_ (i := 8) (N := some 31) #[true, true, true, true, true, true, true, true, true, true, true, true, true, true, true, true, true, false, false] rfl rfl (one_of HT_.out z0) (by decide) (fun K hK => ?_)
   refine Kd.R_lit_step k61 _ 61 ?hg (N := 31) ?hd (xs := ([(⟨t305, t306, t307⟩ : S61), (⟨0, a0_3, (⟨#[]⟩ : ByteArray)⟩ : S61), (⟨t308, t309, t310⟩ : S61)] : List (S61))) (inner := [.int .i64 t305, .string t306, .string t307, .int .i64 0, .string a0_3, .string (⟨#[]⟩ : ByteArray), .int .i64 t308, .string t309, .string t310]) (ok := fun _ => True) (okp := fun _ => True) ?hr ?hp (fun _ hk => hk) trivial (Below.refl _ _) (Nat.le_refl _) (by simp) ?_; (case hd => rfl); (case hg => rfl); (case hr => first | (go_simp; done) | (go_simp; rfl)); (case hp => exact (Reps.c3 (show Kd.M k61 _ _ _ (⟨t305, t306, t307⟩ : S61) [.int .i64 t305, .string t306, .string t307] from (k61_mkM _ _ _ (⟨t305, t306, t307⟩ : S61) )) (Reps.c3 (show Kd.M k61 _ _ _ (⟨0, a0_3, (⟨#[]⟩ : ByteArray)⟩ : S61) [.int .i64 0, .string a0_3, .string (⟨#[]⟩ : ByteArray)] from (k61_mkM _ _ _ (⟨0, a0_3, (⟨#[]⟩ : ByteArray)⟩ : S61) )) (Reps.c3 (show Kd.M k61 _ _ _ (⟨t308, t309, t310⟩ : S61) [.int .i64 t308, .string t309, .string t310] from (k61_mkM _ _ _ (⟨t308, t309, t310⟩ : S61) )) (Reps.none _ _)))))
   intro v312 w13 ho14 hb hg_ hnew_
   clear hg_ hnew_
   (first | rw [← Ny311.out] at ho14 | (simp only [Int.reduceToNat] at ho14; rw [← Ny311.out] at ho14))
   have n0_ := Aside0.mk (Kd.R_lower ho14 (below_size z15))
   have n1_ := Aside0.mk (blk_below (g := gb304) (o := .cells #[.int .i64 a0_0, .int .i64 a0_1, .int .i64 a0_2, .string a0_3] 29 (0, 0)) z8 hb)
   have n2_ := Aside0.mk (below_step z15 hb)
   clear BK304
   clear HB
   have HO313 := n0_
   have BK304 := n1_
   have HB := n2_
   clear n0_ n1_ n2_
   clear hb ho14
   refine hK.out _ _ ⟨(blk_cell BK304.out 0).trans rfl, (blk_cell BK304.out 1).trans rfl, (blk_cell BK304.out 2).trans rfl, (blk_cell BK304.out 3).trans rfl⟩ (fun hHeld => ?_)
   clear hK K
   refine norm_ (a' := ?_) ?_ ?_
   rotate_left
   ·show Act.put _ (some 31) _ = _
    simp only [Act.put, List.setIfInBounds_toArray, List.set_cons_zero, List.set_cons_succ, i64_w, i32_w]
    rfl
   refine pA 17 4 ?_
   refine pA 18 5 ?_
   refine done_ (done_of HT_.out z0) ?_
   try go_wp2
   go_ret2
   exact ⟨_, by first | rfl | (simp [errW_none, errW_some] <;> rfl) | (simp [*, errW_none, errW_some] <;> rfl), by (with_reducible repeat (first | apply Kd.R_alloc | apply Kd.R_drewN | apply Kd.R_drew)); exact HO313.out, by repeat (first | (with_reducible first | exact HB.out | apply below_alloc | apply pw_below_drewN | apply below_drew1 | refine below_set ?_ GE304.out) | exact HB.out)⟩
  ·rw [if_neg c6] at H
   have c6b0 : (a0_3.toList == ([] : List UInt8)) = false := beq_eq_false_iff_ne.mpr c6
   have c6b1 : (a0_3.toList != ([] : List UInt8)) = true := bne_iff_ne.mpr c6
   replace H := Option.bind_eq_some_iff.mp H
   obtain ⟨t314, A150, H⟩ := H
   try dsimp only at H
   have A15 := Aside0.mk A150
   clear A150
   simp only [Option.some.injEq, Prod.mk.injEq] at H
   obtain ⟨rfl, rfl⟩ := H
   go_enter Try.func56, Try.ntmps56
   try go_wp2_with (first | ((with_reducible refine gate_dst (N := 2) rfl ?_); refine box_event ?hg (N := 2) ?hd (cs := #[.int .i64 a0_0, .int .i64 a0_1, .int .i64 a0_2, .string a0_3]) (t := 29) ?hr ?_; (case hd => rfl); (case hg => rfl); (case hr => first | (go_simp; done) | (go_simp; rfl)); intro gb304 hg w16 hbox hb; have n0_ := Aside0.mk (below_step z11 hb); have n1_ := Aside0.mk (hbox); have n2_ := Aside0.mk ((by rw [hg]; exact (below_size z11) : w.heap.size ≤ gb304)); have n3_ := Aside0.mk ((by rw [hg]; exact (below_size z11) : w.heap.size ≤ gb304)); clear HB; have HB := n0_; have BK304 := n1_; have GW304 := n2_; have GE304 := n3_; clear n0_ n1_ n2_ n3_; clear hb hbox hg))
   have n0_ := Aside0.mk (blk_drew BK304.out)
   have n1_ := Aside0.mk (below_drew1 HB.out)
   clear BK304
   clear HB
   have BK304 := n0_
   have HB := n1_
   clear n0_ n1_
   refine start_ (n := 6) (S := fun w' => w'.cell? ⟨gb304, 0, none⟩ = some (.int .i64 a0_0) ∧ w'.cell? ⟨gb304, 1, none⟩ = some (.int .i64 a0_1) ∧ w'.cell? ⟨gb304, 2, none⟩ = some (.int .i64 a0_2) ∧ w'.cell? ⟨gb304, 3, none⟩ = some (.string a0_3)) (ds := []) #[false, false, false, false, false, false] z0 rfl rfl ⟨(blk_cell BK304.out 0).trans rfl, (blk_cell BK304.out 1).trans rfl, (blk_cell BK304.out 2).trans rfl, (blk_cell BK304.out 3).trans rfl⟩ (fun hHeld => ?_)
   generalize w16.drew = w17 at BK304 HB hHeld ⊢
   refine pA 0 15 ?_
   refine pA 2 17 ?_
   refine tA 1 16 ?_ (hy := by rintro w' ⟨s0, s1, s2, s3⟩; go_simp; with_reducible rfl)
   refine pA 4 7 ?_
   refine tA 3 18 ?_ (hy := by rintro w' ⟨s0, s1, s2, s3⟩; go_simp; with_reducible rfl)
   refine pA 5 8 ?_
   refine done_ z0 ?_
   have hcz18_0 : w17.cell? ⟨gb304, 0, none⟩ = some (.int .i64 a0_0) := (blk_cell BK304.out 0).trans rfl
   have hcz18_1 : w17.cell? ⟨gb304, 1, none⟩ = some (.int .i64 a0_1) := (blk_cell BK304.out 1).trans rfl
   have hcz18_2 : w17.cell? ⟨gb304, 2, none⟩ = some (.int .i64 a0_2) := (blk_cell BK304.out 2).trans rfl
   have hcz18_3 : w17.cell? ⟨gb304, 3, none⟩ = some (.string a0_3) := (blk_cell BK304.out 3).trans rfl
   have hfz18_0 := blk_frozen BK304.out 0
   have hfz18_1 := blk_frozen BK304.out 1
   have hfz18_2 := blk_frozen BK304.out 2
   have hfz18_3 := blk_frozen BK304.out 3
   try go_wp2
   have n0_ := Aside0.mk (blk_drew BK304.out)
   have n1_ := Aside0.mk (below_drew1 HB.out)
   clear BK304
   clear HB
   have BK304 := n0_
   have HB := n1_
   clear n0_ n1_
   refine start_ (n := 19) (S := fun w' => w'.cell? ⟨gb304, 0, none⟩ = some (.int .i64 a0_0) ∧ w'.cell? ⟨gb304, 1, none⟩ = some (.int .i64 a0_1) ∧ w'.cell? ⟨gb304, 2, none⟩ = some (.int .i64 a0_2) ∧ w'.cell? ⟨gb304, 3, none⟩ = some (.string a0_3)) (ds := []) #[false, false, false, false, false, false, false, false, false, false, false, false, false, false, false, false, false, false, false] z0 rfl rfl ⟨(blk_cell BK304.out 0).trans rfl, (blk_cell BK304.out 1).trans rfl, (blk_cell BK304.out 2).trans rfl, (blk_cell BK304.out 3).trans rfl⟩ (fun hHeld => ?_); refine with_tabW impl_Command_parts.tab5 impl_Command_parts.bits5 (fun HT_ HW_ => ?_)
   generalize w17.drew = w19 at BK304 HB hHeld ⊢
   refine pA 0 23 ?_
   refine pA 2 25 ?_
   refine pA 5 28 ?_
   refine pA 6 29 ?_
   refine pA 9 32 ?_
   refine tA 3 26 ?_ (hy := by rintro w' ⟨s0, s1, s2, s3⟩; go_simp; with_reducible rfl)
   refine pA 4 27 ?_
   refine tA 10 33 ?_ (hy := by rintro w' ⟨s0, s1, s2, s3⟩; go_simp; with_reducible rfl)
   refine pA 11 34 ?_
   refine one_ (i := 1) (N := some 24) #[true, true, true, true, true, true, true, false, false, true, true, true, false, false, false, false, false, false, false] rfl rfl (one_of HT_.out z0) (by decide) (fun K hK => ?_)
   refine goes_ Try.func77 z0 rfl #[.int .i64 0, .int .i64 a0_1] (by rfl) rfl rfl z12 ?_
   with_reducible refine (impl_keepTo.calls 0 a0_1 t305 t306 t307 _ A4.out).mono ?_
   rintro e w20 ⟨rfl, hb⟩
   refine ⟨_, rfl, ?_⟩
   have n0_ := Aside0.mk (blk_below (g := gb304) (o := .cells #[.int .i64 a0_0, .int .i64 a0_1, .int .i64 a0_2, .string a0_3] 29 (0, 0)) z8 hb)
   have n1_ := Aside0.mk (below_step z15 hb)
   clear BK304
   clear HB
   have BK304 := n0_
   have HB := n1_
   clear n0_ n1_
   (try clear hb)
   (try clear hb2)
   (try clear hk)
   (try clear hi)
   refine hK.out _ _ ⟨(blk_cell BK304.out 0).trans rfl, (blk_cell BK304.out 1).trans rfl, (blk_cell BK304.out 2).trans rfl, (blk_cell BK304.out 3).trans rfl⟩ (fun hHeld => ?_)
   clear hK K
   refine norm_ (a' := ?_) ?_ ?_
   rotate_left
   ·show Act.put _ (some 24) _ = _
    simp only [Act.put, List.setIfInBounds_toArray, List.set_cons_zero, List.set_cons_succ, i64_w, i32_w]
    rfl
   refine one_ (i := 7) (N := some 30) #[true, true, true, true, true, true, true, true, false, true, true, true, false, false, false, false, false, false, false] rfl rfl (one_of HT_.out z0) (by decide) (fun K hK => ?_)
   refine goes_ Try.func77 z0 rfl #[.int .i64 a0_1, .int .i64 (a1.size : Int)] (by rfl) rfl rfl z12 ?_
   with_reducible refine (impl_keepTo.calls a0_1 (a1.size : Int) t308 t309 t310 _ A5.out).mono ?_
   rintro e w21 ⟨rfl, hb⟩
   refine ⟨_, rfl, ?_⟩
   have n0_ := Aside0.mk (blk_below (g := gb304) (o := .cells #[.int .i64 a0_0, .int .i64 a0_1, .int .i64 a0_2, .string a0_3] 29 (0, 0)) z8 hb)
   have n1_ := Aside0.mk (below_step z15 hb)
   clear BK304
   clear HB
   have BK304 := n0_
   have HB := n1_
   clear n0_ n1_
   (try clear hb)
   (try clear hb2)
   (try clear hk)
   (try clear hi)
   refine hK.out _ _ ⟨(blk_cell BK304.out 0).trans rfl, (blk_cell BK304.out 1).trans rfl, (blk_cell BK304.out 2).trans rfl, (blk_cell BK304.out 3).trans rfl⟩ (fun hHeld => ?_)
   clear hK K
   refine norm_ (a' := ?_) ?_ ?_
   rotate_left
   ·show Act.put _ (some 30) _ = _
    simp only [Act.put, List.setIfInBounds_toArray, List.set_cons_zero, List.set_cons_succ, i64_w, i32_w]
    rfl
   refine pA 12 35 ?_
   refine pA 13 36 ?_
   refine tA 14 37 ?_ (hy := by rintro w' ⟨s0, s1, s2, s3⟩; go_simp; with_reducible rfl)
   refine join_ (σ := Value) 2 #[true, true, true, true, true, true, true, true, true, true, true, true, true, true, true, true, true, false, false] (fun s_ => [(31, s_), (38, .bool t314), (39, .bool t314)]) (fun s_ w' => (w'.cell? ⟨gb304, 0, none⟩ = some (.int .i64 a0_0) ∧ w'.cell? ⟨gb304, 1, none⟩ = some (.int .i64 a0_1) ∧ w'.cell? ⟨gb304, 2, none⟩ = some (.int .i64 a0_2) ∧ w'.cell? ⟨gb304, 3, none⟩ = some (.string a0_3)) ∧ (Kd.R k61 61 w' w.heap.size (fun _ => True) s_ y311) ∧ (w'.heap[gb304]? = some (.cells #[.int .i64 a0_0, .int .i64 a0_1, .int .i64 a0_2, .string a0_3] 29 (0, 0))) ∧ (Below w.heap.size w w')) ?_ ?_
   rotate_left
   ·intro hCont
    refine two_ (i := 8) (j := 15) (Ni := some 31) (Nj := some 38) #[true, true, true, true, true, true, true, true, true, true, true, true, true, true, true, false, false, false, false] #[true, true, true, true, true, true, true, true, false, true, true, true, true, true, true, true, false, false, false] rfl rfl rfl rfl (two_of HT_.out z0) (by decide) (by decide) (fun K hK => ?_) (fun K hK => ?_)
    ·skip
     refine Kd.R_lit_step k61 _ 61 ?hg (N := 31) ?hd (xs := ([(⟨t305, t306, t307⟩ : S61), (⟨0, a0_3, (⟨#[]⟩ : ByteArray)⟩ : S61), (⟨t308, t309, t310⟩ : S61)] : List (S61))) (inner := [.int .i64 t305, .string t306, .string t307, .int .i64 0, .string a0_3, .string (⟨#[]⟩ : ByteArray), .int .i64 t308, .string t309, .string t310]) (ok := fun _ => True) (okp := fun _ => True) ?hr ?hp (fun _ hk => hk) trivial (Below.refl _ _) (Nat.le_refl _) (by simp) ?_; (case hd => rfl); (case hg => rfl); (case hr => first | (go_simp; done) | (go_simp; rfl)); (case hp => exact (Reps.c3 (show Kd.M k61 _ _ _ (⟨t305, t306, t307⟩ : S61) [.int .i64 t305, .string t306, .string t307] from (k61_mkM _ _ _ (⟨t305, t306, t307⟩ : S61) )) (Reps.c3 (show Kd.M k61 _ _ _ (⟨0, a0_3, (⟨#[]⟩ : ByteArray)⟩ : S61) [.int .i64 0, .string a0_3, .string (⟨#[]⟩ : ByteArray)] from (k61_mkM _ _ _ (⟨0, a0_3, (⟨#[]⟩ : ByteArray)⟩ : S61) )) (Reps.c3 (show Kd.M k61 _ _ _ (⟨t308, t309, t310⟩ : S61) [.int .i64 t308, .string t309, .string t310] from (k61_mkM _ _ _ (⟨t308, t309, t310⟩ : S61) )) (Reps.none _ _)))))
     intro v312 w22 ho23 hb hg_ hnew_
     clear hg_ hnew_
     (first | rw [← Ny311.out] at ho23 | (simp only [Int.reduceToNat] at ho23; rw [← Ny311.out] at ho23))
     have n0_ := Aside0.mk (Kd.R_lower ho23 (below_size z15))
     have n1_ := Aside0.mk (blk_below (g := gb304) (o := .cells #[.int .i64 a0_0, .int .i64 a0_1, .int .i64 a0_2, .string a0_3] 29 (0, 0)) z8 hb)
     have n2_ := Aside0.mk (below_step z15 hb)
     clear BK304
     clear HB
     have HO313 := n0_
     have BK304 := n1_
     have HB := n2_
     clear n0_ n1_ n2_
     clear hb ho23
     refine hK.out _ _ ⟨(blk_cell BK304.out 0).trans rfl, (blk_cell BK304.out 1).trans rfl, (blk_cell BK304.out 2).trans rfl, (blk_cell BK304.out 3).trans rfl⟩ (fun hHeld => ?_)
     clear hK K
     refine norm_ (a' := ?_) ?_ ?_
     rotate_left
     ·show Act.put _ (some 31) _ = _
      simp only [Act.put, List.setIfInBounds_toArray, List.set_cons_zero, List.set_cons_succ, i64_w, i32_w]
      rfl
     refine one_ (i := 15) (N := some 38) #[true, true, true, true, true, true, true, true, true, true, true, true, true, true, true, true, false, false, false] rfl rfl (one_of HT_.out z0) (by decide) (fun K hK => ?_)
     refine goes_ Try.func45 z0 rfl #[.string a0_3] (by rfl) rfl rfl z12 ?_
     with_reducible refine (impl_GoodText.calls k a0_3 t314 _ A15.out).mono ?_
     rintro e w' ⟨rfl, ⟨nd, rfl⟩⟩
     refine ⟨_, rfl, ?_⟩
     refine hK.out _ _ ⟨(blk_cell BK304.out 0).trans rfl, (blk_cell BK304.out 1).trans rfl, (blk_cell BK304.out 2).trans rfl, (blk_cell BK304.out 3).trans rfl⟩ (fun hHeld => ?_)
     clear hK K
     refine norm_ (a' := ?_) ?_ ?_
     rotate_left
     ·show Act.put _ (some 38) _ = _
      simp only [Act.put, List.setIfInBounds_toArray, List.set_cons_zero, List.set_cons_succ, i64_w, i32_w]
      rfl
     refine pA 16 39 ?_
     exact norm_ (by simp only [putAll, Act.put, List.setIfInBounds_toArray, List.set_cons_zero, List.set_cons_succ] <;> rfl) (hCont (v312) _ ⟨hHeld, (by (with_reducible repeat (first | apply Kd.R_alloc | apply Kd.R_drewN | apply Kd.R_drew)); exact HO313.out), z8, z15⟩)
    ·skip
     refine goes_ Try.func45 z0 rfl #[.string a0_3] (by rfl) rfl rfl z12 ?_
     with_reducible refine (impl_GoodText.calls k a0_3 t314 _ A15.out).mono ?_
     rintro e w' ⟨rfl, ⟨nd, rfl⟩⟩
     refine ⟨_, rfl, ?_⟩
     refine hK.out _ _ ⟨(blk_cell BK304.out 0).trans rfl, (blk_cell BK304.out 1).trans rfl, (blk_cell BK304.out 2).trans rfl, (blk_cell BK304.out 3).trans rfl⟩ (fun hHeld => ?_)
     clear hK K
     refine norm_ (a' := ?_) ?_ ?_
     rotate_left
     ·show Act.put _ (some 38) _ = _
      simp only [Act.put, List.setIfInBounds_toArray, List.set_cons_zero, List.set_cons_succ, i64_w, i32_w]
      rfl
     refine pA 16 39 ?_
     refine one_ (i := 8) (N := some 31) #[true, true, true, true, true, true, true, true, true, true, true, true, true, true, true, true, true, false, false] rfl rfl (one_of HT_.out z0) (by decide) (fun K hK => ?_)
     refine Kd.R_lit_step k61 _ 61 ?hg (N := 31) ?hd (xs := ([(⟨t305, t306, t307⟩ : S61), (⟨0, a0_3, (⟨#[]⟩ : ByteArray)⟩ : S61), (⟨t308, t309, t310⟩ : S61)] : List (S61))) (inner := [.int .i64 t305, .string t306, .string t307, .int .i64 0, .string a0_3, .string (⟨#[]⟩ : ByteArray), .int .i64 t308, .string t309, .string t310]) (ok := fun _ => True) (okp := fun _ => True) ?hr ?hp (fun _ hk => hk) trivial (Below.refl _ _) (Nat.le_refl _) (by simp) ?_; (case hd => rfl); (case hg => rfl); (case hr => first | (go_simp; done) | (go_simp; rfl)); (case hp => exact (Reps.c3 (show Kd.M k61 _ _ _ (⟨t305, t306, t307⟩ : S61) [.int .i64 t305, .string t306, .string t307] from (k61_mkM _ _ _ (⟨t305, t306, t307⟩ : S61) )) (Reps.c3 (show Kd.M k61 _ _ _ (⟨0, a0_3, (⟨#[]⟩ : ByteArray)⟩ : S61) [.int .i64 0, .string a0_3, .string (⟨#[]⟩ : ByteArray)] from (k61_mkM _ _ _ (⟨0, a0_3, (⟨#[]⟩ : ByteArray)⟩ : S61) )) (Reps.c3 (show Kd.M k61 _ _ _ (⟨t308, t309, t310⟩ : S61) [.int .i64 t308, .string t309, .string t310] from (k61_mkM _ _ _ (⟨t308, t309, t310⟩ : S61) )) (Reps.none _ _)))))
     intro v312 w22 ho23 hb hg_ hnew_
     clear hg_ hnew_
     (first | rw [← Ny311.out] at ho23 | (simp only [Int.reduceToNat] at ho23; rw [← Ny311.out] at ho23))
     have n0_ := Aside0.mk (Kd.R_lower ho23 (below_size z15))
     have n1_ := Aside0.mk (blk_below (g := gb304) (o := .cells #[.int .i64 a0_0, .int .i64 a0_1, .int .i64 a0_2, .string a0_3] 29 (0, 0)) z8 hb)
     have n2_ := Aside0.mk (below_step z15 hb)
     clear BK304
     clear HB
     have HO313 := n0_
     have BK304 := n1_
     have HB := n2_
     clear n0_ n1_ n2_
     clear hb ho23
     refine hK.out _ _ ⟨(blk_cell BK304.out 0).trans rfl, (blk_cell BK304.out 1).trans rfl, (blk_cell BK304.out 2).trans rfl, (blk_cell BK304.out 3).trans rfl⟩ (fun hHeld => ?_)
     clear hK K
     refine norm_ (a' := ?_) ?_ ?_
     rotate_left
     ·show Act.put _ (some 31) _ = _
      simp only [Act.put, List.setIfInBounds_toArray, List.set_cons_zero, List.set_cons_succ, i64_w, i32_w]
      rfl
     exact norm_ (by simp only [putAll, Act.put, List.setIfInBounds_toArray, List.set_cons_zero, List.set_cons_succ] <;> rfl) (hCont (v312) _ ⟨hHeld, (by (with_reducible repeat (first | apply Kd.R_alloc | apply Kd.R_drewN | apply Kd.R_drew)); exact HO313.out), z8, z15⟩)
   rintro v312 w24 ⟨hS_, h0_, h1_, h2_⟩
   have n0_ : Aside0 (Kd.R k61 61 w24 w.heap.size (fun _ => True) v312 y311) := ⟨h0_⟩
   have n1_ : Aside0 (w24.heap[gb304]? = some (.cells #[.int .i64 a0_0, .int .i64 a0_1, .int .i64 a0_2, .string a0_3] 29 (0, 0))) := ⟨h1_⟩
   have n2_ : Aside0 (Below w.heap.size w w24) := ⟨h2_⟩
   clear BK304
   clear HB
   clear h0_ h1_ h2_
   have HO313 := n0_
   have BK304 := n1_
   have HB := n2_
   clear n0_ n1_ n2_
   have hHeld : w24.cell? ⟨gb304, 0, none⟩ = some (.int .i64 a0_0) ∧ w24.cell? ⟨gb304, 1, none⟩ = some (.int .i64 a0_1) ∧ w24.cell? ⟨gb304, 2, none⟩ = some (.int .i64 a0_2) ∧ w24.cell? ⟨gb304, 3, none⟩ = some (.string a0_3) := hS_
   refine norm_ (a' := ?_) ?_ ?_
   rotate_left
   ·simp only [putAll, Act.put, List.setIfInBounds_toArray, List.set_cons_zero, List.set_cons_succ]
    rfl
   refine pA 17 4 ?_
   refine pA 18 5 ?_
   refine done_ (done_of HT_.out z0) ?_
   try go_wp2
   go_ret2
   exact ⟨_, by first | rfl | (simp [errW_none, errW_some] <;> rfl) | (simp [*, errW_none, errW_some] <;> rfl), by (with_reducible repeat (first | apply Kd.R_alloc | apply Kd.R_drewN | apply Kd.R_drew)); exact HO313.out, by repeat (first | (with_reducible first | exact HB.out | apply below_alloc | apply pw_below_drewN | apply below_drew1 | refine below_set ?_ GE304.out) | exact HB.out)⟩
 ·rw [if_neg c3] at H
  have c3b0 : (a0_0 == 1) = false := beq_eq_false_iff_ne.mpr c3
  have c3b1 : (a0_0 != 1) = true := bne_iff_ne.mpr c3
  by_cases c25 : a0_0 = 2
  ·rw [if_pos c25] at H
   have c25b0 : (a0_0 == 2) = true := beq_iff_eq.mpr c25
   have c25b1 : (a0_0 != 2) = false := bne_eq_false_iff_eq.mpr c25
   clear c25
   have HC26 := Aside0.mk H
   clear H
   go_enter Try.func56, Try.ntmps56
   try go_wp2_with (first | ((with_reducible refine gate_dst (N := 2) rfl ?_); refine box_event ?hg (N := 2) ?hd (cs := #[.int .i64 a0_0, .int .i64 a0_1, .int .i64 a0_2, .string a0_3]) (t := 29) ?hr ?_; (case hd => rfl); (case hg => rfl); (case hr => first | (go_simp; done) | (go_simp; rfl)); intro gb304 hg w27 hbox hb; have n0_ := Aside0.mk (below_step z11 hb); have n1_ := Aside0.mk (hbox); have n2_ := Aside0.mk ((by rw [hg]; exact (below_size z11) : w.heap.size ≤ gb304)); have n3_ := Aside0.mk ((by rw [hg]; exact (below_size z11) : w.heap.size ≤ gb304)); clear HB; have HB := n0_; have BK304 := n1_; have GW304 := n2_; have GE304 := n3_; clear n0_ n1_ n2_ n3_; clear hb hbox hg))
   have n0_ := Aside0.mk (blk_drew BK304.out)
   have n1_ := Aside0.mk (below_drew1 HB.out)
   clear BK304
   clear HB
   have BK304 := n0_
   have HB := n1_
   clear n0_ n1_
   refine start_ (n := 6) (S := fun w' => w'.cell? ⟨gb304, 0, none⟩ = some (.int .i64 a0_0) ∧ w'.cell? ⟨gb304, 1, none⟩ = some (.int .i64 a0_1) ∧ w'.cell? ⟨gb304, 2, none⟩ = some (.int .i64 a0_2) ∧ w'.cell? ⟨gb304, 3, none⟩ = some (.string a0_3)) (ds := []) #[false, false, false, false, false, false] z0 rfl rfl ⟨(blk_cell BK304.out 0).trans rfl, (blk_cell BK304.out 1).trans rfl, (blk_cell BK304.out 2).trans rfl, (blk_cell BK304.out 3).trans rfl⟩ (fun hHeld => ?_)
   generalize w27.drew = w28 at BK304 HB hHeld ⊢
   refine pA 0 15 ?_
   refine pA 2 17 ?_
   refine tA 1 16 ?_ (hy := by rintro w' ⟨s0, s1, s2, s3⟩; go_simp; with_reducible rfl)
   refine pA 4 7 ?_
   refine tA 3 18 ?_ (hy := by rintro w' ⟨s0, s1, s2, s3⟩; go_simp; with_reducible rfl)
   refine pA 5 8 ?_
   refine done_ z0 ?_
   have hcz29_0 : w28.cell? ⟨gb304, 0, none⟩ = some (.int .i64 a0_0) := (blk_cell BK304.out 0).trans rfl
   have hcz29_1 : w28.cell? ⟨gb304, 1, none⟩ = some (.int .i64 a0_1) := (blk_cell BK304.out 1).trans rfl
   have hcz29_2 : w28.cell? ⟨gb304, 2, none⟩ = some (.int .i64 a0_2) := (blk_cell BK304.out 2).trans rfl
   have hcz29_3 : w28.cell? ⟨gb304, 3, none⟩ = some (.string a0_3) := (blk_cell BK304.out 3).trans rfl
   have hfz29_0 := blk_frozen BK304.out 0
   have hfz29_1 := blk_frozen BK304.out 1
   have hfz29_2 := blk_frozen BK304.out 2
   have hfz29_3 := blk_frozen BK304.out 3
   go_upto_region 7 with (fail)
   go_cut [52] (fun v52 wc => ∃ (kq : Nat) (x52_25 : Bool), v52 = .bool x52_25 ∧ Aside0 (impl_Command_parts.j0 kq a1 (a1.size : Int) a0_1 a0_2 x52_25 = some (r1, r2)) ∧ Aside0 (kq ≤ k) ∧ Aside0 (wc.heap[gb304]? = some (.cells #[.int .i64 a0_0, .int .i64 a0_1, .int .i64 a0_2, .string a0_3] 29 (0, 0))) ∧ Aside0 (Below w.heap.size w wc))
   case first =>
    have H := HC26.out
    clear HC26
    by_cases c30 : a0_1 ≥ a0_2
    ·rw [if_pos c30] at H
     have c30b0 : decide (a0_2 ≤ a0_1) = true := decide_eq_true c30
     clear c30
     (first | rw [c30b0] | (simp only [i64_w, i32_w]; rw [c30b0]) | skip)
     have H' := Aside0.mk H
     clear H
     go_wp2
     go_meet
     case rel => exact ⟨_, (true), z1, H', ⟨by first | omega | exact Nat.le_refl _⟩, ⟨by (with_reducible repeat (first | refine blk_drewN ?_ _ | refine blk_drew ?_ | refine blk_alloc ?_ _)); exact BK304.out⟩, ⟨by repeat (first | (with_reducible first | exact HB.out | apply below_alloc | apply pw_below_drewN | apply below_drew1 | refine below_set ?_ GE304.out) | exact HB.out)⟩⟩
    ·rw [if_neg c30] at H
     have c30b0 : decide (a0_2 ≤ a0_1) = false := decide_eq_false c30
     clear c30
     (first | rw [c30b0] | (simp only [i64_w, i32_w]; rw [c30b0]) | skip)
     by_cases c31 : 0 ≤ a0_1
     ·rw [if_pos c31] at H
      have c31b0 := eq_true c31
      have c31b1 : decide (0 ≤ a0_1) = true := decide_eq_true c31
      clear c31
      by_cases c32 : a0_1 ≤ a0_2
      ·rw [if_pos c32] at H
       have c32b0 := eq_true c32
       have c32b1 : decide (a0_1 ≤ a0_2) = true := decide_eq_true c32
       clear c32
       by_cases c33 : a0_2 ≤ (a1.size : Int)
       ·rw [if_pos c33] at H
        have c33b0 := eq_true c33
        have c33b1 : decide (a0_2 ≤ (a1.size : Int)) = true := decide_eq_true c33
        clear c33
        replace H := Option.bind_eq_some_iff.mp H
        obtain ⟨t315, A340, H⟩ := H
        try dsimp only at H
        have A34 := Aside0.mk A340
        clear A340
        have H' := Aside0.mk H
        clear H
        go_wp2_with (first | (go_at_call 18; (with_reducible refine (impl_GoodDoc.calls k (a1.extract (a0_1 : Int).toNat (a0_2 : Int).toNat) t315 _ A34.out).mono ?_); rintro e w35 ⟨rfl, hb⟩; have n0_ := Aside0.mk (blk_below (g := gb304) (o := .cells #[.int .i64 a0_0, .int .i64 a0_1, .int .i64 a0_2, .string a0_3] 29 (0, 0)) z8 hb); have n1_ := Aside0.mk (below_step z15 hb); clear BK304; clear HB; have BK304 := n0_; have HB := n1_; clear n0_ n1_; (try clear hb); (try clear hb2); (try clear hk); (try clear hi)))
        go_meet
        case rel => exact ⟨_, (!t315), z1, H', ⟨by first | omega | exact Nat.le_refl _⟩, ⟨by (with_reducible repeat (first | refine blk_drewN ?_ _ | refine blk_drew ?_ | refine blk_alloc ?_ _)); exact BK304.out⟩, ⟨by repeat (first | (with_reducible first | exact HB.out | apply below_alloc | apply pw_below_drewN | apply below_drew1 | refine below_set ?_ GE304.out) | exact HB.out)⟩⟩
       ·rw [if_neg c33] at H
        exact absurd H (by simp)
      ·rw [if_neg c32] at H
       exact absurd H (by simp)
     ·rw [if_neg c31] at H
      exact absurd H (by simp)
   case rest =>
    clear HC26
    try clear c2
    try clear p2
    try clear c3
    try clear c3b0
    try clear c3b1
    try clear c4
    try clear c5
    try clear c6
    try clear c6b0
    try clear c6b1
    try clear c7
    try clear c25
    try clear c25b0
    try clear c25b1
    try clear c30
    try clear c30b0
    try clear c31
    try clear c31b0
    try clear c31b1
    try clear c32
    try clear c32b0
    try clear c32b1
    try clear c33
    try clear c33b0
    try clear c33b1
    try clear hcz18_0
    try clear hcz18_1
    try clear hcz18_2
    try clear hcz18_3
    try clear hcz29_0
    try clear hcz29_1
    try clear hcz29_2
    try clear hcz29_3
    try clear hfz18_0
    try clear hfz18_1
    try clear hfz18_2
    try clear hfz18_3
    try clear hfz29_0
    try clear hfz29_1
    try clear hfz29_2
    try clear hfz29_3
    obtain ⟨kq, x52_25, rfl, HA, HJ25, BK304, HB⟩ := hcut
    cases kq with
    | zero => exact absurd HA.out (by simp [impl_Command_parts.j0])
    | succ kj25 =>
     have H := HA.out
     clear HA
     simp only [impl_Command_parts.j0] at H
     by_cases c36 : x52_25 = true
     ·subst c36
      rw [if_pos rfl] at H
      simp only [Option.some.injEq, Prod.mk.injEq] at H
      obtain ⟨rfl, rfl⟩ := H
      go_wp2
      go_ret2
      exact ⟨_, by first | rfl | (simp [errW_none, errW_some] <;> rfl) | (simp [*, errW_none, errW_some] <;> rfl), by first | exact Kd.R_nil _ _ _ _ _ | exact Kd.N_nil _ _ _ _ _ | exact Kd.V_nil _ _ _ _ _ | exact Kd.Q_nil _ _ _ _ _ | exact Kd.S_nil _ _ _ _ _, by repeat (first | (with_reducible first | exact HB.out | apply below_alloc | apply pw_below_drewN | apply below_drew1 | refine below_set ?_ GE304.out) | exact HB.out)⟩
     ·replace c36 := Bool.eq_false_iff.mpr c36
      subst c36
      rw [if_neg (show ¬ (false = true) by decide)] at H
      replace H := Option.bind_eq_some_iff.mp H
      obtain ⟨⟨t316, t317, t318⟩, A370, H⟩ := H
      try dsimp only at H
      have A37 := Aside0.mk A370
      clear A370
      by_cases c38 : 0 ≤ a0_1
      ·rw [if_pos c38] at H
       have c38b0 := eq_true c38
       have c38b1 : decide (0 ≤ a0_1) = true := decide_eq_true c38
       clear c38
       by_cases c39 : a0_1 ≤ a0_2
       ·rw [if_pos c39] at H
        have c39b0 := eq_true c39
        have c39b1 : decide (a0_1 ≤ a0_2) = true := decide_eq_true c39
        clear c39
        by_cases c40 : a0_2 ≤ (a1.size : Int)
        ·rw [if_pos c40] at H
         have c40b0 := eq_true c40
         have c40b1 : decide (a0_2 ≤ (a1.size : Int)) = true := decide_eq_true c40
         clear c40
         replace H := Option.bind_eq_some_iff.mp H
         obtain ⟨⟨t319, t320, t321⟩, A410, H⟩ := H
         try dsimp only at H
         have A41 := Aside0.mk A410
         clear A410
         obtain ⟨y322, hy322⟩ : ∃ y_ : List (S61), y_ = (([(⟨t316, t317, t318⟩ : S61), (⟨0, (⟨#[]⟩ : ByteArray), a1.extract (a0_1 : Int).toNat (a0_2 : Int).toNat⟩ : S61), (⟨t319, t320, t321⟩ : S61)] : List (S61))) := ⟨_, rfl⟩
         replace H : (some (y322, true)) = some (r1, r2) := by first | (rw [hy322]; with_reducible exact H) | (have H2_ := (Option.bind_some _ _).symm.trans H; rw [hy322]; with_reducible exact H2_) | (have H2_ := (Option.bind_some _ _).symm.trans H; with_reducible exact H2_) | with_reducible exact H | (rw [hy322]; exact H) | exact H
         have Ny322 := Aside0.mk hy322
         clear hy322
         simp only [Option.some.injEq, Prod.mk.injEq] at H
         obtain ⟨rfl, rfl⟩ := H
         try go_wp2
         have n0_ := Aside0.mk (blk_drew BK304.out)
         have n1_ := Aside0.mk (below_drew1 HB.out)
         clear BK304
         clear HB
         have BK304 := n0_
         have HB := n1_
         clear n0_ n1_
         refine start_ (n := 13) (S := fun w' => True) (ds := []) #[false, false, false, false, false, false, false, false, false, false, false, false, false] z0 rfl rfl trivial (fun hHeld => ?_); refine with_tabW impl_Command_parts.tab9 impl_Command_parts.bits9 (fun HT_ HW_ => ?_)
         generalize wc.drew = w42 at BK304 HB hHeld ⊢
         refine pA 0 53 ?_
         refine pA 2 55 ?_
         refine pA 3 56 ?_
         refine pA 4 57 ?_
         refine pA 5 58 ?_
         refine pA 6 59 ?_
         refine pA 7 60 ?_
         refine pA 8 61 ?_
         refine one_ (i := 1) (N := some 54) #[true, true, true, true, true, true, true, true, true, false, false, false, false] rfl rfl (one_of HT_.out z0) (by decide) (fun K hK => ?_)
         refine goes_ Try.func77 z0 rfl #[.int .i64 0, .int .i64 a0_1] (by rfl) rfl rfl z12 ?_
         with_reducible refine (impl_keepTo.calls 0 a0_1 t316 t317 t318 _ A37.out).mono ?_
         rintro e w43 ⟨rfl, hb⟩
         refine ⟨_, rfl, ?_⟩
         have n0_ := Aside0.mk (blk_below (g := gb304) (o := .cells #[.int .i64 a0_0, .int .i64 a0_1, .int .i64 a0_2, .string a0_3] 29 (0, 0)) z8 hb)
         have n1_ := Aside0.mk (below_step z15 hb)
         clear BK304
         clear HB
         have BK304 := n0_
         have HB := n1_
         clear n0_ n1_
         (try clear hb)
         (try clear hb2)
         (try clear hk)
         (try clear hi)
         refine hK.out _ _ trivial (fun hHeld => ?_)
         clear hK K
         refine norm_ (a' := ?_) ?_ ?_
         rotate_left
         ·show Act.put _ (some 54) _ = _
          simp only [Act.put, List.setIfInBounds_toArray, List.set_cons_zero, List.set_cons_succ, i64_w, i32_w]
          rfl
         refine one_ (i := 9) (N := some 62) #[true, true, true, true, true, true, true, true, true, true, false, false, false] rfl rfl (one_of HT_.out z0) (by decide) (fun K hK => ?_)
         refine goes_ Try.func77 z0 rfl #[.int .i64 a0_2, .int .i64 (a1.size : Int)] (by rfl) rfl rfl z12 ?_
         with_reducible refine (impl_keepTo.calls a0_2 (a1.size : Int) t319 t320 t321 _ A41.out).mono ?_
         rintro e w44 ⟨rfl, hb⟩
         refine ⟨_, rfl, ?_⟩
         have n0_ := Aside0.mk (blk_below (g := gb304) (o := .cells #[.int .i64 a0_0, .int .i64 a0_1, .int .i64 a0_2, .string a0_3] 29 (0, 0)) z8 hb)
         have n1_ := Aside0.mk (below_step z15 hb)
         clear BK304
         clear HB
         have BK304 := n0_
         have HB := n1_
         clear n0_ n1_
         (try clear hb)
         (try clear hb2)
         (try clear hk)
         (try clear hi)
         refine hK.out _ _ trivial (fun hHeld => ?_)
         clear hK K
         refine norm_ (a' := ?_) ?_ ?_
         rotate_left
         ·show Act.put _ (some 62) _ = _
          simp only [Act.put, List.setIfInBounds_toArray, List.set_cons_zero, List.set_cons_succ, i64_w, i32_w]
          rfl
         refine one_ (i := 10) (N := some 63) #[true, true, true, true, true, true, true, true, true, true, true, false, false] rfl rfl (one_of HT_.out z0) (by decide) (fun K hK => ?_)
         refine Kd.R_lit_step k61 _ 61 ?hg (N := 63) ?hd (xs := ([(⟨t316, t317, t318⟩ : S61), (⟨0, (⟨#[]⟩ : ByteArray), a1.extract (a0_1 : Int).toNat (a0_2 : Int).toNat⟩ : S61), (⟨t319, t320, t321⟩ : S61)] : List (S61))) (inner := [.int .i64 t316, .string t317, .string t318, .int .i64 0, .string (⟨#[]⟩ : ByteArray), .string (a1.extract (a0_1 : Int).toNat (a0_2 : Int).toNat), .int .i64 t319, .string t320, .string t321]) (ok := fun _ => True) (okp := fun _ => True) ?hr ?hp (fun _ hk => hk) trivial (Below.refl _ _) (Nat.le_refl _) (by simp) ?_; (case hd => rfl); (case hg => rfl); (case hr => first | (go_simp; done) | (go_simp; rfl)); (case hp => exact (Reps.c3 (show Kd.M k61 _ _ _ (⟨t316, t317, t318⟩ : S61) [.int .i64 t316, .string t317, .string t318] from (k61_mkM _ _ _ (⟨t316, t317, t318⟩ : S61) )) (Reps.c3 (show Kd.M k61 _ _ _ (⟨0, (⟨#[]⟩ : ByteArray), a1.extract (a0_1 : Int).toNat (a0_2 : Int).toNat⟩ : S61) [.int .i64 0, .string (⟨#[]⟩ : ByteArray), .string (a1.extract (a0_1 : Int).toNat (a0_2 : Int).toNat)] from (k61_mkM _ _ _ (⟨0, (⟨#[]⟩ : ByteArray), a1.extract (a0_1 : Int).toNat (a0_2 : Int).toNat⟩ : S61) )) (Reps.c3 (show Kd.M k61 _ _ _ (⟨t319, t320, t321⟩ : S61) [.int .i64 t319, .string t320, .string t321] from (k61_mkM _ _ _ (⟨t319, t320, t321⟩ : S61) )) (Reps.none _ _)))))
         intro v323 w45 ho46 hb hg_ hnew_
         clear hg_ hnew_
         (first | rw [← Ny322.out] at ho46 | (simp only [Int.reduceToNat] at ho46; rw [← Ny322.out] at ho46))
         have n0_ := Aside0.mk (Kd.R_lower ho46 (below_size z15))
         have n1_ := Aside0.mk (blk_below (g := gb304) (o := .cells #[.int .i64 a0_0, .int .i64 a0_1, .int .i64 a0_2, .string a0_3] 29 (0, 0)) z8 hb)
         have n2_ := Aside0.mk (below_step z15 hb)
         clear BK304
         clear HB
         have HO324 := n0_
         have BK304 := n1_
         have HB := n2_
         clear n0_ n1_ n2_
         clear hb ho46
         refine hK.out _ _ trivial (fun hHeld => ?_)
         clear hK K
         refine norm_ (a' := ?_) ?_ ?_
         rotate_left
         ·show Act.put _ (some 63) _ = _
          simp only [Act.put, List.setIfInBounds_toArray, List.set_cons_zero, List.set_cons_succ, i64_w, i32_w]
          rfl
         refine pA 11 4 ?_
         refine pA 12 5 ?_
         refine done_ (done_of HT_.out z0) ?_
         try go_wp2
         go_ret2
         exact ⟨_, by first | rfl | (simp [errW_none, errW_some] <;> rfl) | (simp [*, errW_none, errW_some] <;> rfl), by (with_reducible repeat (first | apply Kd.R_alloc | apply Kd.R_drewN | apply Kd.R_drew)); exact HO324.out, by repeat (first | (with_reducible first | exact HB.out | apply below_alloc | apply pw_below_drewN | apply below_drew1 | refine below_set ?_ GE304.out) | exact HB.out)⟩
        ·rw [if_neg c40] at H
         exact absurd H (by simp)
       ·rw [if_neg c39] at H
        exact absurd H (by simp)
      ·rw [if_neg c38] at H
       exact absurd H (by simp)
  ·rw [if_neg c25] at H
   have c25b0 : (a0_0 == 2) = false := beq_eq_false_iff_ne.mpr c25
   have c25b1 : (a0_0 != 2) = true := bne_iff_ne.mpr c25
   by_cases c47 : a0_0 = 3
   ·rw [if_pos c47] at H
    have c47b0 : (a0_0 == 3) = true := beq_iff_eq.mpr c47
    have c47b1 : (a0_0 != 3) = false := bne_eq_false_iff_eq.mpr c47
    clear c47
    have HC48 := Aside0.mk H
    clear H
    go_enter Try.func56, Try.ntmps56
    try go_wp2_with (first | ((with_reducible refine gate_dst (N := 2) rfl ?_); refine box_event ?hg (N := 2) ?hd (cs := #[.int .i64 a0_0, .int .i64 a0_1, .int .i64 a0_2, .string a0_3]) (t := 29) ?hr ?_; (case hd => rfl); (case hg => rfl); (case hr => first | (go_simp; done) | (go_simp; rfl)); intro gb304 hg w49 hbox hb; have n0_ := Aside0.mk (below_step z11 hb); have n1_ := Aside0.mk (hbox); have n2_ := Aside0.mk ((by rw [hg]; exact (below_size z11) : w.heap.size ≤ gb304)); have n3_ := Aside0.mk ((by rw [hg]; exact (below_size z11) : w.heap.size ≤ gb304)); clear HB; have HB := n0_; have BK304 := n1_; have GW304 := n2_; have GE304 := n3_; clear n0_ n1_ n2_ n3_; clear hb hbox hg))
    have n0_ := Aside0.mk (blk_drew BK304.out)
    have n1_ := Aside0.mk (below_drew1 HB.out)
    clear BK304
    clear HB
    have BK304 := n0_
    have HB := n1_
    clear n0_ n1_
    refine start_ (n := 6) (S := fun w' => w'.cell? ⟨gb304, 0, none⟩ = some (.int .i64 a0_0) ∧ w'.cell? ⟨gb304, 1, none⟩ = some (.int .i64 a0_1) ∧ w'.cell? ⟨gb304, 2, none⟩ = some (.int .i64 a0_2) ∧ w'.cell? ⟨gb304, 3, none⟩ = some (.string a0_3)) (ds := []) #[false, false, false, false, false, false] z0 rfl rfl ⟨(blk_cell BK304.out 0).trans rfl, (blk_cell BK304.out 1).trans rfl, (blk_cell BK304.out 2).trans rfl, (blk_cell BK304.out 3).trans rfl⟩ (fun hHeld => ?_)
    generalize w49.drew = w50 at BK304 HB hHeld ⊢
    refine pA 0 15 ?_
    refine pA 2 17 ?_
    refine tA 1 16 ?_ (hy := by rintro w' ⟨s0, s1, s2, s3⟩; go_simp; with_reducible rfl)
    refine pA 4 7 ?_
    refine tA 3 18 ?_ (hy := by rintro w' ⟨s0, s1, s2, s3⟩; go_simp; with_reducible rfl)
    refine pA 5 8 ?_
    refine done_ z0 ?_
    have hcz51_0 : w50.cell? ⟨gb304, 0, none⟩ = some (.int .i64 a0_0) := (blk_cell BK304.out 0).trans rfl
    have hcz51_1 : w50.cell? ⟨gb304, 1, none⟩ = some (.int .i64 a0_1) := (blk_cell BK304.out 1).trans rfl
    have hcz51_2 : w50.cell? ⟨gb304, 2, none⟩ = some (.int .i64 a0_2) := (blk_cell BK304.out 2).trans rfl
    have hcz51_3 : w50.cell? ⟨gb304, 3, none⟩ = some (.string a0_3) := (blk_cell BK304.out 3).trans rfl
    have hfz51_0 := blk_frozen BK304.out 0
    have hfz51_1 := blk_frozen BK304.out 1
    have hfz51_2 := blk_frozen BK304.out 2
    have hfz51_3 := blk_frozen BK304.out 3
    go_upto_region 11 with (fail)
    go_cut [82] (fun v82 wc => ∃ (kq : Nat) (x82_47 : Bool), v82 = .bool x82_47 ∧ Aside0 (impl_Command_parts.j1 kq (a1.size : Int) a0_1 a0_2 x82_47 a0_0 a0_1 a0_2 a0_3 = some (r1, r2)) ∧ Aside0 (kq ≤ k) ∧ Aside0 (wc.heap[gb304]? = some (.cells #[.int .i64 a0_0, .int .i64 a0_1, .int .i64 a0_2, .string a0_3] 29 (0, 0))) ∧ Aside0 (Below w.heap.size w wc))
    case first =>
     have H := HC48.out
     clear HC48
     by_cases c52 : a0_1 > a0_2
     ·rw [if_pos c52] at H
      have c52b0 : decide (a0_2 < a0_1) = true := decide_eq_true c52
      clear c52
      (first | rw [c52b0] | (simp only [i64_w, i32_w]; rw [c52b0]) | skip)
      have H' := Aside0.mk H
      clear H
      go_wp2
      go_meet
      case rel => exact ⟨_, (true), z1, H', ⟨by first | omega | exact Nat.le_refl _⟩, ⟨by (with_reducible repeat (first | refine blk_drewN ?_ _ | refine blk_drew ?_ | refine blk_alloc ?_ _)); exact BK304.out⟩, ⟨by repeat (first | (with_reducible first | exact HB.out | apply below_alloc | apply pw_below_drewN | apply below_drew1 | refine below_set ?_ GE304.out) | exact HB.out)⟩⟩
     ·rw [if_neg c52] at H
      have c52b0 : decide (a0_2 < a0_1) = false := decide_eq_false c52
      clear c52
      (first | rw [c52b0] | (simp only [i64_w, i32_w]; rw [c52b0]) | skip)
      by_cases c53 : 0 ≤ a0_1
      ·rw [if_pos c53] at H
       have c53b0 := eq_true c53
       have c53b1 : decide (0 ≤ a0_1) = true := decide_eq_true c53
       clear c53
       by_cases c54 : a0_1 ≤ a0_2
       ·rw [if_pos c54] at H
        have c54b0 := eq_true c54
        have c54b1 : decide (a0_1 ≤ a0_2) = true := decide_eq_true c54
        clear c54
        by_cases c55 : a0_2 ≤ (a1.size : Int)
        ·rw [if_pos c55] at H
         have c55b0 := eq_true c55
         have c55b1 : decide (a0_2 ≤ (a1.size : Int)) = true := decide_eq_true c55
         clear c55
         replace H := Option.bind_eq_some_iff.mp H
         obtain ⟨t325, A560, H⟩ := H
         try dsimp only at H
         have A56 := Aside0.mk A560
         clear A560
         by_cases c57 : t325 = true
         ·subst c57
          rw [if_pos rfl] at H
          replace H := Option.bind_eq_some_iff.mp H
          obtain ⟨t326, A580, H⟩ := H
          try dsimp only at H
          have A58 := Aside0.mk A580
          clear A580
          have H' := Aside0.mk H
          clear H
          go_wp2_with (first | (go_at_call 18; (with_reducible refine (impl_GoodDoc.calls k (a1.extract (a0_1 : Int).toNat (a0_2 : Int).toNat) true _ A56.out).mono ?_); rintro e w59 ⟨rfl, hb⟩; have n0_ := Aside0.mk (blk_below (g := gb304) (o := .cells #[.int .i64 a0_0, .int .i64 a0_1, .int .i64 a0_2, .string a0_3] 29 (0, 0)) z8 hb); have n1_ := Aside0.mk (below_step z15 hb); clear BK304; clear HB; have BK304 := n0_; have HB := n1_; clear n0_ n1_; (try clear hb); (try clear hb2); (try clear hk); (try clear hi); have hcz60_0 : w59.cell? ⟨gb304, 0, none⟩ = some (.int .i64 a0_0) := (blk_cell BK304.out 0).trans rfl; have hcz60_1 : w59.cell? ⟨gb304, 1, none⟩ = some (.int .i64 a0_1) := (blk_cell BK304.out 1).trans rfl; have hcz60_2 : w59.cell? ⟨gb304, 2, none⟩ = some (.int .i64 a0_2) := (blk_cell BK304.out 2).trans rfl; have hcz60_3 : w59.cell? ⟨gb304, 3, none⟩ = some (.string a0_3) := (blk_cell BK304.out 3).trans rfl; have hfz60_0 := blk_frozen BK304.out 0; have hfz60_1 := blk_frozen BK304.out 1; have hfz60_2 := blk_frozen BK304.out 2; have hfz60_3 := blk_frozen BK304.out 3) | (go_at_call 78; (with_reducible refine (impl_isNameText.calls a0_3 t326 _ A58.out).mono ?_); rintro e w' ⟨rfl, ⟨nd, rfl⟩⟩))
          go_meet
          case rel => exact ⟨_, (!t326), z1, H', ⟨by first | omega | exact Nat.le_refl _⟩, ⟨by (with_reducible repeat (first | refine blk_drewN ?_ _ | refine blk_drew ?_ | refine blk_alloc ?_ _)); exact BK304.out⟩, ⟨by repeat (first | (with_reducible first | exact HB.out | apply below_alloc | apply pw_below_drewN | apply below_drew1 | refine below_set ?_ GE304.out) | exact HB.out)⟩⟩
         ·replace c57 := Bool.eq_false_iff.mpr c57
          subst c57
          rw [if_neg (show ¬ (false = true) by decide)] at H
          have H' := Aside0.mk H
          clear H
          go_wp2_with (first | (go_at_call 18; (with_reducible refine (impl_GoodDoc.calls k (a1.extract (a0_1 : Int).toNat (a0_2 : Int).toNat) false _ A56.out).mono ?_); rintro e w61 ⟨rfl, hb⟩; have n0_ := Aside0.mk (blk_below (g := gb304) (o := .cells #[.int .i64 a0_0, .int .i64 a0_1, .int .i64 a0_2, .string a0_3] 29 (0, 0)) z8 hb); have n1_ := Aside0.mk (below_step z15 hb); clear BK304; clear HB; have BK304 := n0_; have HB := n1_; clear n0_ n1_; (try clear hb); (try clear hb2); (try clear hk); (try clear hi)))
          go_meet
          case rel => exact ⟨_, (true), z1, H', ⟨by first | omega | exact Nat.le_refl _⟩, ⟨by (with_reducible repeat (first | refine blk_drewN ?_ _ | refine blk_drew ?_ | refine blk_alloc ?_ _)); exact BK304.out⟩, ⟨by repeat (first | (with_reducible first | exact HB.out | apply below_alloc | apply pw_below_drewN | apply below_drew1 | refine below_set ?_ GE304.out) | exact HB.out)⟩⟩
        ·rw [if_neg c55] at H
         exact absurd H (by simp)
       ·rw [if_neg c54] at H
        exact absurd H (by simp)
      ·rw [if_neg c53] at H
       exact absurd H (by simp)
    case rest =>
     clear HC48
     try clear c2
     try clear p2
     try clear c3
     try clear c3b0
     try clear c3b1
     try clear c4
     try clear c5
     try clear c6
     try clear c6b0
     try clear c6b1
     try clear c7
     try clear c25
     try clear c25b0
     try clear c25b1
     try clear c30
     try clear c30b0
     try clear c31
     try clear c31b0
     try clear c31b1
     try clear c32
     try clear c32b0
     try clear c32b1
     try clear c33
     try clear c33b0
     try clear c33b1
     try clear c36
     try clear c38
     try clear c38b0
     try clear c38b1
     try clear c39
     try clear c39b0
     try clear c39b1
     try clear c40
     try clear c40b0
     try clear c40b1
     try clear c47
     try clear c47b0
     try clear c47b1
     try clear c52
     try clear c52b0
     try clear c53
     try clear c53b0
     try clear c53b1
     try clear c54
     try clear c54b0
     try clear c54b1
     try clear c55
     try clear c55b0
     try clear c55b1
     try clear c56
     try clear c57
     try clear hcz18_0
     try clear hcz18_1
     try clear hcz18_2
     try clear hcz18_3
     try clear hcz29_0
     try clear hcz29_1
     try clear hcz29_2
     try clear hcz29_3
     try clear hcz51_0
     try clear hcz51_1
     try clear hcz51_2
     try clear hcz51_3
     try clear hcz60_0
     try clear hcz60_1
     try clear hcz60_2
     try clear hcz60_3
     try clear hfz18_0
     try clear hfz18_1
     try clear hfz18_2
     try clear hfz18_3
     try clear hfz29_0
     try clear hfz29_1
     try clear hfz29_2
     try clear hfz29_3
     try clear hfz51_0
     try clear hfz51_1
     try clear hfz51_2
     try clear hfz51_3
     try clear hfz60_0
     try clear hfz60_1
     try clear hfz60_2
     try clear hfz60_3
     try clear p2
     obtain ⟨kq, x82_47, rfl, HA, HJ47, BK304, HB⟩ := hcut
     cases kq with
     | zero => exact absurd HA.out (by simp [impl_Command_parts.j1])
     | succ kj47 =>
      have H := HA.out
      clear HA
      simp only [impl_Command_parts.j1] at H
      by_cases c62 : x82_47 = true
      ·subst c62
       rw [if_pos rfl] at H
       simp only [Option.some.injEq, Prod.mk.injEq] at H
       obtain ⟨rfl, rfl⟩ := H
       go_wp2
       go_ret2
       exact ⟨_, by first | rfl | (simp [errW_none, errW_some] <;> rfl) | (simp [*, errW_none, errW_some] <;> rfl), by first | exact Kd.R_nil _ _ _ _ _ | exact Kd.N_nil _ _ _ _ _ | exact Kd.V_nil _ _ _ _ _ | exact Kd.Q_nil _ _ _ _ _ | exact Kd.S_nil _ _ _ _ _, by repeat (first | (with_reducible first | exact HB.out | apply below_alloc | apply pw_below_drewN | apply below_drew1 | refine below_set ?_ GE304.out) | exact HB.out)⟩
      ·replace c62 := Bool.eq_false_iff.mpr c62
       subst c62
       rw [if_neg (show ¬ (false = true) by decide)] at H
       replace H := Option.bind_eq_some_iff.mp H
       obtain ⟨⟨t327, t328, t329⟩, A630, H⟩ := H
       try dsimp only at H
       have A63 := Aside0.mk A630
       clear A630
       replace H := Option.bind_eq_some_iff.mp H
       obtain ⟨⟨t330, t331, t332⟩, A640, H⟩ := H
       try dsimp only at H
       have A64 := Aside0.mk A640
       clear A640
       replace H := Option.bind_eq_some_iff.mp H
       obtain ⟨⟨t333, t334, t335⟩, A650, H⟩ := H
       try dsimp only at H
       have A65 := Aside0.mk A650
       clear A650
       obtain ⟨y336, hy336⟩ : ∃ y_ : List (S61), y_ = (([(⟨t327, t328, t329⟩ : S61), (⟨0, a0_3, (⟨#[]⟩ : ByteArray)⟩ : S61), (⟨t330, t331, t332⟩ : S61), (⟨0, (⟨#[47]⟩ : ByteArray), (⟨#[]⟩ : ByteArray)⟩ : S61), (⟨t333, t334, t335⟩ : S61)] : List (S61))) := ⟨_, rfl⟩
       replace H : (some (y336, true)) = some (r1, r2) := by first | (rw [hy336]; with_reducible exact H) | (have H2_ := (Option.bind_some _ _).symm.trans H; rw [hy336]; with_reducible exact H2_) | (have H2_ := (Option.bind_some _ _).symm.trans H; with_reducible exact H2_) | with_reducible exact H | (rw [hy336]; exact H) | exact H
       have Ny336 := Aside0.mk hy336
       clear hy336
       simp only [Option.some.injEq, Prod.mk.injEq] at H
       obtain ⟨rfl, rfl⟩ := H
       try go_wp2
       have n0_ := Aside0.mk (blk_drew BK304.out)
       have n1_ := Aside0.mk (below_drew1 HB.out)
       clear BK304
       clear HB
       have BK304 := n0_
       have HB := n1_
       clear n0_ n1_
       refine start_ (n := 15) (S := fun w' => w'.cell? ⟨gb304, 0, none⟩ = some (.int .i64 a0_0) ∧ w'.cell? ⟨gb304, 1, none⟩ = some (.int .i64 a0_1) ∧ w'.cell? ⟨gb304, 2, none⟩ = some (.int .i64 a0_2) ∧ w'.cell? ⟨gb304, 3, none⟩ = some (.string a0_3)) (ds := []) #[false, false, false, false, false, false, false, false, false, false, false, false, false, false, false] z0 rfl rfl ⟨(blk_cell BK304.out 0).trans rfl, (blk_cell BK304.out 1).trans rfl, (blk_cell BK304.out 2).trans rfl, (blk_cell BK304.out 3).trans rfl⟩ (fun hHeld => ?_); refine with_tabW impl_Command_parts.tab13 impl_Command_parts.bits13 (fun HT_ HW_ => ?_)
       generalize wc.drew = w66 at BK304 HB hHeld ⊢
       refine pA 0 83 ?_
       refine pA 2 85 ?_
       refine pA 5 88 ?_
       refine pA 6 89 ?_
       refine pA 8 91 ?_
       refine pA 9 92 ?_
       refine pA 10 93 ?_
       refine tA 3 86 ?_ (hy := by rintro w' ⟨s0, s1, s2, s3⟩; go_simp; with_reducible rfl)
       refine pA 4 87 ?_
       refine one_ (i := 1) (N := some 84) #[true, true, true, true, true, true, true, false, true, true, true, false, false, false, false] rfl rfl (one_of HT_.out z0) (by decide) (fun K hK => ?_)
       refine goes_ Try.func77 z0 rfl #[.int .i64 0, .int .i64 a0_1] (by rfl) rfl rfl z12 ?_
       with_reducible refine (impl_keepTo.calls 0 a0_1 t327 t328 t329 _ A63.out).mono ?_
       rintro e w67 ⟨rfl, hb⟩
       refine ⟨_, rfl, ?_⟩
       have n0_ := Aside0.mk (blk_below (g := gb304) (o := .cells #[.int .i64 a0_0, .int .i64 a0_1, .int .i64 a0_2, .string a0_3] 29 (0, 0)) z8 hb)
       have n1_ := Aside0.mk (below_step z15 hb)
       clear BK304
       clear HB
       have BK304 := n0_
       have HB := n1_
       clear n0_ n1_
       (try clear hb)
       (try clear hb2)
       (try clear hk)
       (try clear hi)
       refine hK.out _ _ ⟨(blk_cell BK304.out 0).trans rfl, (blk_cell BK304.out 1).trans rfl, (blk_cell BK304.out 2).trans rfl, (blk_cell BK304.out 3).trans rfl⟩ (fun hHeld => ?_)
       clear hK K
       refine norm_ (a' := ?_) ?_ ?_
       rotate_left
       ·show Act.put _ (some 84) _ = _
        simp only [Act.put, List.setIfInBounds_toArray, List.set_cons_zero, List.set_cons_succ, i64_w, i32_w]
        rfl
       refine one_ (i := 7) (N := some 90) #[true, true, true, true, true, true, true, true, true, true, true, false, false, false, false] rfl rfl (one_of HT_.out z0) (by decide) (fun K hK => ?_)
       refine goes_ Try.func77 z0 rfl #[.int .i64 a0_1, .int .i64 a0_2] (by rfl) rfl rfl z12 ?_
       with_reducible refine (impl_keepTo.calls a0_1 a0_2 t330 t331 t332 _ A64.out).mono ?_
       rintro e w68 ⟨rfl, hb⟩
       refine ⟨_, rfl, ?_⟩
       have n0_ := Aside0.mk (blk_below (g := gb304) (o := .cells #[.int .i64 a0_0, .int .i64 a0_1, .int .i64 a0_2, .string a0_3] 29 (0, 0)) z8 hb)
       have n1_ := Aside0.mk (below_step z15 hb)
       clear BK304
       clear HB
       have BK304 := n0_
       have HB := n1_
       clear n0_ n1_
       (try clear hb)
       (try clear hb2)
       (try clear hk)
       (try clear hi)
       refine hK.out _ _ ⟨(blk_cell BK304.out 0).trans rfl, (blk_cell BK304.out 1).trans rfl, (blk_cell BK304.out 2).trans rfl, (blk_cell BK304.out 3).trans rfl⟩ (fun hHeld => ?_)
       clear hK K
       refine norm_ (a' := ?_) ?_ ?_
       rotate_left
       ·show Act.put _ (some 90) _ = _
        simp only [Act.put, List.setIfInBounds_toArray, List.set_cons_zero, List.set_cons_succ, i64_w, i32_w]
        rfl
       refine one_ (i := 11) (N := some 94) #[true, true, true, true, true, true, true, true, true, true, true, true, false, false, false] rfl rfl (one_of HT_.out z0) (by decide) (fun K hK => ?_)
       refine goes_ Try.func77 z0 rfl #[.int .i64 a0_2, .int .i64 (a1.size : Int)] (by rfl) rfl rfl z12 ?_
       with_reducible refine (impl_keepTo.calls a0_2 (a1.size : Int) t333 t334 t335 _ A65.out).mono ?_
       rintro e w69 ⟨rfl, hb⟩
       refine ⟨_, rfl, ?_⟩
       have n0_ := Aside0.mk (blk_below (g := gb304) (o := .cells #[.int .i64 a0_0, .int .i64 a0_1, .int .i64 a0_2, .string a0_3] 29 (0, 0)) z8 hb)
       have n1_ := Aside0.mk (below_step z15 hb)
       clear BK304
       clear HB
       have BK304 := n0_
       have HB := n1_
       clear n0_ n1_
       (try clear hb)
       (try clear hb2)
       (try clear hk)
       (try clear hi)
       refine hK.out _ _ ⟨(blk_cell BK304.out 0).trans rfl, (blk_cell BK304.out 1).trans rfl, (blk_cell BK304.out 2).trans rfl, (blk_cell BK304.out 3).trans rfl⟩ (fun hHeld => ?_)
       clear hK K
       refine norm_ (a' := ?_) ?_ ?_
       rotate_left
       ·show Act.put _ (some 94) _ = _
        simp only [Act.put, List.setIfInBounds_toArray, List.set_cons_zero, List.set_cons_succ, i64_w, i32_w]
        rfl
       refine one_ (i := 12) (N := some 95) #[true, true, true, true, true, true, true, true, true, true, true, true, true, false, false] rfl rfl (one_of HT_.out z0) (by decide) (fun K hK => ?_)
       refine Kd.R_lit_step k61 _ 61 ?hg (N := 95) ?hd (xs := ([(⟨t327, t328, t329⟩ : S61), (⟨0, a0_3, (⟨#[]⟩ : ByteArray)⟩ : S61), (⟨t330, t331, t332⟩ : S61), (⟨0, (⟨#[47]⟩ : ByteArray), (⟨#[]⟩ : ByteArray)⟩ : S61), (⟨t333, t334, t335⟩ : S61)] : List (S61))) (inner := [.int .i64 t327, .string t328, .string t329, .int .i64 0, .string a0_3, .string (⟨#[]⟩ : ByteArray), .int .i64 t330, .string t331, .string t332, .int .i64 0, .string (⟨#[47]⟩ : ByteArray), .string (⟨#[]⟩ : ByteArray), .int .i64 t333, .string t334, .string t335]) (ok := fun _ => True) (okp := fun _ => True) ?hr ?hp (fun _ hk => hk) trivial (Below.refl _ _) (Nat.le_refl _) (by simp) ?_; (case hd => rfl); (case hg => rfl); (case hr => first | (go_simp; done) | (go_simp; rfl)); (case hp => exact (Reps.c3 (show Kd.M k61 _ _ _ (⟨t327, t328, t329⟩ : S61) [.int .i64 t327, .string t328, .string t329] from (k61_mkM _ _ _ (⟨t327, t328, t329⟩ : S61) )) (Reps.c3 (show Kd.M k61 _ _ _ (⟨0, a0_3, (⟨#[]⟩ : ByteArray)⟩ : S61) [.int .i64 0, .string a0_3, .string (⟨#[]⟩ : ByteArray)] from (k61_mkM _ _ _ (⟨0, a0_3, (⟨#[]⟩ : ByteArray)⟩ : S61) )) (Reps.c3 (show Kd.M k61 _ _ _ (⟨t330, t331, t332⟩ : S61) [.int .i64 t330, .string t331, .string t332] from (k61_mkM _ _ _ (⟨t330, t331, t332⟩ : S61) )) (Reps.c3 (show Kd.M k61 _ _ _ (⟨0, (⟨#[47]⟩ : ByteArray), (⟨#[]⟩ : ByteArray)⟩ : S61) [.int .i64 0, .string (⟨#[47]⟩ : ByteArray), .string (⟨#[]⟩ : ByteArray)] from (k61_mkM _ _ _ (⟨0, (⟨#[47]⟩ : ByteArray), (⟨#[]⟩ : ByteArray)⟩ : S61) )) (Reps.c3 (show Kd.M k61 _ _ _ (⟨t333, t334, t335⟩ : S61) [.int .i64 t333, .string t334, .string t335] from (k61_mkM _ _ _ (⟨t333, t334, t335⟩ : S61) )) (Reps.none _ _)))))))
       intro v337 w70 ho71 hb hg_ hnew_
       clear hg_ hnew_
       (first | rw [← Ny336.out] at ho71 | (simp only [Int.reduceToNat] at ho71; rw [← Ny336.out] at ho71))
       have n0_ := Aside0.mk (Kd.R_lower ho71 (below_size z15))
       have n1_ := Aside0.mk (blk_below (g := gb304) (o := .cells #[.int .i64 a0_0, .int .i64 a0_1, .int .i64 a0_2, .string a0_3] 29 (0, 0)) z8 hb)
       have n2_ := Aside0.mk (below_step z15 hb)
       clear BK304
       clear HB
       have HO338 := n0_
       have BK304 := n1_
       have HB := n2_
       clear n0_ n1_ n2_
       clear hb ho71
       refine hK.out _ _ ⟨(blk_cell BK304.out 0).trans rfl, (blk_cell BK304.out 1).trans rfl, (blk_cell BK304.out 2).trans rfl, (blk_cell BK304.out 3).trans rfl⟩ (fun hHeld => ?_)
       clear hK K
       refine norm_ (a' := ?_) ?_ ?_
       rotate_left
       ·show Act.put _ (some 95) _ = _
        simp only [Act.put, List.setIfInBounds_toArray, List.set_cons_zero, List.set_cons_succ, i64_w, i32_w]
        rfl
       refine pA 13 4 ?_
       refine pA 14 5 ?_
       refine done_ (done_of HT_.out z0) ?_
       try go_wp2
       go_ret2
       exact ⟨_, by first | rfl | (simp [errW_none, errW_some] <;> rfl) | (simp [*, errW_none, errW_some] <;> rfl), by (with_reducible repeat (first | apply Kd.R_alloc | apply Kd.R_drewN | apply Kd.R_drew)); exact HO338.out, by repeat (first | (with_reducible first | exact HB.out | apply below_alloc | apply pw_below_drewN | apply below_drew1 | refine below_set ?_ GE304.out) | exact HB.out)⟩
   ·rw [if_neg c47] at H
    have c47b0 : (a0_0 == 3) = false := beq_eq_false_iff_ne.mpr c47
    have c47b1 : (a0_0 != 3) = true := bne_iff_ne.mpr c47
    by_cases c72 : a0_0 = 5
    ·rw [if_pos c72] at H
     have c72b0 : (a0_0 == 5) = true := beq_iff_eq.mpr c72
     have c72b1 : (a0_0 != 5) = false := bne_eq_false_iff_eq.mpr c72
     clear c72
     replace H := Option.bind_eq_some_iff.mp H
     obtain ⟨t339, A730, H⟩ := H
     try dsimp only at H
     have A73 := Aside0.mk A730
     clear A730
     by_cases c74 : (t339.length : Int) = 0
     ·rw [if_pos c74] at H
      have c74b0 : ((t339.length : Int) == 0) = true := beq_iff_eq.mpr c74
      have c74b1 : ((t339.length : Int) != 0) = false := bne_eq_false_iff_eq.mpr c74
      clear c74
      simp only [Option.some.injEq, Prod.mk.injEq] at H
      obtain ⟨rfl, rfl⟩ := H
      go_enter Try.func56, Try.ntmps56
      try go_wp2_with (first | ((with_reducible refine gate_dst (N := 2) rfl ?_); refine box_event ?hg (N := 2) ?hd (cs := #[.int .i64 a0_0, .int .i64 a0_1, .int .i64 a0_2, .string a0_3]) (t := 29) ?hr ?_; (case hd => rfl); (case hg => rfl); (case hr => first | (go_simp; done) | (go_simp; rfl)); intro gb304 hg w75 hbox hb; have n0_ := Aside0.mk (below_step z11 hb); have n1_ := Aside0.mk (hbox); have n2_ := Aside0.mk ((by rw [hg]; exact (below_size z11) : w.heap.size ≤ gb304)); have n3_ := Aside0.mk ((by rw [hg]; exact (below_size z11) : w.heap.size ≤ gb304)); clear HB; have HB := n0_; have BK304 := n1_; have GW304 := n2_; have GE304 := n3_; clear n0_ n1_ n2_ n3_; clear hb hbox hg))
      have n0_ := Aside0.mk (blk_drew BK304.out)
      have n1_ := Aside0.mk (below_drew1 HB.out)
      clear BK304
      clear HB
      have BK304 := n0_
      have HB := n1_
      clear n0_ n1_
      refine start_ (n := 6) (S := fun w' => w'.cell? ⟨gb304, 0, none⟩ = some (.int .i64 a0_0) ∧ w'.cell? ⟨gb304, 1, none⟩ = some (.int .i64 a0_1) ∧ w'.cell? ⟨gb304, 2, none⟩ = some (.int .i64 a0_2) ∧ w'.cell? ⟨gb304, 3, none⟩ = some (.string a0_3)) (ds := []) #[false, false, false, false, false, false] z0 rfl rfl ⟨(blk_cell BK304.out 0).trans rfl, (blk_cell BK304.out 1).trans rfl, (blk_cell BK304.out 2).trans rfl, (blk_cell BK304.out 3).trans rfl⟩ (fun hHeld => ?_)
      generalize w75.drew = w76 at BK304 HB hHeld ⊢
      refine pA 0 15 ?_
      refine pA 2 17 ?_
      refine tA 1 16 ?_ (hy := by rintro w' ⟨s0, s1, s2, s3⟩; go_simp; with_reducible rfl)
      refine pA 4 7 ?_
      refine tA 3 18 ?_ (hy := by rintro w' ⟨s0, s1, s2, s3⟩; go_simp; with_reducible rfl)
      refine pA 5 8 ?_
      refine done_ z0 ?_
      have hcz77_0 : w76.cell? ⟨gb304, 0, none⟩ = some (.int .i64 a0_0) := (blk_cell BK304.out 0).trans rfl
      have hcz77_1 : w76.cell? ⟨gb304, 1, none⟩ = some (.int .i64 a0_1) := (blk_cell BK304.out 1).trans rfl
      have hcz77_2 : w76.cell? ⟨gb304, 2, none⟩ = some (.int .i64 a0_2) := (blk_cell BK304.out 2).trans rfl
      have hcz77_3 : w76.cell? ⟨gb304, 3, none⟩ = some (.string a0_3) := (blk_cell BK304.out 3).trans rfl
      have hfz77_0 := blk_frozen BK304.out 0
      have hfz77_1 := blk_frozen BK304.out 1
      have hfz77_2 := blk_frozen BK304.out 2
      have hfz77_3 := blk_frozen BK304.out 3
      try go_wp2_with (first | ((with_reducible refine gate_callee (f := 79) rfl ?_); refine goesL_ (some 100) rfl rfl Try.func79 z0 rfl #[.string a1, .int .i64 a0_1] rfl z12 ?_; (with_reducible refine (impl_around.calls k a1 a0_1 t339 _ A73.out).mono ?_); rintro e w78 ⟨v340, rfl, ho0, hb⟩; refine ⟨_, rfl, ?_⟩; have n0_ := Aside0.mk (Kd.R_lower ho0 (below_size z15)); have n1_ := Aside0.mk (blk_below (g := gb304) (o := .cells #[.int .i64 a0_0, .int .i64 a0_1, .int .i64 a0_2, .string a0_3] 29 (0, 0)) z8 hb); have n2_ := Aside0.mk (below_step z15 hb); clear BK304; clear HB; have HO341 := n0_; have BK304 := n1_; have HB := n2_; clear n0_ n1_ n2_; (try clear hb); (try clear hb2); (try clear hk); (try clear hi); (try clear ho0); obtain ⟨Ao79, co79, eo79⟩ := Kd.R_slice HO341.out; subst eo79))
      go_ret2
      exact ⟨_, by first | rfl | (simp [errW_none, errW_some] <;> rfl) | (simp [*, errW_none, errW_some] <;> rfl), by first | exact Kd.R_nil _ _ _ _ _ | exact Kd.N_nil _ _ _ _ _ | exact Kd.V_nil _ _ _ _ _ | exact Kd.Q_nil _ _ _ _ _ | exact Kd.S_nil _ _ _ _ _, by repeat (first | (with_reducible first | exact HB.out | apply below_alloc | apply pw_below_drewN | apply below_drew1 | refine below_set ?_ GE304.out) | exact HB.out)⟩
     ·rw [if_neg c74] at H
      have c74b0 : ((t339.length : Int) == 0) = false := beq_eq_false_iff_ne.mpr c74
      have c74b1 : ((t339.length : Int) != 0) = true := bne_iff_ne.mpr c74
      have c74b2 : ¬ (t339 = []) := fun h_ => c74 (by rw [h_]; rfl)
      obtain ⟨ji80, hji80⟩ : ∃ j_ : Int, (wrap64 ((t339.length : Int) - 1)) = j_ := ⟨_, rfl⟩
      replace H : (if 0 ≤ (ji80) then (if (ji80) < (t339.length : Int) then ((impl_keepTo.f 0 a0_1).bind fun bt343 => (if 0 ≤ (rd t339 (ji80)) then (if (rd t339 (ji80)) ≤ (wrap64 ((rd t339 (ji80)) + 1)) then (if (wrap64 ((rd t339 (ji80)) + 1)) ≤ (a1.size : Int) then (if 1 + (a1.extract ((rd t339 (ji80)) : Int).toNat ((wrap64 ((rd t339 (ji80)) + 1)) : Int).toNat).size ≤ 9223372036854775807 then ((impl_keepTo.f a0_1 (a1.size : Int)).bind fun bt346 => (some ((([(⟨bt343.1, bt343.2.1, bt343.2.2⟩ : S61), (⟨0, (⟨#[47]⟩ : ByteArray) ++ (a1.extract ((rd t339 (ji80)) : Int).toNat ((wrap64 ((rd t339 (ji80)) + 1)) : Int).toNat), (⟨#[]⟩ : ByteArray)⟩ : S61), (⟨bt346.1, bt346.2.1, bt346.2.2⟩ : S61)] : List (S61))), true))) else (none)) else (none)) else (none)) else (none))) else (none)) else (none)) = some (r1, r2) := by first | (rw [hji80] at H; exact H) | (simp only [hji80] at H ⊢; exact H)
      (try rw [hji80] at A73)
      have hji80w : (IntKind.i64.wrap ((t339.length : Int) - 1)) = ji80 := (i64_w _).trans hji80
      by_cases c81 : 0 ≤ (ji80)
      ·rw [if_pos c81] at H
       have c81b0 : decide (0 ≤ (ji80)) = true := decide_eq_true c81
       clear c81
       by_cases c82 : (ji80) < (t339.length : Int)
       ·rw [if_pos c82] at H
        have c82b0 : decide ((ji80) < (t339.length : Int)) = true := decide_eq_true c82
        clear c82
        replace H := Option.bind_eq_some_iff.mp H
        obtain ⟨⟨t343, t344, t345⟩, A830, H⟩ := H
        try dsimp only at H
        have A83 := Aside0.mk A830
        clear A830
        by_cases c84 : 0 ≤ (rd t339 (ji80))
        ·rw [if_pos c84] at H
         have c84b0 := eq_true c84
         have c84b1 : decide (0 ≤ (rd t339 (ji80))) = true := decide_eq_true c84
         clear c84
         by_cases c85 : (rd t339 (ji80)) ≤ (wrap64 ((rd t339 (ji80)) + 1))
         ·rw [if_pos c85] at H
          have c85b0 := eq_true c85
          have c85b1 : decide ((rd t339 (ji80)) ≤ (wrap64 ((rd t339 (ji80)) + 1))) = true := decide_eq_true c85
          by_cases c86 : (wrap64 ((rd t339 (ji80)) + 1)) ≤ (a1.size : Int)
          ·rw [if_pos c86] at H
           have c86b0 := eq_true c86
           have c86b1 : decide ((wrap64 ((rd t339 (ji80)) + 1)) ≤ (a1.size : Int)) = true := decide_eq_true c86
           by_cases c87 : 1 + (a1.extract ((rd t339 (ji80)) : Int).toNat ((wrap64 ((rd t339 (ji80)) + 1)) : Int).toNat).size ≤ 9223372036854775807
           ·rw [if_pos c87] at H
            have c87b0 := eq_true c87
            have c87b1 : decide (1 + (a1.extract ((rd t339 (ji80)) : Int).toNat ((wrap64 ((rd t339 (ji80)) + 1)) : Int).toNat).size ≤ 9223372036854775807) = true := decide_eq_true c87
            try have c87b2 : (9223372036854775807 < 1 + (a1.extract ((rd t339 (ji80)) : Int).toNat ((wrap64 ((rd t339 (ji80)) + 1)) : Int).toNat).size) = False := eq_false (Nat.not_lt.2 c87)
            (try (have c87x : (9223372036854775807 < 1 + ((wrap64 ((rd t339 (ji80)) + 1)).toNat - (rd t339 (ji80)).toNat)) = False := eq_false (fun h_ => by have e_ := of_eq_true c87b0; simp only [ByteArray.size_extract, ByteArray.size_append] at e_; have f0_ : (wrap64 ((rd t339 (ji80)) + 1)) ≤ (a1.size : Int) := (by first | assumption | exact of_eq_true (by assumption) | exact of_decide_eq_true (by assumption)); omega)))
            replace H := Option.bind_eq_some_iff.mp H
            obtain ⟨⟨t346, t347, t348⟩, A880, H⟩ := H
            try dsimp only at H
            have A88 := Aside0.mk A880
            clear A880
            obtain ⟨y349, hy349⟩ : ∃ y_ : List (S61), y_ = (([(⟨t343, t344, t345⟩ : S61), (⟨0, (⟨#[47]⟩ : ByteArray) ++ (a1.extract ((rd t339 (ji80)) : Int).toNat ((wrap64 ((rd t339 (ji80)) + 1)) : Int).toNat), (⟨#[]⟩ : ByteArray)⟩ : S61), (⟨t346, t347, t348⟩ : S61)] : List (S61))) := ⟨_, rfl⟩
            replace H : (some (y349, true)) = some (r1, r2) := by first | (rw [hy349]; with_reducible exact H) | (have H2_ := (Option.bind_some _ _).symm.trans H; rw [hy349]; with_reducible exact H2_) | (have H2_ := (Option.bind_some _ _).symm.trans H; with_reducible exact H2_) | with_reducible exact H | (rw [hy349]; exact H) | exact H
            have Ny349 := Aside0.mk hy349
            clear hy349
            simp only [Option.some.injEq, Prod.mk.injEq] at H
            obtain ⟨rfl, rfl⟩ := H
            go_enter Try.func56, Try.ntmps56
            try go_wp2_with (first | ((with_reducible refine gate_dst (N := 2) rfl ?_); refine box_event ?hg (N := 2) ?hd (cs := #[.int .i64 a0_0, .int .i64 a0_1, .int .i64 a0_2, .string a0_3]) (t := 29) ?hr ?_; (case hd => rfl); (case hg => rfl); (case hr => first | (go_simp; done) | (go_simp; rfl)); intro gb304 hg w89 hbox hb; have n0_ := Aside0.mk (below_step z11 hb); have n1_ := Aside0.mk (hbox); have n2_ := Aside0.mk ((by rw [hg]; exact (below_size z11) : w.heap.size ≤ gb304)); have n3_ := Aside0.mk ((by rw [hg]; exact (below_size z11) : w.heap.size ≤ gb304)); clear HB; have HB := n0_; have BK304 := n1_; have GW304 := n2_; have GE304 := n3_; clear n0_ n1_ n2_ n3_; clear hb hbox hg))
            have n0_ := Aside0.mk (blk_drew BK304.out)
            have n1_ := Aside0.mk (below_drew1 HB.out)
            clear BK304
            clear HB
            have BK304 := n0_
            have HB := n1_
            clear n0_ n1_
            refine start_ (n := 6) (S := fun w' => w'.cell? ⟨gb304, 0, none⟩ = some (.int .i64 a0_0) ∧ w'.cell? ⟨gb304, 1, none⟩ = some (.int .i64 a0_1) ∧ w'.cell? ⟨gb304, 2, none⟩ = some (.int .i64 a0_2) ∧ w'.cell? ⟨gb304, 3, none⟩ = some (.string a0_3)) (ds := []) #[false, false, false, false, false, false] z0 rfl rfl ⟨(blk_cell BK304.out 0).trans rfl, (blk_cell BK304.out 1).trans rfl, (blk_cell BK304.out 2).trans rfl, (blk_cell BK304.out 3).trans rfl⟩ (fun hHeld => ?_)
            generalize w89.drew = w90 at BK304 HB hHeld ⊢
            refine pA 0 15 ?_
            refine pA 2 17 ?_
            refine tA 1 16 ?_ (hy := by rintro w' ⟨s0, s1, s2, s3⟩; go_simp; with_reducible rfl)
            refine pA 4 7 ?_
            refine tA 3 18 ?_ (hy := by rintro w' ⟨s0, s1, s2, s3⟩; go_simp; with_reducible rfl)
            refine pA 5 8 ?_
            refine done_ z0 ?_
            have hcz91_0 : w90.cell? ⟨gb304, 0, none⟩ = some (.int .i64 a0_0) := (blk_cell BK304.out 0).trans rfl
            have hcz91_1 : w90.cell? ⟨gb304, 1, none⟩ = some (.int .i64 a0_1) := (blk_cell BK304.out 1).trans rfl
            have hcz91_2 : w90.cell? ⟨gb304, 2, none⟩ = some (.int .i64 a0_2) := (blk_cell BK304.out 2).trans rfl
            have hcz91_3 : w90.cell? ⟨gb304, 3, none⟩ = some (.string a0_3) := (blk_cell BK304.out 3).trans rfl
            have hfz91_0 := blk_frozen BK304.out 0
            have hfz91_1 := blk_frozen BK304.out 1
            have hfz91_2 := blk_frozen BK304.out 2
            have hfz91_3 := blk_frozen BK304.out 3
            try go_wp2_with (first | ((with_reducible refine gate_callee (f := 79) rfl ?_); refine goesL_ (some 100) rfl rfl Try.func79 z0 rfl #[.string a1, .int .i64 a0_1] rfl z12 ?_; (with_reducible refine (impl_around.calls k a1 a0_1 t339 _ A73.out).mono ?_); rintro e w92 ⟨v340, rfl, ho0, hb⟩; refine ⟨_, rfl, ?_⟩; have n0_ := Aside0.mk (Kd.R_lower ho0 (below_size z15)); have n1_ := Aside0.mk (blk_below (g := gb304) (o := .cells #[.int .i64 a0_0, .int .i64 a0_1, .int .i64 a0_2, .string a0_3] 29 (0, 0)) z8 hb); have n2_ := Aside0.mk (below_step z15 hb); clear BK304; clear HB; have HO341 := n0_; have BK304 := n1_; have HB := n2_; clear n0_ n1_ n2_; (try clear hb); (try clear hb2); (try clear hk); (try clear hi); (try clear ho0); obtain ⟨Ao93, co93, eo93⟩ := Kd.R_slice HO341.out; subst eo93; have p342 : 0 ≤ ((ji80) : Int) := of_decide_eq_true z2; have q342 : (ji80) < (t339.length : Int) := of_decide_eq_true z2; obtain ⟨ad342, e342, hx342_0⟩ := Kd.at_int (Kd.R_reads' HO341.out).2.2 (ji80) p342 q342; cases e342; replace p342 := eq_true p342; replace q342 := eq_true q342))
            have n0_ := Aside0.mk (Kd.R_drew HO341.out)
            have n1_ := Aside0.mk (blk_drew BK304.out)
            have n2_ := Aside0.mk (below_drew1 HB.out)
            clear HO341
            clear BK304
            clear HB
            have HO341 := n0_
            have BK304 := n1_
            have HB := n2_
            clear n0_ n1_ n2_
            refine start_ (n := 15) (S := fun w' => True) (ds := []) #[false, false, false, false, false, false, false, false, false, false, false, false, false, false, false] z0 rfl rfl trivial (fun hHeld => ?_); refine with_tabW impl_Command_parts.tab19 impl_Command_parts.bits19 (fun HT_ HW_ => ?_)
            generalize w92.drew = w94 at HO341 BK304 HB hHeld ⊢
            refine pA 0 110 ?_
            refine pA 2 112 ?_
            refine pA 3 113 ?_
            refine pA 4 114 ?_
            refine pA 5 115 ?_
            refine pA 6 116 ?_
            refine pA 7 117 ?_
            refine pA 8 118 ?_
            refine pA 9 119 ?_
            refine pA 10 120 ?_
            refine one_ (i := 1) (N := some 111) #[true, true, true, true, true, true, true, true, true, true, true, false, false, false, false] rfl rfl (one_of HT_.out z0) (by decide) (fun K hK => ?_)
            refine goes_ Try.func77 z0 rfl #[.int .i64 0, .int .i64 a0_1] (by rfl) rfl rfl z12 ?_
            with_reducible refine (impl_keepTo.calls 0 a0_1 t343 t344 t345 _ A83.out).mono ?_
            rintro e w95 ⟨rfl, hb⟩
            refine ⟨_, rfl, ?_⟩
            have n0_ := Aside0.mk (Kd.R_below (by (with_reducible repeat (first | apply Kd.R_alloc | apply Kd.R_drewN | apply Kd.R_drew)); exact HO341.out) hb)
            have n1_ := Aside0.mk (blk_below (g := gb304) (o := .cells #[.int .i64 a0_0, .int .i64 a0_1, .int .i64 a0_2, .string a0_3] 29 (0, 0)) z8 hb)
            have n2_ := Aside0.mk (below_step z15 hb)
            clear HO341
            clear BK304
            clear HB
            have HO341 := n0_
            have BK304 := n1_
            have HB := n2_
            clear n0_ n1_ n2_
            (try clear hb)
            (try clear hb2)
            (try clear hk)
            (try clear hi)
            refine hK.out _ _ trivial (fun hHeld => ?_)
            clear hK K
            refine norm_ (a' := ?_) ?_ ?_
            rotate_left
            ·show Act.put _ (some 111) _ = _
             simp only [Act.put, List.setIfInBounds_toArray, List.set_cons_zero, List.set_cons_succ, i64_w, i32_w]
             rfl
            refine one_ (i := 11) (N := some 121) #[true, true, true, true, true, true, true, true, true, true, true, true, false, false, false] rfl rfl (one_of HT_.out z0) (by decide) (fun K hK => ?_)
            refine goes_ Try.func77 z0 rfl #[.int .i64 a0_1, .int .i64 (a1.size : Int)] (by rfl) rfl rfl z12 ?_
            with_reducible refine (impl_keepTo.calls a0_1 (a1.size : Int) t346 t347 t348 _ A88.out).mono ?_
            rintro e w96 ⟨rfl, hb⟩
            refine ⟨_, rfl, ?_⟩
            have n0_ := Aside0.mk (Kd.R_below (by (with_reducible repeat (first | apply Kd.R_alloc | apply Kd.R_drewN | apply Kd.R_drew)); exact HO341.out) hb)
            have n1_ := Aside0.mk (blk_below (g := gb304) (o := .cells #[.int .i64 a0_0, .int .i64 a0_1, .int .i64 a0_2, .string a0_3] 29 (0, 0)) z8 hb)
            have n2_ := Aside0.mk (below_step z15 hb)
            clear HO341
            clear BK304
            clear HB
            have HO341 := n0_
            have BK304 := n1_
            have HB := n2_
            clear n0_ n1_ n2_
            (try clear hb)
            (try clear hb2)
            (try clear hk)
            (try clear hi)
            refine hK.out _ _ trivial (fun hHeld => ?_)
            clear hK K
            refine norm_ (a' := ?_) ?_ ?_
            rotate_left
            ·show Act.put _ (some 121) _ = _
             simp only [Act.put, List.setIfInBounds_toArray, List.set_cons_zero, List.set_cons_succ, i64_w, i32_w]
             rfl
            refine one_ (i := 12) (N := some 122) #[true, true, true, true, true, true, true, true, true, true, true, true, true, false, false] rfl rfl (one_of HT_.out z0) (by decide) (fun K hK => ?_)
            refine Kd.R_lit_step k61 _ 61 ?hg (N := 122) ?hd (xs := ([(⟨t343, t344, t345⟩ : S61), (⟨0, (⟨#[47]⟩ : ByteArray) ++ (a1.extract ((rd t339 (ji80)) : Int).toNat ((wrap64 ((rd t339 (ji80)) + 1)) : Int).toNat), (⟨#[]⟩ : ByteArray)⟩ : S61), (⟨t346, t347, t348⟩ : S61)] : List (S61))) (inner := [.int .i64 t343, .string t344, .string t345, .int .i64 0, .string ((⟨#[47]⟩ : ByteArray) ++ (a1.extract ((rd t339 (ji80)) : Int).toNat ((wrap64 ((rd t339 (ji80)) + 1)) : Int).toNat)), .string (⟨#[]⟩ : ByteArray), .int .i64 t346, .string t347, .string t348]) (ok := fun _ => True) (okp := fun _ => True) ?hr ?hp (fun _ hk => hk) trivial (Below.refl _ _) (Nat.le_refl _) (by simp) ?_; (case hd => rfl); (case hg => rfl); (case hr => first | (go_simp; done) | (go_simp; rfl)); (case hp => exact (Reps.c3 (show Kd.M k61 _ _ _ (⟨t343, t344, t345⟩ : S61) [.int .i64 t343, .string t344, .string t345] from (k61_mkM _ _ _ (⟨t343, t344, t345⟩ : S61) )) (Reps.c3 (show Kd.M k61 _ _ _ (⟨0, (⟨#[47]⟩ : ByteArray) ++ (a1.extract ((rd t339 (ji80)) : Int).toNat ((wrap64 ((rd t339 (ji80)) + 1)) : Int).toNat), (⟨#[]⟩ : ByteArray)⟩ : S61) [.int .i64 0, .string ((⟨#[47]⟩ : ByteArray) ++ (a1.extract ((rd t339 (ji80)) : Int).toNat ((wrap64 ((rd t339 (ji80)) + 1)) : Int).toNat)), .string (⟨#[]⟩ : ByteArray)] from (k61_mkM _ _ _ (⟨0, (⟨#[47]⟩ : ByteArray) ++ (a1.extract ((rd t339 (ji80)) : Int).toNat ((wrap64 ((rd t339 (ji80)) + 1)) : Int).toNat), (⟨#[]⟩ : ByteArray)⟩ : S61) )) (Reps.c3 (show Kd.M k61 _ _ _ (⟨t346, t347, t348⟩ : S61) [.int .i64 t346, .string t347, .string t348] from (k61_mkM _ _ _ (⟨t346, t347, t348⟩ : S61) )) (Reps.none _ _)))))
            intro v350 w97 ho98 hb hg_ hnew_
            clear hg_ hnew_
            (first | rw [← Ny349.out] at ho98 | (simp only [Int.reduceToNat] at ho98; rw [← Ny349.out] at ho98))
            have n0_ := Aside0.mk (Kd.R_below (by (with_reducible repeat (first | apply Kd.R_alloc | apply Kd.R_drewN | apply Kd.R_drew)); exact HO341.out) hb)
            have n1_ := Aside0.mk (Kd.R_lower ho98 (below_size z15))
            have n2_ := Aside0.mk (blk_below (g := gb304) (o := .cells #[.int .i64 a0_0, .int .i64 a0_1, .int .i64 a0_2, .string a0_3] 29 (0, 0)) z8 hb)
            have n3_ := Aside0.mk (below_step z15 hb)
            clear HO341
            clear BK304
            clear HB
            have HO341 := n0_
            have HO351 := n1_
            have BK304 := n2_
            have HB := n3_
            clear n0_ n1_ n2_ n3_
            clear hb ho98
            refine hK.out _ _ trivial (fun hHeld => ?_)
            clear hK K
            refine norm_ (a' := ?_) ?_ ?_
            rotate_left
            ·show Act.put _ (some 122) _ = _
             simp only [Act.put, List.setIfInBounds_toArray, List.set_cons_zero, List.set_cons_succ, i64_w, i32_w]
             rfl
            refine pA 13 4 ?_
            refine pA 14 5 ?_
            refine done_ (done_of HT_.out z0) ?_
            try go_wp2
            go_ret2
            exact ⟨_, by first | rfl | (simp [errW_none, errW_some] <;> rfl) | (simp only [← hji80]; first | rfl | (simp [errW_none, errW_some] <;> rfl)) | (simp [*, errW_none, errW_some] <;> rfl), by (with_reducible repeat (first | apply Kd.R_alloc | apply Kd.R_drewN | apply Kd.R_drew)); exact HO351.out, by repeat (first | (with_reducible first | exact HB.out | apply below_alloc | apply pw_below_drewN | apply below_drew1 | refine below_set ?_ GE304.out) | exact HB.out)⟩
           ·rw [if_neg c87] at H
            exact absurd H (by simp)
          ·rw [if_neg c86] at H
           exact absurd H (by simp)
         ·rw [if_neg c85] at H
          exact absurd H (by simp)
        ·rw [if_neg c84] at H
         exact absurd H (by simp)
       ·rw [if_neg c82] at H
        exact absurd H (by simp)
      ·rw [if_neg c81] at H
       exact absurd H (by simp)
    ·rw [if_neg c72] at H
     have c72b0 : (a0_0 == 5) = false := beq_eq_false_iff_ne.mpr c72
     have c72b1 : (a0_0 != 5) = true := bne_iff_ne.mpr c72
     by_cases c99 : a0_0 = 6
     ·rw [if_pos c99] at H
      have c99b0 : (a0_0 == 6) = true := beq_iff_eq.mpr c99
      have c99b1 : (a0_0 != 6) = false := bne_eq_false_iff_eq.mpr c99
      clear c99
      have HC100 := Aside0.mk H
      clear H
      go_enter Try.func56, Try.ntmps56
      try go_wp2_with (first | ((with_reducible refine gate_dst (N := 2) rfl ?_); refine box_event ?hg (N := 2) ?hd (cs := #[.int .i64 a0_0, .int .i64 a0_1, .int .i64 a0_2, .string a0_3]) (t := 29) ?hr ?_; (case hd => rfl); (case hg => rfl); (case hr => first | (go_simp; done) | (go_simp; rfl)); intro gb304 hg w101 hbox hb; have n0_ := Aside0.mk (below_step z11 hb); have n1_ := Aside0.mk (hbox); have n2_ := Aside0.mk ((by rw [hg]; exact (below_size z11) : w.heap.size ≤ gb304)); have n3_ := Aside0.mk ((by rw [hg]; exact (below_size z11) : w.heap.size ≤ gb304)); clear HB; have HB := n0_; have BK304 := n1_; have GW304 := n2_; have GE304 := n3_; clear n0_ n1_ n2_ n3_; clear hb hbox hg))
      have n0_ := Aside0.mk (blk_drew BK304.out)
      have n1_ := Aside0.mk (below_drew1 HB.out)
      clear BK304
      clear HB
      have BK304 := n0_
      have HB := n1_
      clear n0_ n1_
      refine start_ (n := 6) (S := fun w' => w'.cell? ⟨gb304, 0, none⟩ = some (.int .i64 a0_0) ∧ w'.cell? ⟨gb304, 1, none⟩ = some (.int .i64 a0_1) ∧ w'.cell? ⟨gb304, 2, none⟩ = some (.int .i64 a0_2) ∧ w'.cell? ⟨gb304, 3, none⟩ = some (.string a0_3)) (ds := []) #[false, false, false, false, false, false] z0 rfl rfl ⟨(blk_cell BK304.out 0).trans rfl, (blk_cell BK304.out 1).trans rfl, (blk_cell BK304.out 2).trans rfl, (blk_cell BK304.out 3).trans rfl⟩ (fun hHeld => ?_)
      generalize w101.drew = w102 at BK304 HB hHeld ⊢
      refine pA 0 15 ?_
      refine pA 2 17 ?_
      refine tA 1 16 ?_ (hy := by rintro w' ⟨s0, s1, s2, s3⟩; go_simp; with_reducible rfl)
      refine pA 4 7 ?_
      refine tA 3 18 ?_ (hy := by rintro w' ⟨s0, s1, s2, s3⟩; go_simp; with_reducible rfl)
      refine pA 5 8 ?_
      refine done_ z0 ?_
      have hcz103_0 : w102.cell? ⟨gb304, 0, none⟩ = some (.int .i64 a0_0) := (blk_cell BK304.out 0).trans rfl
      have hcz103_1 : w102.cell? ⟨gb304, 1, none⟩ = some (.int .i64 a0_1) := (blk_cell BK304.out 1).trans rfl
      have hcz103_2 : w102.cell? ⟨gb304, 2, none⟩ = some (.int .i64 a0_2) := (blk_cell BK304.out 2).trans rfl
      have hcz103_3 : w102.cell? ⟨gb304, 3, none⟩ = some (.string a0_3) := (blk_cell BK304.out 3).trans rfl
      have hfz103_0 := blk_frozen BK304.out 0
      have hfz103_1 := blk_frozen BK304.out 1
      have hfz103_2 := blk_frozen BK304.out 2
      have hfz103_3 := blk_frozen BK304.out 3
      go_upto_region 21 with (fail)
      go_cut [145] (fun v145 wc => ∃ (kq : Nat) (x145_99 : Bool), v145 = .bool x145_99 ∧ Aside0 (impl_Command_parts.j2 kq a1 (a1.size : Int) a0_1 x145_99 = some (r1, r2)) ∧ Aside0 (kq ≤ k) ∧ Aside0 (wc.heap[gb304]? = some (.cells #[.int .i64 a0_0, .int .i64 a0_1, .int .i64 a0_2, .string a0_3] 29 (0, 0))) ∧ Aside0 (Below w.heap.size w wc))
      case first =>
       have H := HC100.out
       clear HC100
       by_cases c104 : a0_1 = 0
       ·rw [if_pos c104] at H
        have c104b0 : (a0_1 == 0) = true := beq_iff_eq.mpr c104
        have c104b1 : (a0_1 != 0) = false := bne_eq_false_iff_eq.mpr c104
        clear c104
        (first | rw [c104b0] | (simp only [i64_w, i32_w]; rw [c104b0]) | skip)
        have H' := Aside0.mk H
        clear H
        go_wp2
        go_meet
        case rel => exact ⟨_, (true), z1, H', ⟨by first | omega | exact Nat.le_refl _⟩, ⟨by (with_reducible repeat (first | refine blk_drewN ?_ _ | refine blk_drew ?_ | refine blk_alloc ?_ _)); exact BK304.out⟩, ⟨by repeat (first | (with_reducible first | exact HB.out | apply below_alloc | apply pw_below_drewN | apply below_drew1 | refine below_set ?_ GE304.out) | exact HB.out)⟩⟩
       ·rw [if_neg c104] at H
        have c104b0 : (a0_1 == 0) = false := beq_eq_false_iff_ne.mpr c104
        have c104b1 : (a0_1 != 0) = true := bne_iff_ne.mpr c104
        (first | rw [c104b0] | (simp only [i64_w, i32_w]; rw [c104b0]) | skip)
        by_cases c105 : a0_1 = (a1.size : Int)
        ·rw [if_pos c105] at H
         have c105b0 : (a0_1 == (a1.size : Int)) = true := beq_iff_eq.mpr c105
         have c105b1 : (a0_1 != (a1.size : Int)) = false := bne_eq_false_iff_eq.mpr c105
         clear c105
         have H' := Aside0.mk H
         clear H
         go_wp2
         go_meet
         case rel => exact ⟨_, (true), z1, H', ⟨by first | omega | exact Nat.le_refl _⟩, ⟨by (with_reducible repeat (first | refine blk_drewN ?_ _ | refine blk_drew ?_ | refine blk_alloc ?_ _)); exact BK304.out⟩, ⟨by repeat (first | (with_reducible first | exact HB.out | apply below_alloc | apply pw_below_drewN | apply below_drew1 | refine below_set ?_ GE304.out) | exact HB.out)⟩⟩
        ·rw [if_neg c105] at H
         have c105b0 : (a0_1 == (a1.size : Int)) = false := beq_eq_false_iff_ne.mpr c105
         have c105b1 : (a0_1 != (a1.size : Int)) = true := bne_iff_ne.mpr c105
         obtain ⟨ji106, hji106⟩ : ∃ j_ : Int, (wrap64 (a0_1 - 1)) = j_ := ⟨_, rfl⟩
         replace H : (if 0 ≤ (ji106) then (if (ji106) < (a1.size : Int) then (if (bt a1 (ji106)) = 47 then (if 0 ≤ a0_1 then (if a0_1 < (a1.size : Int) then ((impl_isName.f (bt a1 a0_1)).bind fun t352 => (impl_Command_parts.j2 k a1 (a1.size : Int) a0_1 (!t352))) else (none)) else (none)) else (impl_Command_parts.j2 k a1 (a1.size : Int) a0_1 true)) else (none)) else (none)) = some (r1, r2) := by first | (rw [hji106] at H; exact H) | (simp only [hji106] at H ⊢; exact H)
         have hji106w : (IntKind.i64.wrap (a0_1 - 1)) = ji106 := (i64_w _).trans hji106
         by_cases c107 : 0 ≤ (ji106)
         ·rw [if_pos c107] at H
          have c107b0 : decide (0 ≤ (ji106)) = true := decide_eq_true c107
          clear c107
          by_cases c108 : (ji106) < (a1.size : Int)
          ·rw [if_pos c108] at H
           have c108b0 : decide ((ji106) < (a1.size : Int)) = true := decide_eq_true c108
           clear c108
           by_cases c110 : (bt a1 (ji106)) = 47
           ·rw [if_pos c110] at H
            have c110b0 : ((bt a1 (ji106)) == 47) = true := beq_iff_eq.mpr c110
            have c110b1 : ((bt a1 (ji106)) != 47) = false := bne_eq_false_iff_eq.mpr c110
            clear c110
            by_cases c111 : 0 ≤ a0_1
            ·rw [if_pos c111] at H
             have c111b0 : decide (0 ≤ a0_1) = true := decide_eq_true c111
             clear c111
             by_cases c112 : a0_1 < (a1.size : Int)
             ·rw [if_pos c112] at H
              have c112b0 : decide (a0_1 < (a1.size : Int)) = true := decide_eq_true c112
              clear c112
              replace H := Option.bind_eq_some_iff.mp H
              obtain ⟨t352, A1140, H⟩ := H
              try dsimp only at H
              have A114 := Aside0.mk A1140
              clear A1140
              have H' := Aside0.mk H
              clear H
              have p109 : 0 ≤ ((ji106) : Int) := of_decide_eq_true z2
              have q109 : (ji106) < (a1.size : Int) := of_decide_eq_true z2
              have hx109 := bt_at a1 (ji106)
              replace p109 := eq_true p109
              replace q109 := eq_true q109
              have p113 : 0 ≤ (a0_1 : Int) := of_decide_eq_true z2
              have q113 : a0_1 < (a1.size : Int) := of_decide_eq_true z2
              have hx113 := bt_at a1 a0_1
              replace p113 := eq_true p113
              replace q113 := eq_true q113
              go_wp2_with (first | (go_at_call 50; (with_reducible refine (impl_isName.calls (bt a1 a0_1) t352 _ A114.out).mono ?_); rintro e w' ⟨rfl, ⟨nd, rfl⟩⟩))
              go_meet
              case rel => exact ⟨_, (!t352), z1, (by first | exact H' | (simp only [hji106]; exact H') | (simp only [← hji106]; exact H')), ⟨by first | omega | exact Nat.le_refl _⟩, ⟨by (with_reducible repeat (first | refine blk_drewN ?_ _ | refine blk_drew ?_ | refine blk_alloc ?_ _)); exact BK304.out⟩, ⟨by repeat (first | (with_reducible first | exact HB.out | apply below_alloc | apply pw_below_drewN | apply below_drew1 | refine below_set ?_ GE304.out) | exact HB.out)⟩⟩
             ·rw [if_neg c112] at H
              exact absurd H (by simp)
            ·rw [if_neg c111] at H
             exact absurd H (by simp)
           ·rw [if_neg c110] at H
            have c110b0 : ((bt a1 (ji106)) == 47) = false := beq_eq_false_iff_ne.mpr c110
            have c110b1 : ((bt a1 (ji106)) != 47) = true := bne_iff_ne.mpr c110
            have H' := Aside0.mk H
            clear H
            have p109 : 0 ≤ ((ji106) : Int) := of_decide_eq_true z2
            have q109 : (ji106) < (a1.size : Int) := of_decide_eq_true z2
            have hx109 := bt_at a1 (ji106)
            replace p109 := eq_true p109
            replace q109 := eq_true q109
            go_wp2
            go_meet
            case rel => exact ⟨_, (true), z1, (by first | exact H' | (simp only [hji106]; exact H') | (simp only [← hji106]; exact H')), ⟨by first | omega | exact Nat.le_refl _⟩, ⟨by (with_reducible repeat (first | refine blk_drewN ?_ _ | refine blk_drew ?_ | refine blk_alloc ?_ _)); exact BK304.out⟩, ⟨by repeat (first | (with_reducible first | exact HB.out | apply below_alloc | apply pw_below_drewN | apply below_drew1 | refine below_set ?_ GE304.out) | exact HB.out)⟩⟩
          ·rw [if_neg c108] at H
           exact absurd H (by simp)
         ·rw [if_neg c107] at H
          exact absurd H (by simp)
      case rest =>
       clear HC100
       try clear c1
       try clear p1
       try clear q1
       try clear hx1
       try clear p2
       try clear c3
       try clear p3
       try clear q3
       try clear hx3
       try clear c4
       try clear c5
       try clear p6
       try clear c7
       try clear c8
       try clear c9
       try clear c10
       try clear p10
       try clear q10
       try clear hx10
       try clear c11
       try clear p11
       try clear q11
       try clear hx11
       try clear p34
       try clear q34
       try clear hx34
       try clear c47
       try clear c47b0
       try clear c47b1
       try clear c56
       try clear p64
       try clear c72
       try clear c72b0
       try clear c72b1
       try clear c74
       try clear c74b0
       try clear c74b1
       try clear c74b2
       try clear c77
       try clear c79
       try clear c81
       try clear c81b0
       try clear c82
       try clear c82b0
       try clear c84
       try clear c84b0
       try clear c84b1
       try clear c85
       try clear c85b0
       try clear c85b1
       try clear c86
       try clear c86b0
       try clear c86b1
       try clear c87
       try clear c87b0
       try clear c87b1
       try clear c87b2
       try clear c99
       try clear c99b0
       try clear c99b1
       try clear c104
       try clear c104b0
       try clear c104b1
       try clear c105
       try clear c105b0
       try clear c105b1
       try clear c107
       try clear c107b0
       try clear c108
       try clear c108b0
       try clear p109
       try clear q109
       try clear hx109
       try clear c110
       try clear c110b0
       try clear c110b1
       try clear c111
       try clear c111b0
       try clear c112
       try clear c112b0
       try clear p113
       try clear q113
       try clear hx113
       try clear hcz103_0
       try clear hcz103_1
       try clear hcz103_2
       try clear hcz103_3
       try clear hcz77_0
       try clear hcz77_1
       try clear hcz77_2
       try clear hcz77_3
       try clear hcz91_0
       try clear hcz91_1
       try clear hcz91_2
       try clear hcz91_3
       try clear hfz103_0
       try clear hfz103_1
       try clear hfz103_2
       try clear hfz103_3
       try clear hfz77_0
       try clear hfz77_1
       try clear hfz77_2
       try clear hfz77_3
       try clear hfz91_0
       try clear hfz91_1
       try clear hfz91_2
       try clear hfz91_3
       try clear hx342_0
       try clear p109
       try clear p113
       try clear p342
       try clear q109
       try clear q113
       try clear q342
       obtain ⟨kq, x145_99, rfl, HA, HJ99, BK304, HB⟩ := hcut
       cases kq with
       | zero => exact absurd HA.out (by simp [impl_Command_parts.j2])
       | succ kj99 =>
        have H := HA.out
        clear HA
        simp only [impl_Command_parts.j2] at H
        by_cases c115 : x145_99 = true
        ·subst c115
         rw [if_pos rfl] at H
         simp only [Option.some.injEq, Prod.mk.injEq] at H
         obtain ⟨rfl, rfl⟩ := H
         go_wp2
         go_ret2
         exact ⟨_, by first | rfl | (simp [errW_none, errW_some] <;> rfl) | (simp [*, errW_none, errW_some] <;> rfl), by first | exact Kd.R_nil _ _ _ _ _ | exact Kd.N_nil _ _ _ _ _ | exact Kd.V_nil _ _ _ _ _ | exact Kd.Q_nil _ _ _ _ _ | exact Kd.S_nil _ _ _ _ _, by repeat (first | (with_reducible first | exact HB.out | apply below_alloc | apply pw_below_drewN | apply below_drew1 | refine below_set ?_ GE304.out) | exact HB.out)⟩
        ·replace c115 := Bool.eq_false_iff.mpr c115
         subst c115
         rw [if_neg (show ¬ (false = true) by decide)] at H
         replace H := Option.bind_eq_some_iff.mp H
         obtain ⟨⟨t353, t354⟩, A1160, H⟩ := H
         try dsimp only at H
         have A116 := Aside0.mk A1160
         clear A1160
         by_cases c117 : 0 ≤ t353
         ·rw [if_pos c117] at H
          have c117b0 : decide (0 ≤ t353) = true := decide_eq_true c117
          clear c117
          by_cases c118 : t353 < (a1.size : Int)
          ·rw [if_pos c118] at H
           have c118b0 : decide (t353 < (a1.size : Int)) = true := decide_eq_true c118
           clear c118
           by_cases c120 : 0 ≤ a0_1
           ·rw [if_pos c120] at H
            have c120b0 : decide (0 ≤ a0_1) = true := decide_eq_true c120
            clear c120
            by_cases c121 : a0_1 < (a1.size : Int)
            ·rw [if_pos c121] at H
             have c121b0 : decide (a0_1 < (a1.size : Int)) = true := decide_eq_true c121
             clear c121
             by_cases c123 : (bt a1 t353) = (bt a1 a0_1)
             ·rw [if_pos c123] at H
              have c123b0 : ((bt a1 t353) == (bt a1 a0_1)) = true := beq_iff_eq.mpr c123
              have c123b1 : ((bt a1 t353) != (bt a1 a0_1)) = false := bne_eq_false_iff_eq.mpr c123
              clear c123
              replace H := Option.bind_eq_some_iff.mp H
              obtain ⟨⟨t355, t356, t357⟩, A1240, H⟩ := H
              try dsimp only at H
              have A124 := Aside0.mk A1240
              clear A1240
              obtain ⟨ji125, hji125⟩ : ∃ j_ : Int, (wrap64 (a0_1 - 1)) = j_ := ⟨_, rfl⟩
              replace H : (if 0 ≤ (ji125) then (if (ji125) ≤ (wrap64 (a0_1 + 1)) then (if (wrap64 (a0_1 + 1)) ≤ (a1.size : Int) then ((impl_keepTo.f (wrap64 (a0_1 + 1)) (a1.size : Int)).bind fun bt358 => (some ((([(⟨t355, t356, t357⟩ : S61), (⟨0, (⟨#[]⟩ : ByteArray), a1.extract ((ji125) : Int).toNat ((wrap64 (a0_1 + 1)) : Int).toNat⟩ : S61), (⟨bt358.1, bt358.2.1, bt358.2.2⟩ : S61)] : List (S61))), true))) else (none)) else (none)) else (none)) = some (r1, r2) := by first | (rw [hji125] at H; exact H) | (simp only [hji125] at H ⊢; exact H)
              (try rw [hji125] at A116)
              (try rw [hji125] at A124)
              have hji125w : (IntKind.i64.wrap (a0_1 - 1)) = ji125 := (i64_w _).trans hji125
              by_cases c126 : 0 ≤ (ji125)
              ·rw [if_pos c126] at H
               have c126b0 := eq_true c126
               have c126b1 : decide (0 ≤ (ji125)) = true := decide_eq_true c126
               clear c126
               by_cases c127 : (ji125) ≤ (wrap64 (a0_1 + 1))
               ·rw [if_pos c127] at H
                have c127b0 := eq_true c127
                have c127b1 : decide ((ji125) ≤ (wrap64 (a0_1 + 1))) = true := decide_eq_true c127
                by_cases c128 : (wrap64 (a0_1 + 1)) ≤ (a1.size : Int)
                ·rw [if_pos c128] at H
                 have c128b0 := eq_true c128
                 have c128b1 : decide ((wrap64 (a0_1 + 1)) ≤ (a1.size : Int)) = true := decide_eq_true c128
                 replace H := Option.bind_eq_some_iff.mp H
                 obtain ⟨⟨t358, t359, t360⟩, A1290, H⟩ := H
                 try dsimp only at H
                 have A129 := Aside0.mk A1290
                 clear A1290
                 obtain ⟨y361, hy361⟩ : ∃ y_ : List (S61), y_ = (([(⟨t355, t356, t357⟩ : S61), (⟨0, (⟨#[]⟩ : ByteArray), a1.extract ((ji125) : Int).toNat ((wrap64 (a0_1 + 1)) : Int).toNat⟩ : S61), (⟨t358, t359, t360⟩ : S61)] : List (S61))) := ⟨_, rfl⟩
                 replace H : (some (y361, true)) = some (r1, r2) := by first | (rw [hy361]; with_reducible exact H) | (have H2_ := (Option.bind_some _ _).symm.trans H; rw [hy361]; with_reducible exact H2_) | (have H2_ := (Option.bind_some _ _).symm.trans H; with_reducible exact H2_) | with_reducible exact H | (rw [hy361]; exact H) | exact H
                 have Ny361 := Aside0.mk hy361
                 clear hy361
                 simp only [Option.some.injEq, Prod.mk.injEq] at H
                 obtain ⟨rfl, rfl⟩ := H
                 try go_wp2_with (first | ((with_reducible refine gate_callee (f := 70) rfl ?_); refine goesL_ (some 150) rfl rfl Try.func70 z0 rfl #[.string a1, .int .i64 ji125] rfl (by (try simp only [List.map_toArray, List.map_cons, List.map_nil]); first | done | (simp only [hji125]; rfl) | rfl | (simp only [List.length_drop, List.length_take]; rfl)) ?_; (with_reducible refine (impl_MatchOf.calls kj99 a1 ji125 t353 t354 _ A116.out).mono ?_); rintro e w130 ⟨rfl, hb⟩; refine ⟨_, rfl, ?_⟩; have n0_ := Aside0.mk (blk_below (g := gb304) (o := .cells #[.int .i64 a0_0, .int .i64 a0_1, .int .i64 a0_2, .string a0_3] 29 (0, 0)) z8 hb); have n1_ := Aside0.mk (below_step z15 hb); clear BK304; clear HB; have BK304 := n0_; have HB := n1_; clear n0_ n1_; (try clear hb); (try clear hb2); (try clear hk); (try clear hi)))
                 have n0_ := Aside0.mk (blk_drew BK304.out)
                 have n1_ := Aside0.mk (below_drew1 HB.out)
                 clear BK304
                 clear HB
                 have BK304 := n0_
                 have HB := n1_
                 clear n0_ n1_
                 have p119 : 0 ≤ (t353 : Int) := of_decide_eq_true z2
                 have q119 : t353 < (a1.size : Int) := of_decide_eq_true z2
                 have hx119 := bt_at a1 t353
                 replace p119 := eq_true p119
                 replace q119 := eq_true q119
                 have p122 : 0 ≤ (a0_1 : Int) := of_decide_eq_true z2
                 have q122 : a0_1 < (a1.size : Int) := of_decide_eq_true z2
                 have hx122 := bt_at a1 a0_1
                 replace p122 := eq_true p122
                 replace q122 := eq_true q122
                 refine start_ (n := 7) (S := fun w' => True) (ds := []) #[false, false, false, false, false, false, false] z0 rfl rfl trivial (fun hHeld => ?_)
                 generalize w130.drew = w131 at BK304 HB hHeld ⊢
                 refine pA 0 153 ?_
                 refine pA 1 154 ?_
                 refine pA 3 156 ?_
                 refine pA 4 157 ?_
                 refine tA 2 155 ?_ (hy := by intro w' _; go_simp; with_reducible rfl)
                 refine tA 5 158 ?_ (hy := by intro w' _; go_simp; with_reducible rfl)
                 refine pA 6 159 ?_
                 refine done_ z0 ?_
                 try go_wp2
                 have n0_ := Aside0.mk (blk_drew BK304.out)
                 have n1_ := Aside0.mk (below_drew1 HB.out)
                 clear BK304
                 clear HB
                 have BK304 := n0_
                 have HB := n1_
                 clear n0_ n1_
                 refine start_ (n := 17) (S := fun w' => True) (ds := []) #[false, false, false, false, false, false, false, false, false, false, false, false, false, false, false, false, false] z0 rfl rfl trivial (fun hHeld => ?_); refine with_tabW impl_Command_parts.tab26 impl_Command_parts.bits26 (fun HT_ HW_ => ?_)
                 generalize w131.drew = w132 at BK304 HB hHeld ⊢
                 refine pA 0 160 ?_
                 refine pA 1 161 ?_
                 refine pA 3 163 ?_
                 refine pA 4 164 ?_
                 refine pA 5 165 ?_
                 refine pA 6 166 ?_
                 refine pA 7 167 ?_
                 refine pA 8 168 ?_
                 refine pA 9 169 ?_
                 refine pA 10 170 ?_
                 refine pA 11 171 ?_
                 refine pA 12 172 ?_
                 refine one_ (i := 2) (N := some 162) #[true, true, true, true, true, true, true, true, true, true, true, true, true, false, false, false, false] rfl rfl (one_of HT_.out z0) (by decide) (fun K hK => ?_)
                 refine goes_ Try.func77 z0 rfl #[.int .i64 0, .int .i64 ji125] (by rfl) rfl rfl (by (try simp only [List.map_toArray, List.map_cons, List.map_nil]); first | done | (simp only [hji125]; rfl) | rfl | (simp only [List.length_drop, List.length_take]; rfl)) ?_
                 with_reducible refine (impl_keepTo.calls 0 ji125 t355 t356 t357 _ A124.out).mono ?_
                 rintro e w133 ⟨rfl, hb⟩
                 refine ⟨_, rfl, ?_⟩
                 have n0_ := Aside0.mk (blk_below (g := gb304) (o := .cells #[.int .i64 a0_0, .int .i64 a0_1, .int .i64 a0_2, .string a0_3] 29 (0, 0)) z8 hb)
                 have n1_ := Aside0.mk (below_step z15 hb)
                 clear BK304
                 clear HB
                 have BK304 := n0_
                 have HB := n1_
                 clear n0_ n1_
                 (try clear hb)
                 (try clear hb2)
                 (try clear hk)
                 (try clear hi)
                 refine hK.out _ _ trivial (fun hHeld => ?_)
                 clear hK K
                 refine norm_ (a' := ?_) ?_ ?_
                 rotate_left
                 ·show Act.put _ (some 162) _ = _
                  simp only [Act.put, List.setIfInBounds_toArray, List.set_cons_zero, List.set_cons_succ, i64_w, i32_w]
                  rfl
                 refine one_ (i := 13) (N := some 173) #[true, true, true, true, true, true, true, true, true, true, true, true, true, true, false, false, false] rfl rfl (one_of HT_.out z0) (by decide) (fun K hK => ?_)
                 refine goes_ Try.func77 z0 rfl #[.int .i64 (wrap64 (a0_1 + 1)), .int .i64 (a1.size : Int)] (by rfl) rfl rfl z12 ?_
                 with_reducible refine (impl_keepTo.calls (wrap64 (a0_1 + 1)) (a1.size : Int) t358 t359 t360 _ A129.out).mono ?_
                 rintro e w134 ⟨rfl, hb⟩
                 refine ⟨_, rfl, ?_⟩
                 have n0_ := Aside0.mk (blk_below (g := gb304) (o := .cells #[.int .i64 a0_0, .int .i64 a0_1, .int .i64 a0_2, .string a0_3] 29 (0, 0)) z8 hb)
                 have n1_ := Aside0.mk (below_step z15 hb)
                 clear BK304
                 clear HB
                 have BK304 := n0_
                 have HB := n1_
                 clear n0_ n1_
                 (try clear hb)
                 (try clear hb2)
                 (try clear hk)
                 (try clear hi)
                 refine hK.out _ _ trivial (fun hHeld => ?_)
                 clear hK K
                 refine norm_ (a' := ?_) ?_ ?_
                 rotate_left
                 ·show Act.put _ (some 173) _ = _
                  simp only [Act.put, List.setIfInBounds_toArray, List.set_cons_zero, List.set_cons_succ, i64_w, i32_w]
                  rfl
                 refine one_ (i := 14) (N := some 174) #[true, true, true, true, true, true, true, true, true, true, true, true, true, true, true, false, false] rfl rfl (one_of HT_.out z0) (by decide) (fun K hK => ?_)
                 refine Kd.R_lit_step k61 _ 61 ?hg (N := 174) ?hd (xs := ([(⟨t355, t356, t357⟩ : S61), (⟨0, (⟨#[]⟩ : ByteArray), a1.extract ((ji125) : Int).toNat ((wrap64 (a0_1 + 1)) : Int).toNat⟩ : S61), (⟨t358, t359, t360⟩ : S61)] : List (S61))) (inner := [.int .i64 t355, .string t356, .string t357, .int .i64 0, .string (⟨#[]⟩ : ByteArray), .string (a1.extract ((ji125) : Int).toNat ((wrap64 (a0_1 + 1)) : Int).toNat), .int .i64 t358, .string t359, .string t360]) (ok := fun _ => True) (okp := fun _ => True) ?hr ?hp (fun _ hk => hk) trivial (Below.refl _ _) (Nat.le_refl _) (by simp) ?_; (case hd => rfl); (case hg => rfl); (case hr => first | (go_simp; done) | (go_simp; rfl)); (case hp => exact (Reps.c3 (show Kd.M k61 _ _ _ (⟨t355, t356, t357⟩ : S61) [.int .i64 t355, .string t356, .string t357] from (k61_mkM _ _ _ (⟨t355, t356, t357⟩ : S61) )) (Reps.c3 (show Kd.M k61 _ _ _ (⟨0, (⟨#[]⟩ : ByteArray), a1.extract ((ji125) : Int).toNat ((wrap64 (a0_1 + 1)) : Int).toNat⟩ : S61) [.int .i64 0, .string (⟨#[]⟩ : ByteArray), .string (a1.extract ((ji125) : Int).toNat ((wrap64 (a0_1 + 1)) : Int).toNat)] from (k61_mkM _ _ _ (⟨0, (⟨#[]⟩ : ByteArray), a1.extract ((ji125) : Int).toNat ((wrap64 (a0_1 + 1)) : Int).toNat⟩ : S61) )) (Reps.c3 (show Kd.M k61 _ _ _ (⟨t358, t359, t360⟩ : S61) [.int .i64 t358, .string t359, .string t360] from (k61_mkM _ _ _ (⟨t358, t359, t360⟩ : S61) )) (Reps.none _ _)))))
                 intro v362 w135 ho136 hb hg_ hnew_
                 clear hg_ hnew_
                 (first | rw [← Ny361.out] at ho136 | (simp only [Int.reduceToNat] at ho136; rw [← Ny361.out] at ho136))
                 have n0_ := Aside0.mk (Kd.R_lower ho136 (below_size z15))
                 have n1_ := Aside0.mk (blk_below (g := gb304) (o := .cells #[.int .i64 a0_0, .int .i64 a0_1, .int .i64 a0_2, .string a0_3] 29 (0, 0)) z8 hb)
                 have n2_ := Aside0.mk (below_step z15 hb)
                 clear BK304
                 clear HB
                 have HO363 := n0_
                 have BK304 := n1_
                 have HB := n2_
                 clear n0_ n1_ n2_
                 clear hb ho136
                 refine hK.out _ _ trivial (fun hHeld => ?_)
                 clear hK K
                 refine norm_ (a' := ?_) ?_ ?_
                 rotate_left
                 ·show Act.put _ (some 174) _ = _
                  simp only [Act.put, List.setIfInBounds_toArray, List.set_cons_zero, List.set_cons_succ, i64_w, i32_w]
                  rfl
                 refine pA 15 4 ?_
                 refine pA 16 5 ?_
                 refine done_ (done_of HT_.out z0) ?_
                 try go_wp2
                 go_ret2
                 exact ⟨_, by first | rfl | (simp [errW_none, errW_some] <;> rfl) | (simp only [← hji125]; first | rfl | (simp [errW_none, errW_some] <;> rfl)) | (simp [*, errW_none, errW_some] <;> rfl), by (with_reducible repeat (first | apply Kd.R_alloc | apply Kd.R_drewN | apply Kd.R_drew)); exact HO363.out, by repeat (first | (with_reducible first | exact HB.out | apply below_alloc | apply pw_below_drewN | apply below_drew1 | refine below_set ?_ GE304.out) | exact HB.out)⟩
                ·rw [if_neg c128] at H
                 exact absurd H (by simp)
               ·rw [if_neg c127] at H
                exact absurd H (by simp)
              ·rw [if_neg c126] at H
               exact absurd H (by simp)
             ·rw [if_neg c123] at H
              have c123b0 : ((bt a1 t353) == (bt a1 a0_1)) = false := beq_eq_false_iff_ne.mpr c123
              have c123b1 : ((bt a1 t353) != (bt a1 a0_1)) = true := bne_iff_ne.mpr c123
              simp only [Option.some.injEq, Prod.mk.injEq] at H
              obtain ⟨rfl, rfl⟩ := H
              try go_wp2_with (first | ((with_reducible refine gate_callee (f := 70) rfl ?_); refine goesL_ (some 150) rfl rfl Try.func70 z0 rfl #[.string a1, .int .i64 (wrap64 (a0_1 - 1))] rfl z12 ?_; (with_reducible refine (impl_MatchOf.calls kj99 a1 (wrap64 (a0_1 - 1)) t353 t354 _ A116.out).mono ?_); rintro e w137 ⟨rfl, hb⟩; refine ⟨_, rfl, ?_⟩; have n0_ := Aside0.mk (blk_below (g := gb304) (o := .cells #[.int .i64 a0_0, .int .i64 a0_1, .int .i64 a0_2, .string a0_3] 29 (0, 0)) z8 hb); have n1_ := Aside0.mk (below_step z15 hb); clear BK304; clear HB; have BK304 := n0_; have HB := n1_; clear n0_ n1_; (try clear hb); (try clear hb2); (try clear hk); (try clear hi)))
              have n0_ := Aside0.mk (blk_drew BK304.out)
              have n1_ := Aside0.mk (below_drew1 HB.out)
              clear BK304
              clear HB
              have BK304 := n0_
              have HB := n1_
              clear n0_ n1_
              have p119 : 0 ≤ (t353 : Int) := of_decide_eq_true z2
              have q119 : t353 < (a1.size : Int) := of_decide_eq_true z2
              have hx119 := bt_at a1 t353
              replace p119 := eq_true p119
              replace q119 := eq_true q119
              have p122 : 0 ≤ (a0_1 : Int) := of_decide_eq_true z2
              have q122 : a0_1 < (a1.size : Int) := of_decide_eq_true z2
              have hx122 := bt_at a1 a0_1
              replace p122 := eq_true p122
              replace q122 := eq_true q122
              refine start_ (n := 7) (S := fun w' => True) (ds := []) #[false, false, false, false, false, false, false] z0 rfl rfl trivial (fun hHeld => ?_)
              generalize w137.drew = w138 at BK304 HB hHeld ⊢
              refine pA 0 153 ?_
              refine pA 1 154 ?_
              refine pA 3 156 ?_
              refine pA 4 157 ?_
              refine tA 2 155 ?_ (hy := by intro w' _; go_simp; with_reducible rfl)
              refine tA 5 158 ?_ (hy := by intro w' _; go_simp; with_reducible rfl)
              refine pA 6 159 ?_
              refine done_ z0 ?_
              try go_wp2
              go_ret2
              exact ⟨_, by first | rfl | (simp [errW_none, errW_some] <;> rfl) | (simp [*, errW_none, errW_some] <;> rfl), by first | exact Kd.R_nil _ _ _ _ _ | exact Kd.N_nil _ _ _ _ _ | exact Kd.V_nil _ _ _ _ _ | exact Kd.Q_nil _ _ _ _ _ | exact Kd.S_nil _ _ _ _ _, by repeat (first | (with_reducible first | exact HB.out | apply below_alloc | apply pw_below_drewN | apply below_drew1 | refine below_set ?_ GE304.out) | exact HB.out)⟩
            ·rw [if_neg c121] at H
             exact absurd H (by simp)
           ·rw [if_neg c120] at H
            exact absurd H (by simp)
          ·rw [if_neg c118] at H
           exact absurd H (by simp)
         ·rw [if_neg c117] at H
          exact absurd H (by simp)
     ·rw [if_neg c99] at H
      have c99b0 : (a0_0 == 6) = false := beq_eq_false_iff_ne.mpr c99
      have c99b1 : (a0_0 != 6) = true := bne_iff_ne.mpr c99
      replace H := Option.bind_eq_some_iff.mp H
      obtain ⟨⟨t364, t367⟩, A1390, H⟩ := H
      try dsimp only at H
      have A139 := Aside0.mk A1390
      clear A1390
      simp only [Option.some.injEq, Prod.mk.injEq] at H
      obtain ⟨rfl, rfl⟩ := H
      go_enter Try.func56, Try.ntmps56
      try go_wp2_with (first | ((with_reducible refine gate_dst (N := 2) rfl ?_); refine box_event ?hg (N := 2) ?hd (cs := #[.int .i64 a0_0, .int .i64 a0_1, .int .i64 a0_2, .string a0_3]) (t := 29) ?hr ?_; (case hd => rfl); (case hg => rfl); (case hr => first | (go_simp; done) | (go_simp; rfl)); intro gb304 hg w140 hbox hb; have n0_ := Aside0.mk (below_step z11 hb); have n1_ := Aside0.mk (hbox); have n2_ := Aside0.mk ((by rw [hg]; exact (below_size z11) : w.heap.size ≤ gb304)); have n3_ := Aside0.mk ((by rw [hg]; exact (below_size z11) : w.heap.size ≤ gb304)); clear HB; have HB := n0_; have BK304 := n1_; have GW304 := n2_; have GE304 := n3_; clear n0_ n1_ n2_ n3_; clear hb hbox hg))
      have n0_ := Aside0.mk (blk_drew BK304.out)
      have n1_ := Aside0.mk (below_drew1 HB.out)
      clear BK304
      clear HB
      have BK304 := n0_
      have HB := n1_
      clear n0_ n1_
      refine start_ (n := 6) (S := fun w' => w'.cell? ⟨gb304, 0, none⟩ = some (.int .i64 a0_0) ∧ w'.cell? ⟨gb304, 1, none⟩ = some (.int .i64 a0_1) ∧ w'.cell? ⟨gb304, 2, none⟩ = some (.int .i64 a0_2) ∧ w'.cell? ⟨gb304, 3, none⟩ = some (.string a0_3)) (ds := []) #[false, false, false, false, false, false] z0 rfl rfl ⟨(blk_cell BK304.out 0).trans rfl, (blk_cell BK304.out 1).trans rfl, (blk_cell BK304.out 2).trans rfl, (blk_cell BK304.out 3).trans rfl⟩ (fun hHeld => ?_)
      generalize w140.drew = w141 at BK304 HB hHeld ⊢
      refine pA 0 15 ?_
      refine pA 2 17 ?_
      refine tA 1 16 ?_ (hy := by rintro w' ⟨s0, s1, s2, s3⟩; go_simp; with_reducible rfl)
      refine pA 4 7 ?_
      refine tA 3 18 ?_ (hy := by rintro w' ⟨s0, s1, s2, s3⟩; go_simp; with_reducible rfl)
      refine pA 5 8 ?_
      refine done_ z0 ?_
      have hcz142_0 : w141.cell? ⟨gb304, 0, none⟩ = some (.int .i64 a0_0) := (blk_cell BK304.out 0).trans rfl
      have hcz142_1 : w141.cell? ⟨gb304, 1, none⟩ = some (.int .i64 a0_1) := (blk_cell BK304.out 1).trans rfl
      have hcz142_2 : w141.cell? ⟨gb304, 2, none⟩ = some (.int .i64 a0_2) := (blk_cell BK304.out 2).trans rfl
      have hcz142_3 : w141.cell? ⟨gb304, 3, none⟩ = some (.string a0_3) := (blk_cell BK304.out 3).trans rfl
      have hfz142_0 := blk_frozen BK304.out 0
      have hfz142_1 := blk_frozen BK304.out 1
      have hfz142_2 := blk_frozen BK304.out 2
      have hfz142_3 := blk_frozen BK304.out 3
      try go_wp2_with (first | ((with_reducible refine gate_callee (f := 80) rfl ?_); refine goesL_ (some 177) rfl rfl Try.func80 z0 rfl #[.agg #[.int .i64 a0_0, .int .i64 a0_1, .int .i64 a0_2, .string a0_3], .string a1] rfl z12 ?_; (with_reducible refine (impl_Command_onElement.calls k a0_0 a0_1 a0_2 a0_3 a1 t364 t367 _ A139.out).mono ?_); rintro e w143 ⟨v365, rfl, ho0, hb⟩; refine ⟨_, rfl, ?_⟩; have n0_ := Aside0.mk (Kd.R_lower ho0 (below_size z15)); have n1_ := Aside0.mk (blk_below (g := gb304) (o := .cells #[.int .i64 a0_0, .int .i64 a0_1, .int .i64 a0_2, .string a0_3] 29 (0, 0)) z8 hb); have n2_ := Aside0.mk (below_step z15 hb); clear BK304; clear HB; have HO366 := n0_; have BK304 := n1_; have HB := n2_; clear n0_ n1_ n2_; (try clear hb); (try clear hb2); (try clear hk); (try clear hi); (try clear ho0)))
      go_ret2
      exact ⟨_, by first | rfl | (simp [errW_none, errW_some] <;> rfl) | (simp [*, errW_none, errW_some] <;> rfl), by (with_reducible repeat (first | apply Kd.R_alloc | apply Kd.R_drewN | apply Kd.R_drew)); exact HO366.out, by repeat (first | (with_reducible first | exact HB.out | apply below_alloc | apply pw_below_drewN | apply below_drew1 | refine below_set ?_ GE304.out) | exact HB.out)⟩

end Go.Proofs.Ytmigfgcpdelnfaa.AFnExactReachOf
