-- this session's own text: written by wip/tools/ownprint.py over the kit's print
import Derived.Test.YtmigfgcpdelnfaaAFnUndoneByx0
import Derived.Test.YtmigfgcpdelnfaaAFnUndoneByx6
import Derived.Test.YtmigfgcpdelnfaaAFnUndoneByx7
import Derived.Test.YtmigfgcpdelnfaaAFnUndoneByx9
namespace Go.Proofs.Ytmigfgcpdelnfaa.AFnUndoneBy
open Go.RowKit Go.Proofs.YtmigfgcpdelnfaaW.PrintWords Go.Proofs.YtmigfgcpdelnfaaW.PrintLast Go.Proofs.YtmigfgcpdelnfaaW.PrintMore
attribute [local go_sem] max2_int min2_int max_two min_two max_three min_three max_four min_four   -- for this text's walks alone
set_option linter.unusedVariables false
set_option linter.unusedSimpArgs false

/-! ### impl_Command_parts: function 56 -/
mutual
def impl_Command_parts.j0 : Nat → ByteArray → Int → Int → Int → Bool → Option ((List (S61)) × Bool)
 | 0, _, _, _, _, _ => none
 | k + 1, x1, x6, x7, x8, x52 => if x52 = true then (some (([] : List (S61)), false)) else ((impl_keepTo.f 0 x7).bind fun oQ => (if 0 ≤ x7 then (if x7 ≤ x8 then (if x8 ≤ (x1.size : Int) then ((impl_keepTo.f x8 x6).bind fun oP => (some ((([(⟨oQ.1, oQ.2.1, oQ.2.2⟩ : S61), (⟨0, (⟨#[]⟩ : ByteArray), x1.extract (x7 : Int).toNat (x8 : Int).toNat⟩ : S61), (⟨oP.1, oP.2.1, oP.2.2⟩ : S61)] : List (S61))), true))) else (none)) else (none)) else (none)))
def impl_Command_parts.j1 : Nat → Int → Int → Int → Bool → Int → Int → Int → ByteArray → Option ((List (S61)) × Bool)
 | 0, _, _, _, _, _, _, _, _ => none
 | k + 1, x6, x7, x8, x82, x296000, x296001, x296002, x296003 => if x82 = true then (some (([] : List (S61)), false)) else ((impl_keepTo.f 0 x7).bind fun oO => ((impl_keepTo.f x7 x8).bind fun oN => ((impl_keepTo.f x8 x6).bind fun oM => (some ((([(⟨oO.1, oO.2.1, oO.2.2⟩ : S61), (⟨0, x296003, (⟨#[]⟩ : ByteArray)⟩ : S61), (⟨oN.1, oN.2.1, oN.2.2⟩ : S61), (⟨0, (⟨#[47]⟩ : ByteArray), (⟨#[]⟩ : ByteArray)⟩ : S61), (⟨oM.1, oM.2.1, oM.2.2⟩ : S61)] : List (S61))), true)))))
def impl_Command_parts.j2 : Nat → ByteArray → Int → Int → Bool → Option ((List (S61)) × Bool)
 | 0, _, _, _, _ => none
 | k + 1, x1, x6, x7, x145 => if x145 = true then (some (([] : List (S61)), false)) else ((impl_MatchOf.f k x1 (wrap64 (x7 - 1))).bind fun oL => (if 0 ≤ oL.1 then (if oL.1 < (x1.size : Int) then (if 0 ≤ x7 then (if x7 < (x1.size : Int) then (if (bt x1 oL.1) = (bt x1 x7) then ((impl_keepTo.f 0 (wrap64 (x7 - 1))).bind fun oK => (if 0 ≤ (wrap64 (x7 - 1)) then (if (wrap64 (x7 - 1)) ≤ (wrap64 (x7 + 1)) then (if (wrap64 (x7 + 1)) ≤ (x1.size : Int) then ((impl_keepTo.f (wrap64 (x7 + 1)) x6).bind fun ip => (some ((([(⟨oK.1, oK.2.1, oK.2.2⟩ : S61), (⟨0, (⟨#[]⟩ : ByteArray), x1.extract ((wrap64 (x7 - 1)) : Int).toNat ((wrap64 (x7 + 1)) : Int).toNat⟩ : S61), (⟨ip.1, ip.2.1, ip.2.2⟩ : S61)] : List (S61))), true))) else (none)) else (none)) else (none))) else (some (([] : List (S61)), false))) else (none)) else (none)) else (none)) else (none)))
end
def impl_Command_parts.f (k : Nat) (a0_0 : Int) (a0_1 : Int) (a0_2 : Int) (a0_3 : ByteArray) (a1 : ByteArray) : Option ((List (S61)) × Bool) := if a0_0 = 1 then ((impl_keepTo.f 0 a0_1).bind fun ir => ((impl_keepTo.f a0_1 (a1.size : Int)).bind fun iq => ((some (([(⟨ir.1, ir.2.1, ir.2.2⟩ : S61), (⟨0, a0_3, (⟨#[]⟩ : ByteArray)⟩ : S61), (⟨iq.1, iq.2.1, iq.2.2⟩ : S61)] : List (S61)) : List (S61))).bind fun y302 => (if a0_3.toList = ([] : List UInt8) then (some (y302, false)) else ((impl_GoodText.f k a0_3).bind fun iX => (some (y302, iX))))))) else (if a0_0 = 2 then (if a0_1 ≥ a0_2 then (impl_Command_parts.j0 k a1 (a1.size : Int) a0_1 a0_2 true) else (if 0 ≤ a0_1 then (if a0_1 ≤ a0_2 then (if a0_2 ≤ (a1.size : Int) then ((impl_GoodDoc.f k (a1.extract (a0_1 : Int).toNat (a0_2 : Int).toNat)).bind fun nx => (impl_Command_parts.j0 k a1 (a1.size : Int) a0_1 a0_2 (!nx))) else (none)) else (none)) else (none))) else (if a0_0 = 3 then (if a0_1 > a0_2 then (impl_Command_parts.j1 k (a1.size : Int) a0_1 a0_2 true a0_0 a0_1 a0_2 a0_3) else (if 0 ≤ a0_1 then (if a0_1 ≤ a0_2 then (if a0_2 ≤ (a1.size : Int) then ((impl_GoodDoc.f k (a1.extract (a0_1 : Int).toNat (a0_2 : Int).toNat)).bind fun nQ => (if nQ = true then ((impl_isNameText.f a0_3).bind fun nw => (impl_Command_parts.j1 k (a1.size : Int) a0_1 a0_2 (!nw) a0_0 a0_1 a0_2 a0_3)) else (impl_Command_parts.j1 k (a1.size : Int) a0_1 a0_2 true a0_0 a0_1 a0_2 a0_3))) else (none)) else (none)) else (none))) else (if a0_0 = 5 then ((impl_around.f k a1 a0_1).bind fun bl => (if (bl.length : Int) = 0 then (some (([] : List (S61)), false)) else (if 0 ≤ (wrap64 ((bl.length : Int) - 1)) then (if (wrap64 ((bl.length : Int) - 1)) < (bl.length : Int) then ((impl_keepTo.f 0 a0_1).bind fun ez => (if 0 ≤ (rd bl (wrap64 ((bl.length : Int) - 1))) then (if (rd bl (wrap64 ((bl.length : Int) - 1))) ≤ (wrap64 ((rd bl (wrap64 ((bl.length : Int) - 1))) + 1)) then (if (wrap64 ((rd bl (wrap64 ((bl.length : Int) - 1))) + 1)) ≤ (a1.size : Int) then (if 1 + (a1.extract ((rd bl (wrap64 ((bl.length : Int) - 1))) : Int).toNat ((wrap64 ((rd bl (wrap64 ((bl.length : Int) - 1))) + 1)) : Int).toNat).size ≤ 9223372036854775807 then ((impl_keepTo.f a0_1 (a1.size : Int)).bind fun ey => (some ((([(⟨ez.1, ez.2.1, ez.2.2⟩ : S61), (⟨0, (⟨#[47]⟩ : ByteArray) ++ (a1.extract ((rd bl (wrap64 ((bl.length : Int) - 1))) : Int).toNat ((wrap64 ((rd bl (wrap64 ((bl.length : Int) - 1))) + 1)) : Int).toNat), (⟨#[]⟩ : ByteArray)⟩ : S61), (⟨ey.1, ey.2.1, ey.2.2⟩ : S61)] : List (S61))), true))) else (none)) else (none)) else (none)) else (none))) else (none)) else (none)))) else (if a0_0 = 6 then (if a0_1 = 0 then (impl_Command_parts.j2 k a1 (a1.size : Int) a0_1 true) else (if a0_1 = (a1.size : Int) then (impl_Command_parts.j2 k a1 (a1.size : Int) a0_1 true) else (if 0 ≤ (wrap64 (a0_1 - 1)) then (if (wrap64 (a0_1 - 1)) < (a1.size : Int) then (if (bt a1 (wrap64 (a0_1 - 1))) = 47 then (if 0 ≤ a0_1 then (if a0_1 < (a1.size : Int) then ((impl_isName.f (bt a1 a0_1)).bind fun kk => (impl_Command_parts.j2 k a1 (a1.size : Int) a0_1 (!kk))) else (none)) else (none)) else (impl_Command_parts.j2 k a1 (a1.size : Int) a0_1 true)) else (none)) else (none)))) else ((impl_Command_onElement.f k a0_0 a0_1 a0_2 a0_3 a1).bind fun kR => (some (kR.1, kR.2)))))))
theorem impl_Command_parts.mono_l : ∀ k, (∀ y0 y1 y2 y3 y4, LeO (impl_Command_parts.j0 k y0 y1 y2 y3 y4) (impl_Command_parts.j0 (k + 1) y0 y1 y2 y3 y4)) ∧ (∀ y0 y1 y2 y3 y4 y5 y6 y7, LeO (impl_Command_parts.j1 k y0 y1 y2 y3 y4 y5 y6 y7) (impl_Command_parts.j1 (k + 1) y0 y1 y2 y3 y4 y5 y6 y7)) ∧ (∀ y0 y1 y2 y3, LeO (impl_Command_parts.j2 k y0 y1 y2 y3) (impl_Command_parts.j2 (k + 1) y0 y1 y2 y3))
 | 0 => ⟨fun _ _ _ _ _ r h => by simp [impl_Command_parts.j0] at h, fun _ _ _ _ _ _ _ _ r h => by simp [impl_Command_parts.j1] at h, fun _ _ _ _ r h => by simp [impl_Command_parts.j2] at h⟩
 | k + 1 => by
  obtain ⟨ih0, ih1, ih2⟩ := impl_Command_parts.mono_l k
  refine ⟨?_, ?_, ?_⟩
  ·intro y0 y1 y2 y3 y4
   unfold impl_Command_parts.j0
   repeat' first
   | (with_reducible exact ih0 _ _ _ _ _)
   | (with_reducible exact ih1 _ _ _ _ _ _ _ _)
   | (with_reducible exact ih2 _ _ _ _)
   | (with_reducible exact impl_Command_onElement.mono _ _ _ _ _ _)
   | (with_reducible exact impl_GoodDoc.mono _ _)
   | (with_reducible exact impl_GoodText.mono _ _)
   | (with_reducible exact impl_MatchOf.mono _ _ _)
   | (with_reducible exact impl_around.mono _ _ _)
   | (with_reducible exact LeO.refl _)
   | (with_reducible exact LeO.none _)
   | (with_reducible refine LeO.ite ?_ ?_)
   | (with_reducible refine LeO.bind ?_ (fun _ => ?_))
  ·intro y0 y1 y2 y3 y4 y5 y6 y7
   unfold impl_Command_parts.j1
   repeat' first
   | (with_reducible exact ih0 _ _ _ _ _)
   | (with_reducible exact ih1 _ _ _ _ _ _ _ _)
   | (with_reducible exact ih2 _ _ _ _)
   | (with_reducible exact impl_Command_onElement.mono _ _ _ _ _ _)
   | (with_reducible exact impl_GoodDoc.mono _ _)
   | (with_reducible exact impl_GoodText.mono _ _)
   | (with_reducible exact impl_MatchOf.mono _ _ _)
   | (with_reducible exact impl_around.mono _ _ _)
   | (with_reducible exact LeO.refl _)
   | (with_reducible exact LeO.none _)
   | (with_reducible refine LeO.ite ?_ ?_)
   | (with_reducible refine LeO.bind ?_ (fun _ => ?_))
  ·intro y0 y1 y2 y3
   unfold impl_Command_parts.j2
   repeat' first
   | (with_reducible exact ih0 _ _ _ _ _)
   | (with_reducible exact ih1 _ _ _ _ _ _ _ _)
   | (with_reducible exact ih2 _ _ _ _)
   | (with_reducible exact impl_Command_onElement.mono _ _ _ _ _ _)
   | (with_reducible exact impl_GoodDoc.mono _ _)
   | (with_reducible exact impl_GoodText.mono _ _)
   | (with_reducible exact impl_MatchOf.mono _ _ _)
   | (with_reducible exact impl_around.mono _ _ _)
   | (with_reducible exact LeO.refl _)
   | (with_reducible exact LeO.none _)
   | (with_reducible refine LeO.ite ?_ ?_)
   | (with_reducible refine LeO.bind ?_ (fun _ => ?_))
theorem impl_Command_parts.mono : ∀ a0 a1 a2 a3 a4 k, LeO (impl_Command_parts.f k a0 a1 a2 a3 a4) (impl_Command_parts.f (k + 1) a0 a1 a2 a3 a4) := by
 intro a0 a1 a2 a3 a4 k
 obtain ⟨ih0, ih1, ih2⟩ := impl_Command_parts.mono_l k
 unfold impl_Command_parts.f
 repeat' first
   | (with_reducible exact ih0 _ _ _ _ _)
   | (with_reducible exact ih1 _ _ _ _ _ _ _ _)
   | (with_reducible exact ih2 _ _ _ _)
   | (with_reducible exact impl_Command_onElement.mono _ _ _ _ _ _)
   | (with_reducible exact impl_GoodDoc.mono _ _)
   | (with_reducible exact impl_GoodText.mono _ _)
   | (with_reducible exact impl_MatchOf.mono _ _ _)
   | (with_reducible exact impl_around.mono _ _ _)
   | (with_reducible exact LeO.refl _)
   | (with_reducible exact LeO.none _)
   | (with_reducible refine LeO.ite ?_ ?_)
   | (with_reducible refine LeO.bind ?_ (fun _ => ?_))
def impl_Command_parts.T5 : Bool × List (List Nat × List Nat) := (true, [([], []), ([0], [0]), ([], []), ([2], [2]), ([3], [3]), ([], []), ([], []), ([5, 6, 1], [5, 6]), ([1, 4, 7], [1, 4, 7]), ([], []), ([9], [9]), ([10], [10]), ([11, 7], [11]), ([12], [12]), ([13, 12], [12, 13]), ([14, 12, 12], [12, 14]), ([12, 15], [12, 15]), ([8, 15, 0, 1, 2, 3, 4, 5, 6, 7, 8], [8]), ([16, 17, 0, 1, 2, 3, 4, 5, 6, 7, 8, 9, 10, 11, 12, 13, 14, 15, 16, 17], [16])])
def impl_Command_parts.B5 : List Nat := [0, 1, 0, 4, 12, 0, 0, 99, 255, 0, 512, 1536, 3811, 7907, 16099, 32483, 65251, 65535, 262143]
theorem impl_Command_parts.tab5 : rtab .any (opsOf Try.f56 5) = impl_Command_parts.T5 := by kernel_rfl
theorem impl_Command_parts.bits5 : waitsOk impl_Command_parts.T5.2 impl_Command_parts.B5 = true := by kernel_rfl
def impl_Command_parts.T9 : Bool × List (List Nat × List Nat) := (true, [([], []), ([0], [0]), ([], []), ([], []), ([], []), ([2, 3, 4], [2, 3, 4]), ([5], [5]), ([], []), ([], []), ([7, 8, 1], [7, 8]), ([1, 6, 9], [1, 6, 9]), ([10, 9, 0, 1, 2, 3, 4, 5, 6, 7, 8, 9, 10], [10]), ([11, 0, 1, 2, 3, 4, 5, 6, 7, 8, 9, 10, 11], [])])
def impl_Command_parts.B9 : List Nat := [0, 1, 0, 0, 0, 28, 60, 0, 0, 387, 1023, 2047, 4095]
theorem impl_Command_parts.tab9 : rtab .any (opsOf Try.f56 9) = impl_Command_parts.T9 := by kernel_rfl
theorem impl_Command_parts.bits9 : waitsOk impl_Command_parts.T9.2 impl_Command_parts.B9 = true := by kernel_rfl
def impl_Command_parts.T13 : Bool × List (List Nat × List Nat) := (true, [([], []), ([0], [0]), ([], []), ([2], [2]), ([3], [3]), ([], []), ([], []), ([5, 6, 1], [5, 6]), ([], []), ([], []), ([], []), ([9, 10, 7], [9, 10]), ([1, 4, 7, 8, 11], [1, 4, 7, 8, 11]), ([12, 11, 0, 1, 2, 3, 4, 5, 6, 7, 8, 9, 10, 11, 12], [12]), ([13, 0, 1, 2, 3, 4, 5, 6, 7, 8, 9, 10, 11, 12, 13], [])])
def impl_Command_parts.B13 : List Nat := [0, 1, 0, 4, 12, 0, 0, 99, 0, 0, 0, 1763, 4095, 8191, 16383]
theorem impl_Command_parts.tab13 : rtab .any (opsOf Try.f56 13) = impl_Command_parts.T13 := by kernel_rfl
theorem impl_Command_parts.bits13 : waitsOk impl_Command_parts.T13.2 impl_Command_parts.B13 = true := by kernel_rfl
def impl_Command_parts.T19 : Bool × List (List Nat × List Nat) := (true, [([], []), ([0], [0]), ([], []), ([], []), ([], []), ([4], [4]), ([2, 3, 5], [2, 3, 5]), ([6], [6]), ([7], [7]), ([], []), ([], []), ([9, 10, 1], [9, 10]), ([1, 8, 11], [1, 8, 11]), ([12, 11, 0, 1, 2, 3, 4, 5, 6, 7, 8, 9, 10, 11, 12], [12]), ([13, 0, 1, 2, 3, 4, 5, 6, 7, 8, 9, 10, 11, 12, 13], [])])
def impl_Command_parts.B19 : List Nat := [0, 1, 0, 0, 0, 16, 60, 124, 252, 0, 0, 1539, 4095, 8191, 16383]
theorem impl_Command_parts.tab19 : rtab .any (opsOf Try.f56 19) = impl_Command_parts.T19 := by kernel_rfl
theorem impl_Command_parts.bits19 : waitsOk impl_Command_parts.T19.2 impl_Command_parts.B19 = true := by kernel_rfl
def impl_Command_parts.T26 : Bool × List (List Nat × List Nat) := (true, [([], []), ([0], [0]), ([1], [1]), ([], []), ([], []), ([4], [4]), ([], []), ([6], [6]), ([3, 5, 7], [3, 5, 7]), ([8], [8]), ([], []), ([10], [10]), ([], []), ([11, 12, 2], [11, 12]), ([2, 9, 13], [2, 9, 13]), ([14, 13, 0, 1, 2, 3, 4, 5, 6, 7, 8, 9, 10, 11, 12, 13, 14], [14]), ([15, 0, 1, 2, 3, 4, 5, 6, 7, 8, 9, 10, 11, 12, 13, 14, 15], [])])
def impl_Command_parts.B26 : List Nat := [0, 1, 3, 0, 0, 16, 0, 64, 248, 504, 0, 1024, 0, 7175, 16383, 32767, 65535]
theorem impl_Command_parts.tab26 : rtab .any (opsOf Try.f56 26) = impl_Command_parts.T26 := by kernel_rfl
theorem impl_Command_parts.bits26 : waitsOk impl_Command_parts.T26.2 impl_Command_parts.B26 = true := by kernel_rfl
set_option maxHeartbeats 8000000 in
set_option maxRecDepth 100000 in
theorem impl_Command_parts.calls (k : Nat) (a0_0 : Int) (a0_1 : Int) (a0_2 : Int) (a0_3 : ByteArray) (a1 : ByteArray) (r1 : List (S61)) (r2 : Bool) (w : World) (h : impl_Command_parts.f k a0_0 a0_1 a0_2 a0_3 a1 = some (r1, r2)) :
  Calls Try.prog 56 #[.agg #[.int .i64 a0_0, .int .i64 a0_1, .int .i64 a0_2, .string a0_3], .string a1] w fun e w' => ∃ v0_ : Value, e = .returned (.tuple #[v0_, .bool r2]) ∧ Kd.R k61 61 w' w.heap.size (fun _ => True) v0_ r1 ∧ Below w.heap.size w w' := by
 have hu29 := Try.underlying29
 have hu61 := Try.underlying61
 have HB := aM (Below.refl w.heap.size w)
 have H : (if a0_0 = 1 then ((impl_keepTo.f 0 a0_1).bind fun ir => ((impl_keepTo.f a0_1 (a1.size : Int)).bind fun iq => ((some (([(⟨ir.1, ir.2.1, ir.2.2⟩ : S61), (⟨0, a0_3, (⟨#[]⟩ : ByteArray)⟩ : S61), (⟨iq.1, iq.2.1, iq.2.2⟩ : S61)] : List (S61)) : List (S61))).bind fun y302 => (if a0_3.toList = ([] : List UInt8) then (some (y302, false)) else ((impl_GoodText.f k a0_3).bind fun iX => (some (y302, iX))))))) else (if a0_0 = 2 then (if a0_1 ≥ a0_2 then (impl_Command_parts.j0 k a1 (a1.size : Int) a0_1 a0_2 true) else (if 0 ≤ a0_1 then (if a0_1 ≤ a0_2 then (if a0_2 ≤ (a1.size : Int) then ((impl_GoodDoc.f k (a1.extract (a0_1 : Int).toNat (a0_2 : Int).toNat)).bind fun nx => (impl_Command_parts.j0 k a1 (a1.size : Int) a0_1 a0_2 (!nx))) else (none)) else (none)) else (none))) else (if a0_0 = 3 then (if a0_1 > a0_2 then (impl_Command_parts.j1 k (a1.size : Int) a0_1 a0_2 true a0_0 a0_1 a0_2 a0_3) else (if 0 ≤ a0_1 then (if a0_1 ≤ a0_2 then (if a0_2 ≤ (a1.size : Int) then ((impl_GoodDoc.f k (a1.extract (a0_1 : Int).toNat (a0_2 : Int).toNat)).bind fun nQ => (if nQ = true then ((impl_isNameText.f a0_3).bind fun nw => (impl_Command_parts.j1 k (a1.size : Int) a0_1 a0_2 (!nw) a0_0 a0_1 a0_2 a0_3)) else (impl_Command_parts.j1 k (a1.size : Int) a0_1 a0_2 true a0_0 a0_1 a0_2 a0_3))) else (none)) else (none)) else (none))) else (if a0_0 = 5 then ((impl_around.f k a1 a0_1).bind fun bl => (if (bl.length : Int) = 0 then (some (([] : List (S61)), false)) else (if 0 ≤ (wrap64 ((bl.length : Int) - 1)) then (if (wrap64 ((bl.length : Int) - 1)) < (bl.length : Int) then ((impl_keepTo.f 0 a0_1).bind fun ez => (if 0 ≤ (rd bl (wrap64 ((bl.length : Int) - 1))) then (if (rd bl (wrap64 ((bl.length : Int) - 1))) ≤ (wrap64 ((rd bl (wrap64 ((bl.length : Int) - 1))) + 1)) then (if (wrap64 ((rd bl (wrap64 ((bl.length : Int) - 1))) + 1)) ≤ (a1.size : Int) then (if 1 + (a1.extract ((rd bl (wrap64 ((bl.length : Int) - 1))) : Int).toNat ((wrap64 ((rd bl (wrap64 ((bl.length : Int) - 1))) + 1)) : Int).toNat).size ≤ 9223372036854775807 then ((impl_keepTo.f a0_1 (a1.size : Int)).bind fun ey => (some ((([(⟨ez.1, ez.2.1, ez.2.2⟩ : S61), (⟨0, (⟨#[47]⟩ : ByteArray) ++ (a1.extract ((rd bl (wrap64 ((bl.length : Int) - 1))) : Int).toNat ((wrap64 ((rd bl (wrap64 ((bl.length : Int) - 1))) + 1)) : Int).toNat), (⟨#[]⟩ : ByteArray)⟩ : S61), (⟨ey.1, ey.2.1, ey.2.2⟩ : S61)] : List (S61))), true))) else (none)) else (none)) else (none)) else (none))) else (none)) else (none)))) else (if a0_0 = 6 then (if a0_1 = 0 then (impl_Command_parts.j2 k a1 (a1.size : Int) a0_1 true) else (if a0_1 = (a1.size : Int) then (impl_Command_parts.j2 k a1 (a1.size : Int) a0_1 true) else (if 0 ≤ (wrap64 (a0_1 - 1)) then (if (wrap64 (a0_1 - 1)) < (a1.size : Int) then (if (bt a1 (wrap64 (a0_1 - 1))) = 47 then (if 0 ≤ a0_1 then (if a0_1 < (a1.size : Int) then ((impl_isName.f (bt a1 a0_1)).bind fun kk => (impl_Command_parts.j2 k a1 (a1.size : Int) a0_1 (!kk))) else (none)) else (none)) else (impl_Command_parts.j2 k a1 (a1.size : Int) a0_1 true)) else (none)) else (none)))) else ((impl_Command_onElement.f k a0_0 a0_1 a0_2 a0_3 a1).bind fun kR => (some (kR.1, kR.2)))))))) = some (r1, r2) := h
 clear h
 by_cases c3 : a0_0 = 1
 ·rw [if_pos c3] at H
  have c3b0 : (a0_0 == 1) = true := qT c3
  have c3b1 : (a0_0 != 1) = false := nF c3
  clear c3
  obtain ⟨⟨er, ep, eo⟩, A4, H⟩ := oA_ H
  try dsimp only at H
  obtain ⟨⟨en, em, el⟩, A5, H⟩ := oA_ H
  try dsimp only at H
  obtain ⟨y302, hy302⟩ : ∃ y_ : List (S61), y_ = (([(⟨er, ep, eo⟩ : S61), (⟨0, a0_3, (⟨#[]⟩ : ByteArray)⟩ : S61), (⟨en, em, el⟩ : S61)] : List (S61))) := ⟨_, rfl⟩
  replace H : (if a0_3.toList = ([] : List UInt8) then (some (y302, false)) else ((impl_GoodText.f k a0_3).bind fun iX => (some (y302, iX)))) = some (r1, r2) := by first | (rw [hy302]; with_reducible exact H) | (have H2_ := (Option.bind_some _ _).symm.trans H; rw [hy302]; with_reducible exact H2_) | (have H2_ := (Option.bind_some _ _).symm.trans H; with_reducible exact H2_) | with_reducible exact H | (rw [hy302]; exact H) | exact H
  have Ny302 := aM hy302
  clear hy302
  by_cases c6 : a0_3.toList = ([] : List UInt8)
  ·rw [if_pos c6] at H
   have c6b0 : (a0_3.toList == ([] : List UInt8)) = true := qT c6
   have c6b1 : (a0_3.toList != ([] : List UInt8)) = false := nF c6
   clear c6
   simp only [Option.some.injEq, Prod.mk.injEq] at H
   obtain ⟨rfl, rfl⟩ := H
   go_enter Try.func56, Try.ntmps56
   try go_wp2_with (first | ((with_reducible refine aw (N := 2) rfl ?_); refine ax ?hg (N := 2) ?hd (cs := #[.int .i64 a0_0, .int .i64 a0_1, .int .i64 a0_2, .string a0_3]) (t := 29) ?hr ?_; (case hd => rfl); (case hg => rfl); (case hr => first | (go_simp; done) | (go_simp; rfl)); intro aW hg w7 hbox hb; have aI := aM (hbox); have iQ := aM ((by rw [hg]; exact (aq z13) : w.heap.size ≤ aW)); have iR := aM ((by rw [hg]; exact (aq z13) : w.heap.size ≤ aW)); replace HB := aM (ap z13 hb); clear hb hbox hg))
   replace aI := aM (ai aI.out)
   replace HB := aM (bD HB.out)
   refine start_ (n := 6) (S := fun w' => w'.cell? ⟨aW, 0, none⟩ = some (.int .i64 a0_0) ∧ w'.cell? ⟨aW, 1, none⟩ = some (.int .i64 a0_1) ∧ w'.cell? ⟨aW, 2, none⟩ = some (.int .i64 a0_2) ∧ w'.cell? ⟨aW, 3, none⟩ = some (.string a0_3)) (ds := []) #[false, false, false, false, false, false] z0 rfl rfl ⟨(bC aI.out 0).trans rfl, (bC aI.out 1).trans rfl, (bC aI.out 2).trans rfl, (bC aI.out 3).trans rfl⟩ (fun hHeld => ?_)
   generalize w7.drew = w8 at aI HB hHeld ⊢
   refine pA 0 15 ?_
   refine pA 2 17 ?_
   refine t4_ 1 16 ?_
   refine pA 4 7 ?_
   refine t4_ 3 18 ?_
   refine pA 5 8 ?_
   refine done_ z0 ?_
   obtain ⟨b4, b3, bZ, cR, b6, bY, bX, cQ⟩ := cc4 aI.out
   try go_wp2
   replace aI := aM (ai aI.out)
   replace HB := aM (bD HB.out)
   refine start_ (n := 19) (S := fun w' => w'.cell? ⟨aW, 0, none⟩ = some (.int .i64 a0_0) ∧ w'.cell? ⟨aW, 1, none⟩ = some (.int .i64 a0_1) ∧ w'.cell? ⟨aW, 2, none⟩ = some (.int .i64 a0_2) ∧ w'.cell? ⟨aW, 3, none⟩ = some (.string a0_3)) (ds := []) #[false, false, false, false, false, false, false, false, false, false, false, false, false, false, false, false, false, false, false] z0 rfl rfl ⟨(bC aI.out 0).trans rfl, (bC aI.out 1).trans rfl, (bC aI.out 2).trans rfl, (bC aI.out 3).trans rfl⟩ (fun hHeld => ?_); refine with_tabW impl_Command_parts.tab5 impl_Command_parts.bits5 (fun HT_ HW_ => ?_)
   generalize w8.drew = w10 at aI HB hHeld ⊢
   refine pA 0 23 ?_
   refine pA 2 25 ?_
   refine pA 5 28 ?_
   refine pA 6 29 ?_
   refine pA 9 32 ?_
   refine t4_ 3 26 ?_
   refine pA 4 27 ?_
   refine t4_ 10 33 ?_
   refine pA 11 34 ?_
   refine one_ (i := 1) (N := some 24) #[true, true, true, true, true, true, true, false, false, true, true, true, false, false, false, false, false, false, false] rfl rfl (one_of HT_.out z0) (by decide) (fun K hK => ?_)
   refine goes_ Try.func77 z0 rfl #[.int .i64 0, .int .i64 a0_1] (by rfl) rfl rfl z14 ?_
   with_reducible refine (impl_keepTo.calls 0 a0_1 er ep eo _ A4.out).mono ?_
   rintro e w11 ⟨rfl, hb⟩
   refine ⟨_, rfl, ?_⟩
   replace aI := aM (bK_ aI.out hb)
   replace HB := aM (ap z18 hb)
   (try clear hb)
   skip
   skip
   skip
   refine hK.out _ _ ⟨(bC aI.out 0).trans rfl, (bC aI.out 1).trans rfl, (bC aI.out 2).trans rfl, (bC aI.out 3).trans rfl⟩ (fun hHeld => ?_)
   clear hK K
   refine norm_ (a' := ?_) ?_ ?_
   rotate_left
   ·show Act.put _ (some 24) _ = _
    simp only [Act.put, sA, sB, sC, i64_w, i32_w]
    rfl
   refine one_ (i := 7) (N := some 30) #[true, true, true, true, true, true, true, true, false, true, true, true, false, false, false, false, false, false, false] rfl rfl (one_of HT_.out z0) (by decide) (fun K hK => ?_)
   refine goes_ Try.func77 z0 rfl #[.int .i64 a0_1, .int .i64 (a1.size : Int)] (by rfl) rfl rfl z14 ?_
   with_reducible refine (impl_keepTo.calls a0_1 (a1.size : Int) en em el _ A5.out).mono ?_
   rintro e w12 ⟨rfl, hb⟩
   refine ⟨_, rfl, ?_⟩
   replace aI := aM (bK_ aI.out hb)
   replace HB := aM (ap z18 hb)
   (try clear hb)
   skip
   skip
   skip
   refine hK.out _ _ ⟨(bC aI.out 0).trans rfl, (bC aI.out 1).trans rfl, (bC aI.out 2).trans rfl, (bC aI.out 3).trans rfl⟩ (fun hHeld => ?_)
   clear hK K
   refine norm_ (a' := ?_) ?_ ?_
   rotate_left
   ·show Act.put _ (some 30) _ = _
    simp only [Act.put, sA, sB, sC, i64_w, i32_w]
    rfl
   refine pA 12 35 ?_
   refine pB 13 36 ?_
   refine pB 14 37 ?_
   refine pB 15 38 ?_
   refine pA 16 39 ?_
   refine one_ (i := 8) (N := some 31) #[true, true, true, true, true, true, true, true, true, true, true, true, true, true, true, true, true, false, false] rfl rfl (one_of HT_.out z0) (by decide) (fun K hK => ?_)
   refine Kd.R_lit_step k61 _ 61 ?hg (N := 31) ?hd (xs := ([(⟨er, ep, eo⟩ : S61), (⟨0, a0_3, (⟨#[]⟩ : ByteArray)⟩ : S61), (⟨en, em, el⟩ : S61)] : List (S61))) (inner := [.int .i64 er, .string ep, .string eo, .int .i64 0, .string a0_3, .string ⟨#[]⟩, .int .i64 en, .string em, .string el]) (ok := fun _ => True) (okp := fun _ => True) ?hr ?hp (fun _ hk => hk) trivial (Below.refl _ _) (Nat.le_refl _) (by simp) ?_; (case hd => rfl); (case hg => rfl); (case hr => first | (go_simp; done) | (go_simp; rfl)); (case hp => exact (Reps.c3 (show Kd.M k61 _ _ _ (⟨er, ep, eo⟩ : S61) [.int .i64 er, .string ep, .string eo] from (k61_mkM _ _ _ (⟨er, ep, eo⟩ : S61) )) (Reps.c3 (show Kd.M k61 _ _ _ (⟨0, a0_3, (⟨#[]⟩ : ByteArray)⟩ : S61) [.int .i64 0, .string a0_3, .string ⟨#[]⟩] from (k61_mkM _ _ _ (⟨0, a0_3, (⟨#[]⟩ : ByteArray)⟩ : S61) )) (Reps.c3 (show Kd.M k61 _ _ _ (⟨en, em, el⟩ : S61) [.int .i64 en, .string em, .string el] from (k61_mkM _ _ _ (⟨en, em, el⟩ : S61) )) (Reps.none _ _)))))
   intro v303 w13 ho14 hb hg_ hnew_
   clear hg_ hnew_
   (first | rw [← Ny302.out] at ho14 | (simp only [Int.reduceToNat] at ho14; rw [← Ny302.out] at ho14))
   have iK := aM (az ho14 (aq z18))
   replace aI := aM (bK_ aI.out hb)
   replace HB := aM (ap z18 hb)
   clear hb ho14
   refine hK.out _ _ ⟨(bC aI.out 0).trans rfl, (bC aI.out 1).trans rfl, (bC aI.out 2).trans rfl, (bC aI.out 3).trans rfl⟩ (fun hHeld => ?_)
   clear hK K
   refine norm_ (a' := ?_) ?_ ?_
   rotate_left
   ·show Act.put _ (some 31) _ = _
    simp only [Act.put, sA, sB, sC, i64_w, i32_w]
    rfl
   refine pA 17 4 ?_
   refine pA 18 5 ?_
   refine done_ (done_of HT_.out z0) ?_
   try go_wp2
   go_ret2
   exact ⟨_, y4, by (with_reducible repeat (first | apply ac | apply ab | apply aa)); exact iK.out, y14⟩
  ·rw [if_neg c6] at H
   have c6b0 : (a0_3.toList == ([] : List UInt8)) = false := qF c6
   have c6b1 : (a0_3.toList != ([] : List UInt8)) = true := nT c6
   obtain ⟨iX, uy, H⟩ := oA_ H
   try dsimp only at H
   simp only [Option.some.injEq, Prod.mk.injEq] at H
   obtain ⟨rfl, rfl⟩ := H
   go_enter Try.func56, Try.ntmps56
   try go_wp2_with (first | ((with_reducible refine aw (N := 2) rfl ?_); refine ax ?hg (N := 2) ?hd (cs := #[.int .i64 a0_0, .int .i64 a0_1, .int .i64 a0_2, .string a0_3]) (t := 29) ?hr ?_; (case hd => rfl); (case hg => rfl); (case hr => first | (go_simp; done) | (go_simp; rfl)); intro aW hg w16 hbox hb; have aI := aM (hbox); have iQ := aM ((by rw [hg]; exact (aq z13) : w.heap.size ≤ aW)); have iR := aM ((by rw [hg]; exact (aq z13) : w.heap.size ≤ aW)); replace HB := aM (ap z13 hb); clear hb hbox hg))
   replace aI := aM (ai aI.out)
   replace HB := aM (bD HB.out)
   refine start_ (n := 6) (S := fun w' => w'.cell? ⟨aW, 0, none⟩ = some (.int .i64 a0_0) ∧ w'.cell? ⟨aW, 1, none⟩ = some (.int .i64 a0_1) ∧ w'.cell? ⟨aW, 2, none⟩ = some (.int .i64 a0_2) ∧ w'.cell? ⟨aW, 3, none⟩ = some (.string a0_3)) (ds := []) #[false, false, false, false, false, false] z0 rfl rfl ⟨(bC aI.out 0).trans rfl, (bC aI.out 1).trans rfl, (bC aI.out 2).trans rfl, (bC aI.out 3).trans rfl⟩ (fun hHeld => ?_)
   generalize w16.drew = w17 at aI HB hHeld ⊢
   refine pA 0 15 ?_
   refine pA 2 17 ?_
   refine t4_ 1 16 ?_
   refine pA 4 7 ?_
   refine t4_ 3 18 ?_
   refine pA 5 8 ?_
   refine done_ z0 ?_
   obtain ⟨ef, ee, ed, ec, eb, ea, d9, d8⟩ := cc4 aI.out
   try go_wp2
   replace aI := aM (ai aI.out)
   replace HB := aM (bD HB.out)
   refine start_ (n := 19) (S := fun w' => w'.cell? ⟨aW, 0, none⟩ = some (.int .i64 a0_0) ∧ w'.cell? ⟨aW, 1, none⟩ = some (.int .i64 a0_1) ∧ w'.cell? ⟨aW, 2, none⟩ = some (.int .i64 a0_2) ∧ w'.cell? ⟨aW, 3, none⟩ = some (.string a0_3)) (ds := []) #[false, false, false, false, false, false, false, false, false, false, false, false, false, false, false, false, false, false, false] z0 rfl rfl ⟨(bC aI.out 0).trans rfl, (bC aI.out 1).trans rfl, (bC aI.out 2).trans rfl, (bC aI.out 3).trans rfl⟩ (fun hHeld => ?_); refine with_tabW impl_Command_parts.tab5 impl_Command_parts.bits5 (fun HT_ HW_ => ?_)
   generalize w17.drew = w19 at aI HB hHeld ⊢
   refine pA 0 23 ?_
   refine pA 2 25 ?_
   refine pA 5 28 ?_
   refine pA 6 29 ?_
   refine pA 9 32 ?_
   refine t4_ 3 26 ?_
   refine pA 4 27 ?_
   refine t4_ 10 33 ?_
   refine pA 11 34 ?_
   refine one_ (i := 1) (N := some 24) #[true, true, true, true, true, true, true, false, false, true, true, true, false, false, false, false, false, false, false] rfl rfl (one_of HT_.out z0) (by decide) (fun K hK => ?_)
   refine goes_ Try.func77 z0 rfl #[.int .i64 0, .int .i64 a0_1] (by rfl) rfl rfl z14 ?_
   with_reducible refine (impl_keepTo.calls 0 a0_1 er ep eo _ A4.out).mono ?_
   rintro e w20 ⟨rfl, hb⟩
   refine ⟨_, rfl, ?_⟩
   replace aI := aM (bK_ aI.out hb)
   replace HB := aM (ap z18 hb)
   (try clear hb)
   skip
   skip
   skip
   refine hK.out _ _ ⟨(bC aI.out 0).trans rfl, (bC aI.out 1).trans rfl, (bC aI.out 2).trans rfl, (bC aI.out 3).trans rfl⟩ (fun hHeld => ?_)
   clear hK K
   refine norm_ (a' := ?_) ?_ ?_
   rotate_left
   ·show Act.put _ (some 24) _ = _
    simp only [Act.put, sA, sB, sC, i64_w, i32_w]
    rfl
   refine one_ (i := 7) (N := some 30) #[true, true, true, true, true, true, true, true, false, true, true, true, false, false, false, false, false, false, false] rfl rfl (one_of HT_.out z0) (by decide) (fun K hK => ?_)
   refine goes_ Try.func77 z0 rfl #[.int .i64 a0_1, .int .i64 (a1.size : Int)] (by rfl) rfl rfl z14 ?_
   with_reducible refine (impl_keepTo.calls a0_1 (a1.size : Int) en em el _ A5.out).mono ?_
   rintro e w21 ⟨rfl, hb⟩
   refine ⟨_, rfl, ?_⟩
   replace aI := aM (bK_ aI.out hb)
   replace HB := aM (ap z18 hb)
   (try clear hb)
   skip
   skip
   skip
   refine hK.out _ _ ⟨(bC aI.out 0).trans rfl, (bC aI.out 1).trans rfl, (bC aI.out 2).trans rfl, (bC aI.out 3).trans rfl⟩ (fun hHeld => ?_)
   clear hK K
   refine norm_ (a' := ?_) ?_ ?_
   rotate_left
   ·show Act.put _ (some 30) _ = _
    simp only [Act.put, sA, sB, sC, i64_w, i32_w]
    rfl
   refine pA 12 35 ?_
   refine pA 13 36 ?_
   refine t4_ 14 37 ?_
   refine join_ (σ := Value) 2 #[true, true, true, true, true, true, true, true, true, true, true, true, true, true, true, true, true, false, false] (fun s_ => [(31, s_), (38, .bool iX), (39, .bool iX)]) (fun s_ w' => (w'.cell? ⟨aW, 0, none⟩ = some (.int .i64 a0_0) ∧ w'.cell? ⟨aW, 1, none⟩ = some (.int .i64 a0_1) ∧ w'.cell? ⟨aW, 2, none⟩ = some (.int .i64 a0_2) ∧ w'.cell? ⟨aW, 3, none⟩ = some (.string a0_3)) ∧ (Kd.R k61 61 w' w.heap.size (fun _ => True) s_ y302) ∧ (w'.heap[aW]? = some (.cells #[.int .i64 a0_0, .int .i64 a0_1, .int .i64 a0_2, .string a0_3] 29 (0, 0))) ∧ (Below w.heap.size w w')) ?_ ?_
   rotate_left
   ·intro hCont
    refine two_ (i := 8) (j := 15) (Ni := some 31) (Nj := some 38) #[true, true, true, true, true, true, true, true, true, true, true, true, true, true, true, false, false, false, false] #[true, true, true, true, true, true, true, true, false, true, true, true, true, true, true, true, false, false, false] rfl rfl rfl rfl (two_of HT_.out z0) (by decide) (by decide) (fun K hK => ?_) (fun K hK => ?_)
    ·skip
     refine Kd.R_lit_step k61 _ 61 ?hg (N := 31) ?hd (xs := ([(⟨er, ep, eo⟩ : S61), (⟨0, a0_3, (⟨#[]⟩ : ByteArray)⟩ : S61), (⟨en, em, el⟩ : S61)] : List (S61))) (inner := [.int .i64 er, .string ep, .string eo, .int .i64 0, .string a0_3, .string ⟨#[]⟩, .int .i64 en, .string em, .string el]) (ok := fun _ => True) (okp := fun _ => True) ?hr ?hp (fun _ hk => hk) trivial (Below.refl _ _) (Nat.le_refl _) (by simp) ?_; (case hd => rfl); (case hg => rfl); (case hr => first | (go_simp; done) | (go_simp; rfl)); (case hp => exact (Reps.c3 (show Kd.M k61 _ _ _ (⟨er, ep, eo⟩ : S61) [.int .i64 er, .string ep, .string eo] from (k61_mkM _ _ _ (⟨er, ep, eo⟩ : S61) )) (Reps.c3 (show Kd.M k61 _ _ _ (⟨0, a0_3, (⟨#[]⟩ : ByteArray)⟩ : S61) [.int .i64 0, .string a0_3, .string ⟨#[]⟩] from (k61_mkM _ _ _ (⟨0, a0_3, (⟨#[]⟩ : ByteArray)⟩ : S61) )) (Reps.c3 (show Kd.M k61 _ _ _ (⟨en, em, el⟩ : S61) [.int .i64 en, .string em, .string el] from (k61_mkM _ _ _ (⟨en, em, el⟩ : S61) )) (Reps.none _ _)))))
     intro v303 w22 ho23 hb hg_ hnew_
     clear hg_ hnew_
     (first | rw [← Ny302.out] at ho23 | (simp only [Int.reduceToNat] at ho23; rw [← Ny302.out] at ho23))
     have iK := aM (az ho23 (aq z18))
     replace aI := aM (bK_ aI.out hb)
     replace HB := aM (ap z18 hb)
     clear hb ho23
     refine hK.out _ _ ⟨(bC aI.out 0).trans rfl, (bC aI.out 1).trans rfl, (bC aI.out 2).trans rfl, (bC aI.out 3).trans rfl⟩ (fun hHeld => ?_)
     clear hK K
     refine norm_ (a' := ?_) ?_ ?_
     rotate_left
     ·show Act.put _ (some 31) _ = _
      simp only [Act.put, sA, sB, sC, i64_w, i32_w]
      rfl
     refine one_ (i := 15) (N := some 38) #[true, true, true, true, true, true, true, true, true, true, true, true, true, true, true, true, false, false, false] rfl rfl (one_of HT_.out z0) (by decide) (fun K hK => ?_)
     refine goes_ Try.func45 z0 rfl #[.string a0_3] (by rfl) rfl rfl z14 ?_
     with_reducible refine (impl_GoodText.calls k a0_3 iX _ uy.out).mono ?_
     rintro e w' ⟨rfl, ⟨nd, rfl⟩⟩
     refine ⟨_, rfl, ?_⟩
     refine hK.out _ _ ⟨(bC aI.out 0).trans rfl, (bC aI.out 1).trans rfl, (bC aI.out 2).trans rfl, (bC aI.out 3).trans rfl⟩ (fun hHeld => ?_)
     clear hK K
     refine norm_ (a' := ?_) ?_ ?_
     rotate_left
     ·show Act.put _ (some 38) _ = _
      simp only [Act.put, sA, sB, sC, i64_w, i32_w]
      rfl
     refine pA 16 39 ?_
     exact norm_ (by simp only [putAll, Act.put, sA, sB, sC] <;> rfl) (hCont (v303) _ ⟨hHeld, (kR_ iK.out), z8, z18⟩)
    ·skip
     refine goes_ Try.func45 z0 rfl #[.string a0_3] (by rfl) rfl rfl z14 ?_
     with_reducible refine (impl_GoodText.calls k a0_3 iX _ uy.out).mono ?_
     rintro e w' ⟨rfl, ⟨nd, rfl⟩⟩
     refine ⟨_, rfl, ?_⟩
     refine hK.out _ _ ⟨(bC aI.out 0).trans rfl, (bC aI.out 1).trans rfl, (bC aI.out 2).trans rfl, (bC aI.out 3).trans rfl⟩ (fun hHeld => ?_)
     clear hK K
     refine norm_ (a' := ?_) ?_ ?_
     rotate_left
     ·show Act.put _ (some 38) _ = _
      simp only [Act.put, sA, sB, sC, i64_w, i32_w]
      rfl
     refine pA 16 39 ?_
     refine one_ (i := 8) (N := some 31) #[true, true, true, true, true, true, true, true, true, true, true, true, true, true, true, true, true, false, false] rfl rfl (one_of HT_.out z0) (by decide) (fun K hK => ?_)
     refine Kd.R_lit_step k61 _ 61 ?hg (N := 31) ?hd (xs := ([(⟨er, ep, eo⟩ : S61), (⟨0, a0_3, (⟨#[]⟩ : ByteArray)⟩ : S61), (⟨en, em, el⟩ : S61)] : List (S61))) (inner := [.int .i64 er, .string ep, .string eo, .int .i64 0, .string a0_3, .string ⟨#[]⟩, .int .i64 en, .string em, .string el]) (ok := fun _ => True) (okp := fun _ => True) ?hr ?hp (fun _ hk => hk) trivial (Below.refl _ _) (Nat.le_refl _) (by simp) ?_; (case hd => rfl); (case hg => rfl); (case hr => first | (go_simp; done) | (go_simp; rfl)); (case hp => exact (Reps.c3 (show Kd.M k61 _ _ _ (⟨er, ep, eo⟩ : S61) [.int .i64 er, .string ep, .string eo] from (k61_mkM _ _ _ (⟨er, ep, eo⟩ : S61) )) (Reps.c3 (show Kd.M k61 _ _ _ (⟨0, a0_3, (⟨#[]⟩ : ByteArray)⟩ : S61) [.int .i64 0, .string a0_3, .string ⟨#[]⟩] from (k61_mkM _ _ _ (⟨0, a0_3, (⟨#[]⟩ : ByteArray)⟩ : S61) )) (Reps.c3 (show Kd.M k61 _ _ _ (⟨en, em, el⟩ : S61) [.int .i64 en, .string em, .string el] from (k61_mkM _ _ _ (⟨en, em, el⟩ : S61) )) (Reps.none _ _)))))
     intro v303 w22 ho23 hb hg_ hnew_
     clear hg_ hnew_
     (first | rw [← Ny302.out] at ho23 | (simp only [Int.reduceToNat] at ho23; rw [← Ny302.out] at ho23))
     have iK := aM (az ho23 (aq z18))
     replace aI := aM (bK_ aI.out hb)
     replace HB := aM (ap z18 hb)
     clear hb ho23
     refine hK.out _ _ ⟨(bC aI.out 0).trans rfl, (bC aI.out 1).trans rfl, (bC aI.out 2).trans rfl, (bC aI.out 3).trans rfl⟩ (fun hHeld => ?_)
     clear hK K
     refine norm_ (a' := ?_) ?_ ?_
     rotate_left
     ·show Act.put _ (some 31) _ = _
      simp only [Act.put, sA, sB, sC, i64_w, i32_w]
      rfl
     exact norm_ (by simp only [putAll, Act.put, sA, sB, sC] <;> rfl) (hCont (v303) _ ⟨hHeld, (kR_ iK.out), z8, z18⟩)
   rintro v303 w24 ⟨hS_, h0_, h1_, h2_⟩
   have aG : Aside0 (Kd.R k61 61 w24 w.heap.size (fun _ => True) v303 y302) := ⟨h0_⟩
   have aH : Aside0 (w24.heap[aW]? = some (.cells #[.int .i64 a0_0, .int .i64 a0_1, .int .i64 a0_2, .string a0_3] 29 (0, 0))) := ⟨h1_⟩
   have aN : Aside0 (Below w.heap.size w w24) := ⟨h2_⟩
   clear aI
   clear HB
   clear h0_ h1_ h2_
   have iK := aG
   have aI := aH
   have HB := aN
   clear aG aH aN
   have hHeld : w24.cell? ⟨aW, 0, none⟩ = some (.int .i64 a0_0) ∧ w24.cell? ⟨aW, 1, none⟩ = some (.int .i64 a0_1) ∧ w24.cell? ⟨aW, 2, none⟩ = some (.int .i64 a0_2) ∧ w24.cell? ⟨aW, 3, none⟩ = some (.string a0_3) := hS_
   refine norm_ (a' := ?_) ?_ ?_
   rotate_left
   ·simp only [putAll, Act.put, sA, sB, sC]
    rfl
   refine pA 17 4 ?_
   refine pA 18 5 ?_
   refine done_ (done_of HT_.out z0) ?_
   try go_wp2
   go_ret2
   exact ⟨_, y4, by (with_reducible repeat (first | apply ac | apply ab | apply aa)); exact iK.out, y14⟩
 ·rw [if_neg c3] at H
  have c3b0 : (a0_0 == 1) = false := qF c3
  have c3b1 : (a0_0 != 1) = true := nT c3
  by_cases e7 : a0_0 = 2
  ·rw [if_pos e7] at H
   have c25b0 : (a0_0 == 2) = true := qT e7
   have c25b1 : (a0_0 != 2) = false := nF e7
   clear e7
   have rA := aM H
   clear H
   go_enter Try.func56, Try.ntmps56
   try go_wp2_with (first | ((with_reducible refine aw (N := 2) rfl ?_); refine ax ?hg (N := 2) ?hd (cs := #[.int .i64 a0_0, .int .i64 a0_1, .int .i64 a0_2, .string a0_3]) (t := 29) ?hr ?_; (case hd => rfl); (case hg => rfl); (case hr => first | (go_simp; done) | (go_simp; rfl)); intro aW hg w27 hbox hb; have aI := aM (hbox); have iQ := aM ((by rw [hg]; exact (aq z13) : w.heap.size ≤ aW)); have iR := aM ((by rw [hg]; exact (aq z13) : w.heap.size ≤ aW)); replace HB := aM (ap z13 hb); clear hb hbox hg))
   replace aI := aM (ai aI.out)
   replace HB := aM (bD HB.out)
   refine start_ (n := 6) (S := fun w' => w'.cell? ⟨aW, 0, none⟩ = some (.int .i64 a0_0) ∧ w'.cell? ⟨aW, 1, none⟩ = some (.int .i64 a0_1) ∧ w'.cell? ⟨aW, 2, none⟩ = some (.int .i64 a0_2) ∧ w'.cell? ⟨aW, 3, none⟩ = some (.string a0_3)) (ds := []) #[false, false, false, false, false, false] z0 rfl rfl ⟨(bC aI.out 0).trans rfl, (bC aI.out 1).trans rfl, (bC aI.out 2).trans rfl, (bC aI.out 3).trans rfl⟩ (fun hHeld => ?_)
   generalize w27.drew = w28 at aI HB hHeld ⊢
   refine pA 0 15 ?_
   refine pA 2 17 ?_
   refine t4_ 1 16 ?_
   refine pA 4 7 ?_
   refine t4_ 3 18 ?_
   refine pA 5 8 ?_
   refine done_ z0 ?_
   obtain ⟨fZ, fY, fX, fW, fA, fz, fy, fx⟩ := cc4 aI.out
   go_upto_region 7 with (fail)
   go_cut [52] (fun v52 wc => ∃ (kq : Nat) (x52_25 : Bool), v52 = .bool x52_25 ∧ Aside0 (impl_Command_parts.j0 kq a1 (a1.size : Int) a0_1 a0_2 x52_25 = some (r1, r2)) ∧ Aside0 (kq ≤ k) ∧ Aside0 (wc.heap[aW]? = some (.cells #[.int .i64 a0_0, .int .i64 a0_1, .int .i64 a0_2, .string a0_3] 29 (0, 0))) ∧ Aside0 (Below w.heap.size w wc))
   case first =>
    have H := rA.out
    clear rA
    by_cases e3 : a0_1 ≥ a0_2
    ·rw [if_pos e3] at H
     have c30b0 : decide (a0_2 ≤ a0_1) = true := dT e3
     clear e3
     (first | rw [c30b0] | (simp only [i64_w, i32_w]; rw [c30b0]) | skip)
     have H' := aM H
     clear H
     go_wp2
     go_meet
     case rel => exact ⟨_, (true), z1, H', ⟨y0⟩, ⟨y7⟩, ⟨y14⟩⟩
    ·rw [if_neg e3] at H
     have c30b0 : decide (a0_2 ≤ a0_1) = false := dF e3
     clear e3
     (first | rw [c30b0] | (simp only [i64_w, i32_w]; rw [c30b0]) | skip)
     by_cases dS : 0 ≤ a0_1
     ·rw [if_pos dS] at H
      have c31b0 := eq_true dS
      have c31b1 : decide (0 ≤ a0_1) = true := dT dS
      clear dS
      by_cases gn : a0_1 ≤ a0_2
      ·rw [if_pos gn] at H
       have c32b0 := eq_true gn
       have c32b1 : decide (a0_1 ≤ a0_2) = true := dT gn
       clear gn
       by_cases gs : a0_2 ≤ (a1.size : Int)
       ·rw [if_pos gs] at H
        have c33b0 := eq_true gs
        have c33b1 : decide (a0_2 ≤ (a1.size : Int)) = true := dT gs
        clear gs
        obtain ⟨nx, A34, H⟩ := oA_ H
        try dsimp only at H
        have H' := aM H
        clear H
        go_wp2_with (first | (go_at_call 18; (with_reducible refine (impl_GoodDoc.calls k (a1.extract (a0_1 : Int).toNat (a0_2 : Int).toNat) nx _ A34.out).mono ?_); rintro e w35 ⟨rfl, hb⟩; replace aI := aM (bK_ aI.out hb); replace HB := aM (ap z18 hb); (try clear hb)))
        go_meet
        case rel => exact ⟨_, (!nx), z1, H', ⟨y0⟩, ⟨y7⟩, ⟨y14⟩⟩
       ·rw [if_neg gs] at H
        exact absurd H (by simp)
      ·rw [if_neg gn] at H
       exact absurd H (by simp)
     ·rw [if_neg dS] at H
      exact absurd H (by simp)
   case rest =>
    clear rA
    try clear c3
    try clear c3b0
    try clear c3b1
    try clear e7
    try clear c25b0
    try clear c25b1
    try clear fZ
    try clear fY
    try clear fX
    try clear fW
    try clear fA
    try clear fz
    try clear fy
    try clear fx
    obtain ⟨kq, x52_25, rfl, HA, HJ25, aI, HB⟩ := hcut
    cases kq with
    | zero => exact absurd HA.out (by simp [impl_Command_parts.j0])
    | succ kj25 =>
     have H := HA.out
     clear HA
     simp only [impl_Command_parts.j0] at H
     by_cases om : x52_25 = true
     ·subst om
      rw [if_pos rfl] at H
      simp only [Option.some.injEq, Prod.mk.injEq] at H
      obtain ⟨rfl, rfl⟩ := H
      go_wp2
      go_ret2
      exact ⟨_, y4, y20, y14⟩
     ·replace om := Bool.eq_false_iff.mpr om
      subst om
      rw [if_neg nF_] at H
      obtain ⟨⟨lB, lA, lz⟩, ud, H⟩ := oA_ H
      try dsimp only at H
      by_cases gF : 0 ≤ a0_1
      ·rw [if_pos gF] at H
       have c38b0 := eq_true gF
       have c38b1 : decide (0 ≤ a0_1) = true := dT gF
       clear gF
       by_cases nJ : a0_1 ≤ a0_2
       ·rw [if_pos nJ] at H
        have c39b0 := eq_true nJ
        have c39b1 : decide (a0_1 ≤ a0_2) = true := dT nJ
        clear nJ
        by_cases nn : a0_2 ≤ (a1.size : Int)
        ·rw [if_pos nn] at H
         have c40b0 := eq_true nn
         have c40b1 : decide (a0_2 ≤ (a1.size : Int)) = true := dT nn
         clear nn
         obtain ⟨⟨ly, lx, lw⟩, A41, H⟩ := oA_ H
         try dsimp only at H
         obtain ⟨y313, hy313⟩ : ∃ y_ : List (S61), y_ = (([(⟨lB, lA, lz⟩ : S61), (⟨0, (⟨#[]⟩ : ByteArray), a1.extract (a0_1 : Int).toNat (a0_2 : Int).toNat⟩ : S61), (⟨ly, lx, lw⟩ : S61)] : List (S61))) := ⟨_, rfl⟩
         replace H : (some (y313, true)) = some (r1, r2) := by first | (rw [hy313]; with_reducible exact H) | (have H2_ := (Option.bind_some _ _).symm.trans H; rw [hy313]; with_reducible exact H2_) | (have H2_ := (Option.bind_some _ _).symm.trans H; with_reducible exact H2_) | with_reducible exact H | (rw [hy313]; exact H) | exact H
         have Ny313 := aM hy313
         clear hy313
         simp only [Option.some.injEq, Prod.mk.injEq] at H
         obtain ⟨rfl, rfl⟩ := H
         try go_wp2
         replace aI := aM (ai aI.out)
         replace HB := aM (bD HB.out)
         refine start_ (n := 13) (S := fun w' => True) (ds := []) #[false, false, false, false, false, false, false, false, false, false, false, false, false] z0 rfl rfl trivial (fun hHeld => ?_); refine with_tabW impl_Command_parts.tab9 impl_Command_parts.bits9 (fun HT_ HW_ => ?_)
         generalize wc.drew = w42 at aI HB hHeld ⊢
         refine pA 0 53 ?_
         refine pA 2 55 ?_
         refine pA 3 56 ?_
         refine pA 4 57 ?_
         refine pA 5 58 ?_
         refine pA 6 59 ?_
         refine pA 7 60 ?_
         refine pA 8 61 ?_
         refine one_ (i := 1) (N := some 54) #[true, true, true, true, true, true, true, true, true, false, false, false, false] rfl rfl (one_of HT_.out z0) (by decide) (fun K hK => ?_)
         refine goes_ Try.func77 z0 rfl #[.int .i64 0, .int .i64 a0_1] (by rfl) rfl rfl z14 ?_
         with_reducible refine (impl_keepTo.calls 0 a0_1 lB lA lz _ ud.out).mono ?_
         rintro e w43 ⟨rfl, hb⟩
         refine ⟨_, rfl, ?_⟩
         replace aI := aM (bK_ aI.out hb)
         replace HB := aM (ap z18 hb)
         (try clear hb)
         skip
         skip
         skip
         refine hK.out _ _ trivial (fun hHeld => ?_)
         clear hK K
         refine norm_ (a' := ?_) ?_ ?_
         rotate_left
         ·show Act.put _ (some 54) _ = _
          simp only [Act.put, sA, sB, sC, i64_w, i32_w]
          rfl
         refine one_ (i := 9) (N := some 62) #[true, true, true, true, true, true, true, true, true, true, false, false, false] rfl rfl (one_of HT_.out z0) (by decide) (fun K hK => ?_)
         refine goes_ Try.func77 z0 rfl #[.int .i64 a0_2, .int .i64 (a1.size : Int)] (by rfl) rfl rfl z14 ?_
         with_reducible refine (impl_keepTo.calls a0_2 (a1.size : Int) ly lx lw _ A41.out).mono ?_
         rintro e w44 ⟨rfl, hb⟩
         refine ⟨_, rfl, ?_⟩
         replace aI := aM (bK_ aI.out hb)
         replace HB := aM (ap z18 hb)
         (try clear hb)
         skip
         skip
         skip
         refine hK.out _ _ trivial (fun hHeld => ?_)
         clear hK K
         refine norm_ (a' := ?_) ?_ ?_
         rotate_left
         ·show Act.put _ (some 62) _ = _
          simp only [Act.put, sA, sB, sC, i64_w, i32_w]
          rfl
         refine one_ (i := 10) (N := some 63) #[true, true, true, true, true, true, true, true, true, true, true, false, false] rfl rfl (one_of HT_.out z0) (by decide) (fun K hK => ?_)
         refine Kd.R_lit_step k61 _ 61 ?hg (N := 63) ?hd (xs := ([(⟨lB, lA, lz⟩ : S61), (⟨0, (⟨#[]⟩ : ByteArray), a1.extract (a0_1 : Int).toNat (a0_2 : Int).toNat⟩ : S61), (⟨ly, lx, lw⟩ : S61)] : List (S61))) (inner := [.int .i64 lB, .string lA, .string lz, .int .i64 0, .string ⟨#[]⟩, .string (a1.extract (a0_1 : Int).toNat (a0_2 : Int).toNat), .int .i64 ly, .string lx, .string lw]) (ok := fun _ => True) (okp := fun _ => True) ?hr ?hp (fun _ hk => hk) trivial (Below.refl _ _) (Nat.le_refl _) (by simp) ?_; (case hd => rfl); (case hg => rfl); (case hr => first | (go_simp; done) | (go_simp; rfl)); (case hp => exact (Reps.c3 (show Kd.M k61 _ _ _ (⟨lB, lA, lz⟩ : S61) [.int .i64 lB, .string lA, .string lz] from (k61_mkM _ _ _ (⟨lB, lA, lz⟩ : S61) )) (Reps.c3 (show Kd.M k61 _ _ _ (⟨0, (⟨#[]⟩ : ByteArray), a1.extract (a0_1 : Int).toNat (a0_2 : Int).toNat⟩ : S61) [.int .i64 0, .string ⟨#[]⟩, .string (a1.extract (a0_1 : Int).toNat (a0_2 : Int).toNat)] from (k61_mkM _ _ _ (⟨0, (⟨#[]⟩ : ByteArray), a1.extract (a0_1 : Int).toNat (a0_2 : Int).toNat⟩ : S61) )) (Reps.c3 (show Kd.M k61 _ _ _ (⟨ly, lx, lw⟩ : S61) [.int .i64 ly, .string lx, .string lw] from (k61_mkM _ _ _ (⟨ly, lx, lw⟩ : S61) )) (Reps.none _ _)))))
         intro v314 w45 ho46 hb hg_ hnew_
         clear hg_ hnew_
         (first | rw [← Ny313.out] at ho46 | (simp only [Int.reduceToNat] at ho46; rw [← Ny313.out] at ho46))
         have HO315 := aM (az ho46 (aq z18))
         replace aI := aM (bK_ aI.out hb)
         replace HB := aM (ap z18 hb)
         clear hb ho46
         refine hK.out _ _ trivial (fun hHeld => ?_)
         clear hK K
         refine norm_ (a' := ?_) ?_ ?_
         rotate_left
         ·show Act.put _ (some 63) _ = _
          simp only [Act.put, sA, sB, sC, i64_w, i32_w]
          rfl
         refine pA 11 4 ?_
         refine pA 12 5 ?_
         refine done_ (done_of HT_.out z0) ?_
         try go_wp2
         go_ret2
         exact ⟨_, y4, by (with_reducible repeat (first | apply ac | apply ab | apply aa)); exact HO315.out, y14⟩
        ·rw [if_neg nn] at H
         exact absurd H (by simp)
       ·rw [if_neg nJ] at H
        exact absurd H (by simp)
      ·rw [if_neg gF] at H
       exact absurd H (by simp)
  ·rw [if_neg e7] at H
   have c25b0 : (a0_0 == 2) = false := qF e7
   have c25b1 : (a0_0 != 2) = true := nT e7
   by_cases gb : a0_0 = 3
   ·rw [if_pos gb] at H
    have c47b0 : (a0_0 == 3) = true := qT gb
    have c47b1 : (a0_0 != 3) = false := nF gb
    clear gb
    have rx := aM H
    clear H
    go_enter Try.func56, Try.ntmps56
    try go_wp2_with (first | ((with_reducible refine aw (N := 2) rfl ?_); refine ax ?hg (N := 2) ?hd (cs := #[.int .i64 a0_0, .int .i64 a0_1, .int .i64 a0_2, .string a0_3]) (t := 29) ?hr ?_; (case hd => rfl); (case hg => rfl); (case hr => first | (go_simp; done) | (go_simp; rfl)); intro aW hg w49 hbox hb; have aI := aM (hbox); have iQ := aM ((by rw [hg]; exact (aq z13) : w.heap.size ≤ aW)); have iR := aM ((by rw [hg]; exact (aq z13) : w.heap.size ≤ aW)); replace HB := aM (ap z13 hb); clear hb hbox hg))
    replace aI := aM (ai aI.out)
    replace HB := aM (bD HB.out)
    refine start_ (n := 6) (S := fun w' => w'.cell? ⟨aW, 0, none⟩ = some (.int .i64 a0_0) ∧ w'.cell? ⟨aW, 1, none⟩ = some (.int .i64 a0_1) ∧ w'.cell? ⟨aW, 2, none⟩ = some (.int .i64 a0_2) ∧ w'.cell? ⟨aW, 3, none⟩ = some (.string a0_3)) (ds := []) #[false, false, false, false, false, false] z0 rfl rfl ⟨(bC aI.out 0).trans rfl, (bC aI.out 1).trans rfl, (bC aI.out 2).trans rfl, (bC aI.out 3).trans rfl⟩ (fun hHeld => ?_)
    generalize w49.drew = w50 at aI HB hHeld ⊢
    refine pA 0 15 ?_
    refine pA 2 17 ?_
    refine t4_ 1 16 ?_
    refine pA 4 7 ?_
    refine t4_ 3 18 ?_
    refine pA 5 8 ?_
    refine done_ z0 ?_
    obtain ⟨hcz51_0, hcz51_1, hcz51_2, hcz51_3, hfz51_0, hfz51_1, hfz51_2, hfz51_3⟩ := cc4 aI.out
    go_upto_region 11 with (fail)
    go_cut [82] (fun v82 wc => ∃ (kq : Nat) (x82_47 : Bool), v82 = .bool x82_47 ∧ Aside0 (impl_Command_parts.j1 kq (a1.size : Int) a0_1 a0_2 x82_47 a0_0 a0_1 a0_2 a0_3 = some (r1, r2)) ∧ Aside0 (kq ≤ k) ∧ Aside0 (wc.heap[aW]? = some (.cells #[.int .i64 a0_0, .int .i64 a0_1, .int .i64 a0_2, .string a0_3] 29 (0, 0))) ∧ Aside0 (Below w.heap.size w wc))
    case first =>
     have H := rx.out
     clear rx
     by_cases kJ : a0_1 > a0_2
     ·rw [if_pos kJ] at H
      have c52b0 : decide (a0_2 < a0_1) = true := dT kJ
      clear kJ
      (first | rw [c52b0] | (simp only [i64_w, i32_w]; rw [c52b0]) | skip)
      have H' := aM H
      clear H
      go_wp2
      go_meet
      case rel => exact ⟨_, (true), z1, H', ⟨y0⟩, ⟨y7⟩, ⟨y14⟩⟩
     ·rw [if_neg kJ] at H
      have c52b0 : decide (a0_2 < a0_1) = false := dF kJ
      clear kJ
      (first | rw [c52b0] | (simp only [i64_w, i32_w]; rw [c52b0]) | skip)
      by_cases gm : 0 ≤ a0_1
      ·rw [if_pos gm] at H
       have c53b0 := eq_true gm
       have c53b1 : decide (0 ≤ a0_1) = true := dT gm
       clear gm
       by_cases ke : a0_1 ≤ a0_2
       ·rw [if_pos ke] at H
        have c54b0 := eq_true ke
        have c54b1 : decide (a0_1 ≤ a0_2) = true := dT ke
        clear ke
        by_cases i9 : a0_2 ≤ (a1.size : Int)
        ·rw [if_pos i9] at H
         have c55b0 := eq_true i9
         have c55b1 : decide (a0_2 ≤ (a1.size : Int)) = true := dT i9
         clear i9
         obtain ⟨nQ, ut, H⟩ := oA_ H
         try dsimp only at H
         by_cases gB : nQ = true
         ·subst gB
          rw [if_pos rfl] at H
          obtain ⟨nw, A58, H⟩ := oA_ H
          try dsimp only at H
          have H' := aM H
          clear H
          go_wp2_with (first | (go_at_call 18; (with_reducible refine (impl_GoodDoc.calls k (a1.extract (a0_1 : Int).toNat (a0_2 : Int).toNat) true _ ut.out).mono ?_); rintro e w59 ⟨rfl, hb⟩; replace aI := aM (bK_ aI.out hb); replace HB := aM (ap z18 hb); (try clear hb); obtain ⟨hcz60_0, hcz60_1, hcz60_2, hcz60_3, hfz60_0, hfz60_1, hfz60_2, hfz60_3⟩ := cc4 aI.out) | (go_at_call 78; (with_reducible refine (impl_isNameText.calls a0_3 nw _ A58.out).mono ?_); rintro e w' ⟨rfl, ⟨nd, rfl⟩⟩))
          go_meet
          case rel => exact ⟨_, (!nw), z1, H', ⟨y0⟩, ⟨y7⟩, ⟨y14⟩⟩
         ·replace gB := Bool.eq_false_iff.mpr gB
          subst gB
          rw [if_neg nF_] at H
          have H' := aM H
          clear H
          go_wp2_with (first | (go_at_call 18; (with_reducible refine (impl_GoodDoc.calls k (a1.extract (a0_1 : Int).toNat (a0_2 : Int).toNat) false _ ut.out).mono ?_); rintro e w61 ⟨rfl, hb⟩; replace aI := aM (bK_ aI.out hb); replace HB := aM (ap z18 hb); (try clear hb)))
          go_meet
          case rel => exact ⟨_, (true), z1, H', ⟨y0⟩, ⟨y7⟩, ⟨y14⟩⟩
        ·rw [if_neg i9] at H
         exact absurd H (by simp)
       ·rw [if_neg ke] at H
        exact absurd H (by simp)
      ·rw [if_neg gm] at H
       exact absurd H (by simp)
    case rest =>
     clear rx
     try clear c3
     try clear c3b0
     try clear c3b1
     try clear e7
     try clear c25b0
     try clear c25b1
     try clear gb
     try clear c47b0
     try clear c47b1
     try clear hcz51_0
     try clear hcz51_1
     try clear hcz51_2
     try clear hcz51_3
     try clear hfz51_0
     try clear hfz51_1
     try clear hfz51_2
     try clear hfz51_3
     obtain ⟨kq, x82_47, rfl, HA, HJ47, aI, HB⟩ := hcut
     cases kq with
     | zero => exact absurd HA.out (by simp [impl_Command_parts.j1])
     | succ kj47 =>
      have H := HA.out
      clear HA
      simp only [impl_Command_parts.j1] at H
      by_cases iZ : x82_47 = true
      ·subst iZ
       rw [if_pos rfl] at H
       simp only [Option.some.injEq, Prod.mk.injEq] at H
       obtain ⟨rfl, rfl⟩ := H
       go_wp2
       go_ret2
       exact ⟨_, y4, y20, y14⟩
      ·replace iZ := Bool.eq_false_iff.mpr iZ
       subst iZ
       rw [if_neg nF_] at H
       obtain ⟨⟨lv, lu, ls⟩, rM, H⟩ := oA_ H
       try dsimp only at H
       obtain ⟨⟨lr, lq, lp⟩, A64, H⟩ := oA_ H
       try dsimp only at H
       obtain ⟨⟨ln, lm, ll⟩, qo, H⟩ := oA_ H
       try dsimp only at H
       obtain ⟨y327, hy327⟩ : ∃ y_ : List (S61), y_ = (([(⟨lv, lu, ls⟩ : S61), (⟨0, a0_3, (⟨#[]⟩ : ByteArray)⟩ : S61), (⟨lr, lq, lp⟩ : S61), (⟨0, (⟨#[47]⟩ : ByteArray), (⟨#[]⟩ : ByteArray)⟩ : S61), (⟨ln, lm, ll⟩ : S61)] : List (S61))) := ⟨_, rfl⟩
       replace H : (some (y327, true)) = some (r1, r2) := by first | (rw [hy327]; with_reducible exact H) | (have H2_ := (Option.bind_some _ _).symm.trans H; rw [hy327]; with_reducible exact H2_) | (have H2_ := (Option.bind_some _ _).symm.trans H; with_reducible exact H2_) | with_reducible exact H | (rw [hy327]; exact H) | exact H
       have Ny327 := aM hy327
       clear hy327
       simp only [Option.some.injEq, Prod.mk.injEq] at H
       obtain ⟨rfl, rfl⟩ := H
       try go_wp2
       replace aI := aM (ai aI.out)
       replace HB := aM (bD HB.out)
       refine start_ (n := 15) (S := fun w' => w'.cell? ⟨aW, 0, none⟩ = some (.int .i64 a0_0) ∧ w'.cell? ⟨aW, 1, none⟩ = some (.int .i64 a0_1) ∧ w'.cell? ⟨aW, 2, none⟩ = some (.int .i64 a0_2) ∧ w'.cell? ⟨aW, 3, none⟩ = some (.string a0_3)) (ds := []) #[false, false, false, false, false, false, false, false, false, false, false, false, false, false, false] z0 rfl rfl ⟨(bC aI.out 0).trans rfl, (bC aI.out 1).trans rfl, (bC aI.out 2).trans rfl, (bC aI.out 3).trans rfl⟩ (fun hHeld => ?_); refine with_tabW impl_Command_parts.tab13 impl_Command_parts.bits13 (fun HT_ HW_ => ?_)
       generalize wc.drew = w66 at aI HB hHeld ⊢
       refine pA 0 83 ?_
       refine pA 2 85 ?_
       refine pA 5 88 ?_
       refine pA 6 89 ?_
       refine pA 8 91 ?_
       refine pA 9 92 ?_
       refine pA 10 93 ?_
       refine t4_ 3 86 ?_
       refine pA 4 87 ?_
       refine one_ (i := 1) (N := some 84) #[true, true, true, true, true, true, true, false, true, true, true, false, false, false, false] rfl rfl (one_of HT_.out z0) (by decide) (fun K hK => ?_)
       refine goes_ Try.func77 z0 rfl #[.int .i64 0, .int .i64 a0_1] (by rfl) rfl rfl z14 ?_
       with_reducible refine (impl_keepTo.calls 0 a0_1 lv lu ls _ rM.out).mono ?_
       rintro e w67 ⟨rfl, hb⟩
       refine ⟨_, rfl, ?_⟩
       replace aI := aM (bK_ aI.out hb)
       replace HB := aM (ap z18 hb)
       (try clear hb)
       skip
       skip
       skip
       refine hK.out _ _ ⟨(bC aI.out 0).trans rfl, (bC aI.out 1).trans rfl, (bC aI.out 2).trans rfl, (bC aI.out 3).trans rfl⟩ (fun hHeld => ?_)
       clear hK K
       refine norm_ (a' := ?_) ?_ ?_
       rotate_left
       ·show Act.put _ (some 84) _ = _
        simp only [Act.put, sA, sB, sC, i64_w, i32_w]
        rfl
       refine one_ (i := 7) (N := some 90) #[true, true, true, true, true, true, true, true, true, true, true, false, false, false, false] rfl rfl (one_of HT_.out z0) (by decide) (fun K hK => ?_)
       refine goes_ Try.func77 z0 rfl #[.int .i64 a0_1, .int .i64 a0_2] (by rfl) rfl rfl z14 ?_
       with_reducible refine (impl_keepTo.calls a0_1 a0_2 lr lq lp _ A64.out).mono ?_
       rintro e w68 ⟨rfl, hb⟩
       refine ⟨_, rfl, ?_⟩
       replace aI := aM (bK_ aI.out hb)
       replace HB := aM (ap z18 hb)
       (try clear hb)
       skip
       skip
       skip
       refine hK.out _ _ ⟨(bC aI.out 0).trans rfl, (bC aI.out 1).trans rfl, (bC aI.out 2).trans rfl, (bC aI.out 3).trans rfl⟩ (fun hHeld => ?_)
       clear hK K
       refine norm_ (a' := ?_) ?_ ?_
       rotate_left
       ·show Act.put _ (some 90) _ = _
        simp only [Act.put, sA, sB, sC, i64_w, i32_w]
        rfl
       refine one_ (i := 11) (N := some 94) #[true, true, true, true, true, true, true, true, true, true, true, true, false, false, false] rfl rfl (one_of HT_.out z0) (by decide) (fun K hK => ?_)
       refine goes_ Try.func77 z0 rfl #[.int .i64 a0_2, .int .i64 (a1.size : Int)] (by rfl) rfl rfl z14 ?_
       with_reducible refine (impl_keepTo.calls a0_2 (a1.size : Int) ln lm ll _ qo.out).mono ?_
       rintro e w69 ⟨rfl, hb⟩
       refine ⟨_, rfl, ?_⟩
       replace aI := aM (bK_ aI.out hb)
       replace HB := aM (ap z18 hb)
       (try clear hb)
       skip
       skip
       skip
       refine hK.out _ _ ⟨(bC aI.out 0).trans rfl, (bC aI.out 1).trans rfl, (bC aI.out 2).trans rfl, (bC aI.out 3).trans rfl⟩ (fun hHeld => ?_)
       clear hK K
       refine norm_ (a' := ?_) ?_ ?_
       rotate_left
       ·show Act.put _ (some 94) _ = _
        simp only [Act.put, sA, sB, sC, i64_w, i32_w]
        rfl
       refine one_ (i := 12) (N := some 95) #[true, true, true, true, true, true, true, true, true, true, true, true, true, false, false] rfl rfl (one_of HT_.out z0) (by decide) (fun K hK => ?_)
       refine Kd.R_lit_step k61 _ 61 ?hg (N := 95) ?hd (xs := ([(⟨lv, lu, ls⟩ : S61), (⟨0, a0_3, (⟨#[]⟩ : ByteArray)⟩ : S61), (⟨lr, lq, lp⟩ : S61), (⟨0, (⟨#[47]⟩ : ByteArray), (⟨#[]⟩ : ByteArray)⟩ : S61), (⟨ln, lm, ll⟩ : S61)] : List (S61))) (inner := [.int .i64 lv, .string lu, .string ls, .int .i64 0, .string a0_3, .string ⟨#[]⟩, .int .i64 lr, .string lq, .string lp, .int .i64 0, .string (⟨#[47]⟩ : ByteArray), .string ⟨#[]⟩, .int .i64 ln, .string lm, .string ll]) (ok := fun _ => True) (okp := fun _ => True) ?hr ?hp (fun _ hk => hk) trivial (Below.refl _ _) (Nat.le_refl _) (by simp) ?_; (case hd => rfl); (case hg => rfl); (case hr => first | (go_simp; done) | (go_simp; rfl)); (case hp => exact (Reps.c3 (show Kd.M k61 _ _ _ (⟨lv, lu, ls⟩ : S61) [.int .i64 lv, .string lu, .string ls] from (k61_mkM _ _ _ (⟨lv, lu, ls⟩ : S61) )) (Reps.c3 (show Kd.M k61 _ _ _ (⟨0, a0_3, (⟨#[]⟩ : ByteArray)⟩ : S61) [.int .i64 0, .string a0_3, .string ⟨#[]⟩] from (k61_mkM _ _ _ (⟨0, a0_3, (⟨#[]⟩ : ByteArray)⟩ : S61) )) (Reps.c3 (show Kd.M k61 _ _ _ (⟨lr, lq, lp⟩ : S61) [.int .i64 lr, .string lq, .string lp] from (k61_mkM _ _ _ (⟨lr, lq, lp⟩ : S61) )) (Reps.c3 (show Kd.M k61 _ _ _ (⟨0, (⟨#[47]⟩ : ByteArray), (⟨#[]⟩ : ByteArray)⟩ : S61) [.int .i64 0, .string (⟨#[47]⟩ : ByteArray), .string ⟨#[]⟩] from (k61_mkM _ _ _ (⟨0, (⟨#[47]⟩ : ByteArray), (⟨#[]⟩ : ByteArray)⟩ : S61) )) (Reps.c3 (show Kd.M k61 _ _ _ (⟨ln, lm, ll⟩ : S61) [.int .i64 ln, .string lm, .string ll] from (k61_mkM _ _ _ (⟨ln, lm, ll⟩ : S61) )) (Reps.none _ _)))))))
       intro v328 w70 ho71 hb hg_ hnew_
       clear hg_ hnew_
       (first | rw [← Ny327.out] at ho71 | (simp only [Int.reduceToNat] at ho71; rw [← Ny327.out] at ho71))
       have HO329 := aM (az ho71 (aq z18))
       replace aI := aM (bK_ aI.out hb)
       replace HB := aM (ap z18 hb)
       clear hb ho71
       refine hK.out _ _ ⟨(bC aI.out 0).trans rfl, (bC aI.out 1).trans rfl, (bC aI.out 2).trans rfl, (bC aI.out 3).trans rfl⟩ (fun hHeld => ?_)
       clear hK K
       refine norm_ (a' := ?_) ?_ ?_
       rotate_left
       ·show Act.put _ (some 95) _ = _
        simp only [Act.put, sA, sB, sC, i64_w, i32_w]
        rfl
       refine pA 13 4 ?_
       refine pA 14 5 ?_
       refine done_ (done_of HT_.out z0) ?_
       try go_wp2
       go_ret2
       exact ⟨_, y4, by (with_reducible repeat (first | apply ac | apply ab | apply aa)); exact HO329.out, y14⟩
   ·rw [if_neg gb] at H
    have c47b0 : (a0_0 == 3) = false := qF gb
    have c47b1 : (a0_0 != 3) = true := nT gb
    by_cases qa : a0_0 = 5
    ·rw [if_pos qa] at H
     have c72b0 : (a0_0 == 5) = true := qT qa
     have c72b1 : (a0_0 != 5) = false := nF qa
     clear qa
     obtain ⟨bl, ul, H⟩ := oA_ H
     try dsimp only at H
     by_cases kc : (bl.length : Int) = 0
     ·rw [if_pos kc] at H
      have c74b0 : ((bl.length : Int) == 0) = true := qT kc
      have c74b1 : ((bl.length : Int) != 0) = false := nF kc
      clear kc
      simp only [Option.some.injEq, Prod.mk.injEq] at H
      obtain ⟨rfl, rfl⟩ := H
      go_enter Try.func56, Try.ntmps56
      try go_wp2_with (first | ((with_reducible refine aw (N := 2) rfl ?_); refine ax ?hg (N := 2) ?hd (cs := #[.int .i64 a0_0, .int .i64 a0_1, .int .i64 a0_2, .string a0_3]) (t := 29) ?hr ?_; (case hd => rfl); (case hg => rfl); (case hr => first | (go_simp; done) | (go_simp; rfl)); intro aW hg w75 hbox hb; have aI := aM (hbox); have iQ := aM ((by rw [hg]; exact (aq z13) : w.heap.size ≤ aW)); have iR := aM ((by rw [hg]; exact (aq z13) : w.heap.size ≤ aW)); replace HB := aM (ap z13 hb); clear hb hbox hg))
      replace aI := aM (ai aI.out)
      replace HB := aM (bD HB.out)
      refine start_ (n := 6) (S := fun w' => w'.cell? ⟨aW, 0, none⟩ = some (.int .i64 a0_0) ∧ w'.cell? ⟨aW, 1, none⟩ = some (.int .i64 a0_1) ∧ w'.cell? ⟨aW, 2, none⟩ = some (.int .i64 a0_2) ∧ w'.cell? ⟨aW, 3, none⟩ = some (.string a0_3)) (ds := []) #[false, false, false, false, false, false] z0 rfl rfl ⟨(bC aI.out 0).trans rfl, (bC aI.out 1).trans rfl, (bC aI.out 2).trans rfl, (bC aI.out 3).trans rfl⟩ (fun hHeld => ?_)
      generalize w75.drew = w76 at aI HB hHeld ⊢
      refine pA 0 15 ?_
      refine pA 2 17 ?_
      refine t4_ 1 16 ?_
      refine pA 4 7 ?_
      refine t4_ 3 18 ?_
      refine pA 5 8 ?_
      refine done_ z0 ?_
      obtain ⟨hcz77_0, hcz77_1, hcz77_2, hcz77_3, hfz77_0, hfz77_1, hfz77_2, hfz77_3⟩ := cc4 aI.out
      try go_wp2_with (first | ((with_reducible refine av (f := 79) rfl ?_); refine ay (some 100) rfl rfl Try.func79 z0 rfl #[.string a1, .int .i64 a0_1] rfl z14 ?_; (with_reducible refine (impl_around.calls k a1 a0_1 bl _ ul.out).mono ?_); rintro e w78 ⟨v331, rfl, ho0, hb⟩; refine ⟨_, rfl, ?_⟩; have dg := aM (az ho0 (aq z18)); replace aI := aM (bK_ aI.out hb); replace HB := aM (ap z18 hb); (try clear hb); (try clear ho0); obtain ⟨Ao79, co79, eo79⟩ := Kd.R_slice dg.out; subst eo79))
      go_ret2
      exact ⟨_, y4, y20, y14⟩
     ·rw [if_neg kc] at H
      have c74b0 : ((bl.length : Int) == 0) = false := qF kc
      have c74b1 : ((bl.length : Int) != 0) = true := nT kc
      have c74b2 : ¬ (bl = []) := fun h_ => kc (by rw [h_]; rfl)
      obtain ⟨bR, km⟩ : ∃ j_ : Int, (wrap64 ((bl.length : Int) - 1)) = j_ := ⟨_, rfl⟩
      replace H : (if 0 ≤ (bR) then (if (bR) < (bl.length : Int) then ((impl_keepTo.f 0 a0_1).bind fun ez => (if 0 ≤ (rd bl (bR)) then (if (rd bl (bR)) ≤ (wrap64 ((rd bl (bR)) + 1)) then (if (wrap64 ((rd bl (bR)) + 1)) ≤ (a1.size : Int) then (if 1 + (a1.extract ((rd bl (bR)) : Int).toNat ((wrap64 ((rd bl (bR)) + 1)) : Int).toNat).size ≤ 9223372036854775807 then ((impl_keepTo.f a0_1 (a1.size : Int)).bind fun ey => (some ((([(⟨ez.1, ez.2.1, ez.2.2⟩ : S61), (⟨0, (⟨#[47]⟩ : ByteArray) ++ (a1.extract ((rd bl (bR)) : Int).toNat ((wrap64 ((rd bl (bR)) + 1)) : Int).toNat), (⟨#[]⟩ : ByteArray)⟩ : S61), (⟨ey.1, ey.2.1, ey.2.2⟩ : S61)] : List (S61))), true))) else (none)) else (none)) else (none)) else (none))) else (none)) else (none)) = some (r1, r2) := by first | (rw [km] at H; exact H) | (simp only [km] at H ⊢; exact H)
      (try rw [km] at ul)
      have hji80w : (IntKind.i64.wrap ((bl.length : Int) - 1)) = bR := (i64_w _).trans km
      by_cases kb : 0 ≤ (bR)
      ·rw [if_pos kb] at H
       have c81b0 : decide (0 ≤ (bR)) = true := dT kb
       clear kb
       by_cases nB : (bR) < (bl.length : Int)
       ·rw [if_pos nB] at H
        have c82b0 : decide ((bR) < (bl.length : Int)) = true := dT nB
        clear nB
        obtain ⟨⟨lh, lg, lf⟩, A83, H⟩ := oA_ H
        try dsimp only at H
        by_cases rQ : 0 ≤ (rd bl (bR))
        ·rw [if_pos rQ] at H
         have c84b0 := eq_true rQ
         have c84b1 : decide (0 ≤ (rd bl (bR))) = true := dT rQ
         clear rQ
         by_cases ti : (rd bl (bR)) ≤ (wrap64 ((rd bl (bR)) + 1))
         ·rw [if_pos ti] at H
          have c85b0 := eq_true ti
          have c85b1 : decide ((rd bl (bR)) ≤ (wrap64 ((rd bl (bR)) + 1))) = true := dT ti
          by_cases j9 : (wrap64 ((rd bl (bR)) + 1)) ≤ (a1.size : Int)
          ·rw [if_pos j9] at H
           have c86b0 := eq_true j9
           have c86b1 : decide ((wrap64 ((rd bl (bR)) + 1)) ≤ (a1.size : Int)) = true := dT j9
           by_cases rP : 1 + (a1.extract ((rd bl (bR)) : Int).toNat ((wrap64 ((rd bl (bR)) + 1)) : Int).toNat).size ≤ 9223372036854775807
           ·rw [if_pos rP] at H
            have c87b0 := eq_true rP
            have c87b1 : decide (1 + (a1.extract ((rd bl (bR)) : Int).toNat ((wrap64 ((rd bl (bR)) + 1)) : Int).toNat).size ≤ 9223372036854775807) = true := dT rP
            try have c87b2 : (9223372036854775807 < 1 + (a1.extract ((rd bl (bR)) : Int).toNat ((wrap64 ((rd bl (bR)) + 1)) : Int).toNat).size) = False := eq_false (Nat.not_lt.2 rP)
            (try (have c87x : (9223372036854775807 < 1 + ((wrap64 ((rd bl (bR)) + 1)).toNat - (rd bl (bR)).toNat)) = False := eq_false (fun h_ => by have e_ := of_eq_true c87b0; simp only [aC, aA] at e_; have f0_ : (wrap64 ((rd bl (bR)) + 1)) ≤ (a1.size : Int) := (by first | assumption | exact of_eq_true (by assumption) | exact oD (by assumption)); omega)))
            obtain ⟨⟨ld, lc, lb⟩, A88, H⟩ := oA_ H
            try dsimp only at H
            obtain ⟨y340, hy340⟩ : ∃ y_ : List (S61), y_ = (([(⟨lh, lg, lf⟩ : S61), (⟨0, (⟨#[47]⟩ : ByteArray) ++ (a1.extract ((rd bl (bR)) : Int).toNat ((wrap64 ((rd bl (bR)) + 1)) : Int).toNat), (⟨#[]⟩ : ByteArray)⟩ : S61), (⟨ld, lc, lb⟩ : S61)] : List (S61))) := ⟨_, rfl⟩
            replace H : (some (y340, true)) = some (r1, r2) := by first | (rw [hy340]; with_reducible exact H) | (have H2_ := (Option.bind_some _ _).symm.trans H; rw [hy340]; with_reducible exact H2_) | (have H2_ := (Option.bind_some _ _).symm.trans H; with_reducible exact H2_) | with_reducible exact H | (rw [hy340]; exact H) | exact H
            have Ny340 := aM hy340
            clear hy340
            simp only [Option.some.injEq, Prod.mk.injEq] at H
            obtain ⟨rfl, rfl⟩ := H
            go_enter Try.func56, Try.ntmps56
            try go_wp2_with (first | ((with_reducible refine aw (N := 2) rfl ?_); refine ax ?hg (N := 2) ?hd (cs := #[.int .i64 a0_0, .int .i64 a0_1, .int .i64 a0_2, .string a0_3]) (t := 29) ?hr ?_; (case hd => rfl); (case hg => rfl); (case hr => first | (go_simp; done) | (go_simp; rfl)); intro aW hg w89 hbox hb; have aI := aM (hbox); have iQ := aM ((by rw [hg]; exact (aq z13) : w.heap.size ≤ aW)); have iR := aM ((by rw [hg]; exact (aq z13) : w.heap.size ≤ aW)); replace HB := aM (ap z13 hb); clear hb hbox hg))
            replace aI := aM (ai aI.out)
            replace HB := aM (bD HB.out)
            refine start_ (n := 6) (S := fun w' => w'.cell? ⟨aW, 0, none⟩ = some (.int .i64 a0_0) ∧ w'.cell? ⟨aW, 1, none⟩ = some (.int .i64 a0_1) ∧ w'.cell? ⟨aW, 2, none⟩ = some (.int .i64 a0_2) ∧ w'.cell? ⟨aW, 3, none⟩ = some (.string a0_3)) (ds := []) #[false, false, false, false, false, false] z0 rfl rfl ⟨(bC aI.out 0).trans rfl, (bC aI.out 1).trans rfl, (bC aI.out 2).trans rfl, (bC aI.out 3).trans rfl⟩ (fun hHeld => ?_)
            generalize w89.drew = w90 at aI HB hHeld ⊢
            refine pA 0 15 ?_
            refine pA 2 17 ?_
            refine t4_ 1 16 ?_
            refine pA 4 7 ?_
            refine t4_ 3 18 ?_
            refine pA 5 8 ?_
            refine done_ z0 ?_
            obtain ⟨jL, jK, jJ, jI, jr, jq, jp, jo⟩ := cc4 aI.out
            try go_wp2_with (first | ((with_reducible refine av (f := 79) rfl ?_); refine ay (some 100) rfl rfl Try.func79 z0 rfl #[.string a1, .int .i64 a0_1] rfl z14 ?_; (with_reducible refine (impl_around.calls k a1 a0_1 bl _ ul.out).mono ?_); rintro e w92 ⟨v331, rfl, ho0, hb⟩; refine ⟨_, rfl, ?_⟩; have dg := aM (az ho0 (aq z18)); replace aI := aM (bK_ aI.out hb); replace HB := aM (ap z18 hb); (try clear hb); (try clear ho0); obtain ⟨Ao93, co93, eo93⟩ := Kd.R_slice dg.out; subst eo93; have p333 : 0 ≤ ((bR) : Int) := oD z2; have q333 : (bR) < (bl.length : Int) := oD z2; obtain ⟨ad333, e333, hx333_0⟩ := Kd.at_int (ah dg.out).2.2 (bR) p333 q333; cases e333; replace p333 := eq_true p333; replace q333 := eq_true q333))
            replace dg := aM (aa dg.out)
            replace aI := aM (ai aI.out)
            replace HB := aM (bD HB.out)
            refine start_ (n := 15) (S := fun w' => True) (ds := []) #[false, false, false, false, false, false, false, false, false, false, false, false, false, false, false] z0 rfl rfl trivial (fun hHeld => ?_); refine with_tabW impl_Command_parts.tab19 impl_Command_parts.bits19 (fun HT_ HW_ => ?_)
            generalize w92.drew = w94 at dg aI HB hHeld ⊢
            refine pA 0 110 ?_
            refine pA 2 112 ?_
            refine pA 3 113 ?_
            refine pA 4 114 ?_
            refine pA 5 115 ?_
            refine pA 6 116 ?_
            refine pA 7 117 ?_
            refine pA 8 118 ?_
            refine pA 9 119 ?_
            refine pA 10 120 ?_
            refine one_ (i := 1) (N := some 111) #[true, true, true, true, true, true, true, true, true, true, true, false, false, false, false] rfl rfl (one_of HT_.out z0) (by decide) (fun K hK => ?_)
            refine goes_ Try.func77 z0 rfl #[.int .i64 0, .int .i64 a0_1] (by rfl) rfl rfl z14 ?_
            with_reducible refine (impl_keepTo.calls 0 a0_1 lh lg lf _ A83.out).mono ?_
            rintro e w95 ⟨rfl, hb⟩
            refine ⟨_, rfl, ?_⟩
            replace dg := aM (af (kR_ dg.out) hb)
            replace aI := aM (bK_ aI.out hb)
            replace HB := aM (ap z18 hb)
            (try clear hb)
            skip
            skip
            skip
            refine hK.out _ _ trivial (fun hHeld => ?_)
            clear hK K
            refine norm_ (a' := ?_) ?_ ?_
            rotate_left
            ·show Act.put _ (some 111) _ = _
             simp only [Act.put, sA, sB, sC, i64_w, i32_w]
             rfl
            refine one_ (i := 11) (N := some 121) #[true, true, true, true, true, true, true, true, true, true, true, true, false, false, false] rfl rfl (one_of HT_.out z0) (by decide) (fun K hK => ?_)
            refine goes_ Try.func77 z0 rfl #[.int .i64 a0_1, .int .i64 (a1.size : Int)] (by rfl) rfl rfl z14 ?_
            with_reducible refine (impl_keepTo.calls a0_1 (a1.size : Int) ld lc lb _ A88.out).mono ?_
            rintro e w96 ⟨rfl, hb⟩
            refine ⟨_, rfl, ?_⟩
            replace dg := aM (af (kR_ dg.out) hb)
            replace aI := aM (bK_ aI.out hb)
            replace HB := aM (ap z18 hb)
            (try clear hb)
            skip
            skip
            skip
            refine hK.out _ _ trivial (fun hHeld => ?_)
            clear hK K
            refine norm_ (a' := ?_) ?_ ?_
            rotate_left
            ·show Act.put _ (some 121) _ = _
             simp only [Act.put, sA, sB, sC, i64_w, i32_w]
             rfl
            refine one_ (i := 12) (N := some 122) #[true, true, true, true, true, true, true, true, true, true, true, true, true, false, false] rfl rfl (one_of HT_.out z0) (by decide) (fun K hK => ?_)
            refine Kd.R_lit_step k61 _ 61 ?hg (N := 122) ?hd (xs := ([(⟨lh, lg, lf⟩ : S61), (⟨0, (⟨#[47]⟩ : ByteArray) ++ (a1.extract ((rd bl (bR)) : Int).toNat ((wrap64 ((rd bl (bR)) + 1)) : Int).toNat), (⟨#[]⟩ : ByteArray)⟩ : S61), (⟨ld, lc, lb⟩ : S61)] : List (S61))) (inner := [.int .i64 lh, .string lg, .string lf, .int .i64 0, .string ((⟨#[47]⟩ : ByteArray) ++ (a1.extract ((rd bl (bR)) : Int).toNat ((wrap64 ((rd bl (bR)) + 1)) : Int).toNat)), .string ⟨#[]⟩, .int .i64 ld, .string lc, .string lb]) (ok := fun _ => True) (okp := fun _ => True) ?hr ?hp (fun _ hk => hk) trivial (Below.refl _ _) (Nat.le_refl _) (by simp) ?_; (case hd => rfl); (case hg => rfl); (case hr => first | (go_simp; done) | (go_simp; rfl)); (case hp => exact (Reps.c3 (show Kd.M k61 _ _ _ (⟨lh, lg, lf⟩ : S61) [.int .i64 lh, .string lg, .string lf] from (k61_mkM _ _ _ (⟨lh, lg, lf⟩ : S61) )) (Reps.c3 (show Kd.M k61 _ _ _ (⟨0, (⟨#[47]⟩ : ByteArray) ++ (a1.extract ((rd bl (bR)) : Int).toNat ((wrap64 ((rd bl (bR)) + 1)) : Int).toNat), (⟨#[]⟩ : ByteArray)⟩ : S61) [.int .i64 0, .string ((⟨#[47]⟩ : ByteArray) ++ (a1.extract ((rd bl (bR)) : Int).toNat ((wrap64 ((rd bl (bR)) + 1)) : Int).toNat)), .string ⟨#[]⟩] from (k61_mkM _ _ _ (⟨0, (⟨#[47]⟩ : ByteArray) ++ (a1.extract ((rd bl (bR)) : Int).toNat ((wrap64 ((rd bl (bR)) + 1)) : Int).toNat), (⟨#[]⟩ : ByteArray)⟩ : S61) )) (Reps.c3 (show Kd.M k61 _ _ _ (⟨ld, lc, lb⟩ : S61) [.int .i64 ld, .string lc, .string lb] from (k61_mkM _ _ _ (⟨ld, lc, lb⟩ : S61) )) (Reps.none _ _)))))
            intro v341 w97 ho98 hb hg_ hnew_
            clear hg_ hnew_
            (first | rw [← Ny340.out] at ho98 | (simp only [Int.reduceToNat] at ho98; rw [← Ny340.out] at ho98))
            replace dg := aM (af (kR_ dg.out) hb)
            have HO342 := aM (az ho98 (aq z18))
            replace aI := aM (bK_ aI.out hb)
            replace HB := aM (ap z18 hb)
            clear hb ho98
            refine hK.out _ _ trivial (fun hHeld => ?_)
            clear hK K
            refine norm_ (a' := ?_) ?_ ?_
            rotate_left
            ·show Act.put _ (some 122) _ = _
             simp only [Act.put, sA, sB, sC, i64_w, i32_w]
             rfl
            refine pA 13 4 ?_
            refine pA 14 5 ?_
            refine done_ (done_of HT_.out z0) ?_
            try go_wp2
            go_ret2
            exact ⟨_, by first | rfl | (simp [errW_none, errW_some] <;> rfl) | (simp only [← km]; first | rfl | (simp [errW_none, errW_some] <;> rfl)) | (simp [*, errW_none, errW_some] <;> rfl), by (with_reducible repeat (first | apply ac | apply ab | apply aa)); exact HO342.out, y14⟩
           ·rw [if_neg rP] at H
            exact absurd H (by simp)
          ·rw [if_neg j9] at H
           exact absurd H (by simp)
         ·rw [if_neg ti] at H
          exact absurd H (by simp)
        ·rw [if_neg rQ] at H
         exact absurd H (by simp)
       ·rw [if_neg nB] at H
        exact absurd H (by simp)
      ·rw [if_neg kb] at H
       exact absurd H (by simp)
    ·rw [if_neg qa] at H
     have c72b0 : (a0_0 == 5) = false := qF qa
     have c72b1 : (a0_0 != 5) = true := nT qa
     by_cases kH : a0_0 = 6
     ·rw [if_pos kH] at H
      have c99b0 : (a0_0 == 6) = true := qT kH
      have c99b1 : (a0_0 != 6) = false := nF kH
      clear kH
      have oX := aM H
      clear H
      go_enter Try.func56, Try.ntmps56
      try go_wp2_with (first | ((with_reducible refine aw (N := 2) rfl ?_); refine ax ?hg (N := 2) ?hd (cs := #[.int .i64 a0_0, .int .i64 a0_1, .int .i64 a0_2, .string a0_3]) (t := 29) ?hr ?_; (case hd => rfl); (case hg => rfl); (case hr => first | (go_simp; done) | (go_simp; rfl)); intro aW hg w101 hbox hb; have aI := aM (hbox); have iQ := aM ((by rw [hg]; exact (aq z13) : w.heap.size ≤ aW)); have iR := aM ((by rw [hg]; exact (aq z13) : w.heap.size ≤ aW)); replace HB := aM (ap z13 hb); clear hb hbox hg))
      replace aI := aM (ai aI.out)
      replace HB := aM (bD HB.out)
      refine start_ (n := 6) (S := fun w' => w'.cell? ⟨aW, 0, none⟩ = some (.int .i64 a0_0) ∧ w'.cell? ⟨aW, 1, none⟩ = some (.int .i64 a0_1) ∧ w'.cell? ⟨aW, 2, none⟩ = some (.int .i64 a0_2) ∧ w'.cell? ⟨aW, 3, none⟩ = some (.string a0_3)) (ds := []) #[false, false, false, false, false, false] z0 rfl rfl ⟨(bC aI.out 0).trans rfl, (bC aI.out 1).trans rfl, (bC aI.out 2).trans rfl, (bC aI.out 3).trans rfl⟩ (fun hHeld => ?_)
      generalize w101.drew = w102 at aI HB hHeld ⊢
      refine pA 0 15 ?_
      refine pA 2 17 ?_
      refine t4_ 1 16 ?_
      refine pA 4 7 ?_
      refine t4_ 3 18 ?_
      refine pA 5 8 ?_
      refine done_ z0 ?_
      obtain ⟨kD, kC, kB, hcz103_3, ku, kt, ks, hfz103_3⟩ := cc4 aI.out
      go_upto_region 21 with (fail)
      go_cut [145] (fun v145 wc => ∃ (kq : Nat) (x145_99 : Bool), v145 = .bool x145_99 ∧ Aside0 (impl_Command_parts.j2 kq a1 (a1.size : Int) a0_1 x145_99 = some (r1, r2)) ∧ Aside0 (kq ≤ k) ∧ Aside0 (wc.heap[aW]? = some (.cells #[.int .i64 a0_0, .int .i64 a0_1, .int .i64 a0_2, .string a0_3] 29 (0, 0))) ∧ Aside0 (Below w.heap.size w wc))
      case first =>
       have H := oX.out
       clear oX
       by_cases gu : a0_1 = 0
       ·rw [if_pos gu] at H
        have c104b0 : (a0_1 == 0) = true := qT gu
        have c104b1 : (a0_1 != 0) = false := nF gu
        clear gu
        (first | rw [c104b0] | (simp only [i64_w, i32_w]; rw [c104b0]) | skip)
        have H' := aM H
        clear H
        go_wp2
        go_meet
        case rel => exact ⟨_, (true), z1, H', ⟨y0⟩, ⟨y7⟩, ⟨y14⟩⟩
       ·rw [if_neg gu] at H
        have c104b0 : (a0_1 == 0) = false := qF gu
        have c104b1 : (a0_1 != 0) = true := nT gu
        (first | rw [c104b0] | (simp only [i64_w, i32_w]; rw [c104b0]) | skip)
        by_cases eg : a0_1 = (a1.size : Int)
        ·rw [if_pos eg] at H
         have c105b0 : (a0_1 == (a1.size : Int)) = true := qT eg
         have c105b1 : (a0_1 != (a1.size : Int)) = false := nF eg
         clear eg
         have H' := aM H
         clear H
         go_wp2
         go_meet
         case rel => exact ⟨_, (true), z1, H', ⟨y0⟩, ⟨y7⟩, ⟨y14⟩⟩
        ·rw [if_neg eg] at H
         have c105b0 : (a0_1 == (a1.size : Int)) = false := qF eg
         have c105b1 : (a0_1 != (a1.size : Int)) = true := nT eg
         obtain ⟨cG, eZ⟩ : ∃ j_ : Int, (wrap64 (a0_1 - 1)) = j_ := ⟨_, rfl⟩
         replace H : (if 0 ≤ (cG) then (if (cG) < (a1.size : Int) then (if (bt a1 (cG)) = 47 then (if 0 ≤ a0_1 then (if a0_1 < (a1.size : Int) then ((impl_isName.f (bt a1 a0_1)).bind fun kk => (impl_Command_parts.j2 k a1 (a1.size : Int) a0_1 (!kk))) else (none)) else (none)) else (impl_Command_parts.j2 k a1 (a1.size : Int) a0_1 true)) else (none)) else (none)) = some (r1, r2) := by first | (rw [eZ] at H; exact H) | (simp only [eZ] at H ⊢; exact H)
         have hji106w : (IntKind.i64.wrap (a0_1 - 1)) = cG := (i64_w _).trans eZ
         by_cases ov : 0 ≤ (cG)
         ·rw [if_pos ov] at H
          have c107b0 : decide (0 ≤ (cG)) = true := dT ov
          clear ov
          by_cases ou : (cG) < (a1.size : Int)
          ·rw [if_pos ou] at H
           have c108b0 : decide ((cG) < (a1.size : Int)) = true := dT ou
           clear ou
           by_cases eS : (bt a1 (cG)) = 47
           ·rw [if_pos eS] at H
            have c110b0 : ((bt a1 (cG)) == 47) = true := qT eS
            have c110b1 : ((bt a1 (cG)) != 47) = false := nF eS
            clear eS
            by_cases ot : 0 ≤ a0_1
            ·rw [if_pos ot] at H
             have c111b0 : decide (0 ≤ a0_1) = true := dT ot
             clear ot
             by_cases oq : a0_1 < (a1.size : Int)
             ·rw [if_pos oq] at H
              have c112b0 : decide (a0_1 < (a1.size : Int)) = true := dT oq
              clear oq
              obtain ⟨kk, A114, H⟩ := oA_ H
              try dsimp only at H
              have H' := aM H
              clear H
              have p109 : 0 ≤ ((cG) : Int) := oD z2
              have q109 : (cG) < (a1.size : Int) := oD z2
              have hx109 := bt_at a1 (cG)
              replace p109 := eq_true p109
              replace q109 := eq_true q109
              have p113 : 0 ≤ (a0_1 : Int) := oD z2
              have q113 : a0_1 < (a1.size : Int) := oD z2
              have hx113 := bt_at a1 a0_1
              replace p113 := eq_true p113
              replace q113 := eq_true q113
              go_wp2_with (first | (go_at_call 50; (with_reducible refine (impl_isName.calls (bt a1 a0_1) kk _ A114.out).mono ?_); rintro e w' ⟨rfl, ⟨nd, rfl⟩⟩))
              go_meet
              case rel => exact ⟨_, (!kk), z1, (by first | exact H' | (simp only [eZ]; exact H') | (simp only [← eZ]; exact H')), ⟨y0⟩, ⟨y7⟩, ⟨y14⟩⟩
             ·rw [if_neg oq] at H
              exact absurd H (by simp)
            ·rw [if_neg ot] at H
             exact absurd H (by simp)
           ·rw [if_neg eS] at H
            have c110b0 : ((bt a1 (cG)) == 47) = false := qF eS
            have c110b1 : ((bt a1 (cG)) != 47) = true := nT eS
            have H' := aM H
            clear H
            have p109 : 0 ≤ ((cG) : Int) := oD z2
            have q109 : (cG) < (a1.size : Int) := oD z2
            have hx109 := bt_at a1 (cG)
            replace p109 := eq_true p109
            replace q109 := eq_true q109
            go_wp2
            go_meet
            case rel => exact ⟨_, (true), z1, (by first | exact H' | (simp only [eZ]; exact H') | (simp only [← eZ]; exact H')), ⟨y0⟩, ⟨y7⟩, ⟨y14⟩⟩
          ·rw [if_neg ou] at H
           exact absurd H (by simp)
         ·rw [if_neg ov] at H
          exact absurd H (by simp)
      case rest =>
       clear oX
       try clear c3
       try clear gb
       try clear c47b0
       try clear c47b1
       try clear qa
       try clear c72b0
       try clear c72b1
       try clear kH
       try clear c99b0
       try clear c99b1
       try clear kD
       try clear kC
       try clear kB
       try clear hcz103_3
       try clear ku
       try clear kt
       try clear ks
       try clear hfz103_3
       obtain ⟨kq, x145_99, rfl, HA, HJ99, aI, HB⟩ := hcut
       cases kq with
       | zero => exact absurd HA.out (by simp [impl_Command_parts.j2])
       | succ kj99 =>
        have H := HA.out
        clear HA
        simp only [impl_Command_parts.j2] at H
        by_cases pU : x145_99 = true
        ·subst pU
         rw [if_pos rfl] at H
         simp only [Option.some.injEq, Prod.mk.injEq] at H
         obtain ⟨rfl, rfl⟩ := H
         go_wp2
         go_ret2
         exact ⟨_, y4, y20, y14⟩
        ·replace pU := Bool.eq_false_iff.mpr pU
         subst pU
         rw [if_neg nF_] at H
         obtain ⟨⟨es, sW⟩, rN, H⟩ := oA_ H
         try dsimp only at H
         by_cases pT : 0 ≤ es
         ·rw [if_pos pT] at H
          have c117b0 : decide (0 ≤ es) = true := dT pT
          clear pT
          by_cases pS : es < (a1.size : Int)
          ·rw [if_pos pS] at H
           have c118b0 : decide (es < (a1.size : Int)) = true := dT pS
           clear pS
           by_cases pR : 0 ≤ a0_1
           ·rw [if_pos pR] at H
            have c120b0 : decide (0 ≤ a0_1) = true := dT pR
            clear pR
            by_cases pQ : a0_1 < (a1.size : Int)
            ·rw [if_pos pQ] at H
             have c121b0 : decide (a0_1 < (a1.size : Int)) = true := dT pQ
             clear pQ
             by_cases me : (bt a1 es) = (bt a1 a0_1)
             ·rw [if_pos me] at H
              have c123b0 : ((bt a1 es) == (bt a1 a0_1)) = true := qT me
              have c123b1 : ((bt a1 es) != (bt a1 a0_1)) = false := nF me
              clear me
              obtain ⟨⟨kj, ki, kg⟩, t0, H⟩ := oA_ H
              try dsimp only at H
              obtain ⟨cN, et⟩ : ∃ j_ : Int, (wrap64 (a0_1 - 1)) = j_ := ⟨_, rfl⟩
              replace H : (if 0 ≤ (cN) then (if (cN) ≤ (wrap64 (a0_1 + 1)) then (if (wrap64 (a0_1 + 1)) ≤ (a1.size : Int) then ((impl_keepTo.f (wrap64 (a0_1 + 1)) (a1.size : Int)).bind fun ip => (some ((([(⟨kj, ki, kg⟩ : S61), (⟨0, (⟨#[]⟩ : ByteArray), a1.extract ((cN) : Int).toNat ((wrap64 (a0_1 + 1)) : Int).toNat⟩ : S61), (⟨ip.1, ip.2.1, ip.2.2⟩ : S61)] : List (S61))), true))) else (none)) else (none)) else (none)) = some (r1, r2) := by first | (rw [et] at H; exact H) | (simp only [et] at H ⊢; exact H)
              (try rw [et] at rN)
              (try rw [et] at t0)
              have hji125w : (IntKind.i64.wrap (a0_1 - 1)) = cN := (i64_w _).trans et
              by_cases oo : 0 ≤ (cN)
              ·rw [if_pos oo] at H
               have c126b0 := eq_true oo
               have c126b1 : decide (0 ≤ (cN)) = true := dT oo
               clear oo
               by_cases pP : (cN) ≤ (wrap64 (a0_1 + 1))
               ·rw [if_pos pP] at H
                have c127b0 := eq_true pP
                have c127b1 : decide ((cN) ≤ (wrap64 (a0_1 + 1))) = true := dT pP
                by_cases pO : (wrap64 (a0_1 + 1)) ≤ (a1.size : Int)
                ·rw [if_pos pO] at H
                 have c128b0 := eq_true pO
                 have c128b1 : decide ((wrap64 (a0_1 + 1)) ≤ (a1.size : Int)) = true := dT pO
                 obtain ⟨⟨la, k9, k8⟩, A129, H⟩ := oA_ H
                 try dsimp only at H
                 obtain ⟨y352, hy352⟩ : ∃ y_ : List (S61), y_ = (([(⟨kj, ki, kg⟩ : S61), (⟨0, (⟨#[]⟩ : ByteArray), a1.extract ((cN) : Int).toNat ((wrap64 (a0_1 + 1)) : Int).toNat⟩ : S61), (⟨la, k9, k8⟩ : S61)] : List (S61))) := ⟨_, rfl⟩
                 replace H : (some (y352, true)) = some (r1, r2) := by first | (rw [hy352]; with_reducible exact H) | (have H2_ := (Option.bind_some _ _).symm.trans H; rw [hy352]; with_reducible exact H2_) | (have H2_ := (Option.bind_some _ _).symm.trans H; with_reducible exact H2_) | with_reducible exact H | (rw [hy352]; exact H) | exact H
                 have Ny352 := aM hy352
                 clear hy352
                 simp only [Option.some.injEq, Prod.mk.injEq] at H
                 obtain ⟨rfl, rfl⟩ := H
                 try go_wp2_with (first | ((with_reducible refine av (f := 70) rfl ?_); refine ay (some 150) rfl rfl Try.func70 z0 rfl #[.string a1, .int .i64 cN] rfl (by (try simp only [List.map_toArray, List.map_cons, List.map_nil]); first | done | (simp only [et]; rfl) | rfl | (simp only [List.length_drop, List.length_take]; rfl)) ?_; (with_reducible refine (impl_MatchOf.calls kj99 a1 cN es sW _ rN.out).mono ?_); rintro e w130 ⟨rfl, hb⟩; refine ⟨_, rfl, ?_⟩; replace aI := aM (bK_ aI.out hb); replace HB := aM (ap z18 hb); (try clear hb)))
                 replace aI := aM (ai aI.out)
                 replace HB := aM (bD HB.out)
                 have p119 : 0 ≤ (es : Int) := oD z2
                 have q119 : es < (a1.size : Int) := oD z2
                 have hx119 := bt_at a1 es
                 replace p119 := eq_true p119
                 replace q119 := eq_true q119
                 have p122 : 0 ≤ (a0_1 : Int) := oD z2
                 have q122 : a0_1 < (a1.size : Int) := oD z2
                 have hx122 := bt_at a1 a0_1
                 replace p122 := eq_true p122
                 replace q122 := eq_true q122
                 refine start_ (n := 7) (S := fun w' => True) (ds := []) #[false, false, false, false, false, false, false] z0 rfl rfl trivial (fun hHeld => ?_)
                 generalize w130.drew = w131 at aI HB hHeld ⊢
                 refine pA 0 153 ?_
                 refine pA 1 154 ?_
                 refine pA 3 156 ?_
                 refine pA 4 157 ?_
                 refine tA 2 155 ?_ (hy := by intro w' _; go_simp; with_reducible rfl)
                 refine tA 5 158 ?_ (hy := by intro w' _; go_simp; with_reducible rfl)
                 refine pA 6 159 ?_
                 refine done_ z0 ?_
                 try go_wp2
                 replace aI := aM (ai aI.out)
                 replace HB := aM (bD HB.out)
                 refine start_ (n := 17) (S := fun w' => True) (ds := []) #[false, false, false, false, false, false, false, false, false, false, false, false, false, false, false, false, false] z0 rfl rfl trivial (fun hHeld => ?_); refine with_tabW impl_Command_parts.tab26 impl_Command_parts.bits26 (fun HT_ HW_ => ?_)
                 generalize w131.drew = w132 at aI HB hHeld ⊢
                 refine pA 0 160 ?_
                 refine pA 1 161 ?_
                 refine pA 3 163 ?_
                 refine pA 4 164 ?_
                 refine pA 5 165 ?_
                 refine pA 6 166 ?_
                 refine pA 7 167 ?_
                 refine pA 8 168 ?_
                 refine pA 9 169 ?_
                 refine pA 10 170 ?_
                 refine pA 11 171 ?_
                 refine pA 12 172 ?_
                 refine one_ (i := 2) (N := some 162) #[true, true, true, true, true, true, true, true, true, true, true, true, true, false, false, false, false] rfl rfl (one_of HT_.out z0) (by decide) (fun K hK => ?_)
                 refine goes_ Try.func77 z0 rfl #[.int .i64 0, .int .i64 cN] (by rfl) rfl rfl (by (try simp only [List.map_toArray, List.map_cons, List.map_nil]); first | done | (simp only [et]; rfl) | rfl | (simp only [List.length_drop, List.length_take]; rfl)) ?_
                 with_reducible refine (impl_keepTo.calls 0 cN kj ki kg _ t0.out).mono ?_
                 rintro e w133 ⟨rfl, hb⟩
                 refine ⟨_, rfl, ?_⟩
                 replace aI := aM (bK_ aI.out hb)
                 replace HB := aM (ap z18 hb)
                 (try clear hb)
                 skip
                 skip
                 skip
                 refine hK.out _ _ trivial (fun hHeld => ?_)
                 clear hK K
                 refine norm_ (a' := ?_) ?_ ?_
                 rotate_left
                 ·show Act.put _ (some 162) _ = _
                  simp only [Act.put, sA, sB, sC, i64_w, i32_w]
                  rfl
                 refine one_ (i := 13) (N := some 173) #[true, true, true, true, true, true, true, true, true, true, true, true, true, true, false, false, false] rfl rfl (one_of HT_.out z0) (by decide) (fun K hK => ?_)
                 refine goes_ Try.func77 z0 rfl #[.int .i64 (wrap64 (a0_1 + 1)), .int .i64 (a1.size : Int)] (by rfl) rfl rfl z14 ?_
                 with_reducible refine (impl_keepTo.calls (wrap64 (a0_1 + 1)) (a1.size : Int) la k9 k8 _ A129.out).mono ?_
                 rintro e w134 ⟨rfl, hb⟩
                 refine ⟨_, rfl, ?_⟩
                 replace aI := aM (bK_ aI.out hb)
                 replace HB := aM (ap z18 hb)
                 (try clear hb)
                 skip
                 skip
                 skip
                 refine hK.out _ _ trivial (fun hHeld => ?_)
                 clear hK K
                 refine norm_ (a' := ?_) ?_ ?_
                 rotate_left
                 ·show Act.put _ (some 173) _ = _
                  simp only [Act.put, sA, sB, sC, i64_w, i32_w]
                  rfl
                 refine one_ (i := 14) (N := some 174) #[true, true, true, true, true, true, true, true, true, true, true, true, true, true, true, false, false] rfl rfl (one_of HT_.out z0) (by decide) (fun K hK => ?_)
                 refine Kd.R_lit_step k61 _ 61 ?hg (N := 174) ?hd (xs := ([(⟨kj, ki, kg⟩ : S61), (⟨0, (⟨#[]⟩ : ByteArray), a1.extract ((cN) : Int).toNat ((wrap64 (a0_1 + 1)) : Int).toNat⟩ : S61), (⟨la, k9, k8⟩ : S61)] : List (S61))) (inner := [.int .i64 kj, .string ki, .string kg, .int .i64 0, .string ⟨#[]⟩, .string (a1.extract ((cN) : Int).toNat ((wrap64 (a0_1 + 1)) : Int).toNat), .int .i64 la, .string k9, .string k8]) (ok := fun _ => True) (okp := fun _ => True) ?hr ?hp (fun _ hk => hk) trivial (Below.refl _ _) (Nat.le_refl _) (by simp) ?_; (case hd => rfl); (case hg => rfl); (case hr => first | (go_simp; done) | (go_simp; rfl)); (case hp => exact (Reps.c3 (show Kd.M k61 _ _ _ (⟨kj, ki, kg⟩ : S61) [.int .i64 kj, .string ki, .string kg] from (k61_mkM _ _ _ (⟨kj, ki, kg⟩ : S61) )) (Reps.c3 (show Kd.M k61 _ _ _ (⟨0, (⟨#[]⟩ : ByteArray), a1.extract ((cN) : Int).toNat ((wrap64 (a0_1 + 1)) : Int).toNat⟩ : S61) [.int .i64 0, .string ⟨#[]⟩, .string (a1.extract ((cN) : Int).toNat ((wrap64 (a0_1 + 1)) : Int).toNat)] from (k61_mkM _ _ _ (⟨0, (⟨#[]⟩ : ByteArray), a1.extract ((cN) : Int).toNat ((wrap64 (a0_1 + 1)) : Int).toNat⟩ : S61) )) (Reps.c3 (show Kd.M k61 _ _ _ (⟨la, k9, k8⟩ : S61) [.int .i64 la, .string k9, .string k8] from (k61_mkM _ _ _ (⟨la, k9, k8⟩ : S61) )) (Reps.none _ _)))))
                 intro v353 w135 ho136 hb hg_ hnew_
                 clear hg_ hnew_
                 (first | rw [← Ny352.out] at ho136 | (simp only [Int.reduceToNat] at ho136; rw [← Ny352.out] at ho136))
                 have HO354 := aM (az ho136 (aq z18))
                 replace aI := aM (bK_ aI.out hb)
                 replace HB := aM (ap z18 hb)
                 clear hb ho136
                 refine hK.out _ _ trivial (fun hHeld => ?_)
                 clear hK K
                 refine norm_ (a' := ?_) ?_ ?_
                 rotate_left
                 ·show Act.put _ (some 174) _ = _
                  simp only [Act.put, sA, sB, sC, i64_w, i32_w]
                  rfl
                 refine pA 15 4 ?_
                 refine pA 16 5 ?_
                 refine done_ (done_of HT_.out z0) ?_
                 try go_wp2
                 go_ret2
                 exact ⟨_, by first | rfl | (simp [errW_none, errW_some] <;> rfl) | (simp only [← et]; first | rfl | (simp [errW_none, errW_some] <;> rfl)) | (simp [*, errW_none, errW_some] <;> rfl), by (with_reducible repeat (first | apply ac | apply ab | apply aa)); exact HO354.out, y14⟩
                ·rw [if_neg pO] at H
                 exact absurd H (by simp)
               ·rw [if_neg pP] at H
                exact absurd H (by simp)
              ·rw [if_neg oo] at H
               exact absurd H (by simp)
             ·rw [if_neg me] at H
              have c123b0 : ((bt a1 es) == (bt a1 a0_1)) = false := qF me
              have c123b1 : ((bt a1 es) != (bt a1 a0_1)) = true := nT me
              simp only [Option.some.injEq, Prod.mk.injEq] at H
              obtain ⟨rfl, rfl⟩ := H
              try go_wp2_with (first | ((with_reducible refine av (f := 70) rfl ?_); refine ay (some 150) rfl rfl Try.func70 z0 rfl #[.string a1, .int .i64 (wrap64 (a0_1 - 1))] rfl z14 ?_; (with_reducible refine (impl_MatchOf.calls kj99 a1 (wrap64 (a0_1 - 1)) es sW _ rN.out).mono ?_); rintro e w137 ⟨rfl, hb⟩; refine ⟨_, rfl, ?_⟩; replace aI := aM (bK_ aI.out hb); replace HB := aM (ap z18 hb); (try clear hb)))
              replace aI := aM (ai aI.out)
              replace HB := aM (bD HB.out)
              have p119 : 0 ≤ (es : Int) := oD z2
              have q119 : es < (a1.size : Int) := oD z2
              have hx119 := bt_at a1 es
              replace p119 := eq_true p119
              replace q119 := eq_true q119
              have p122 : 0 ≤ (a0_1 : Int) := oD z2
              have q122 : a0_1 < (a1.size : Int) := oD z2
              have hx122 := bt_at a1 a0_1
              replace p122 := eq_true p122
              replace q122 := eq_true q122
              refine start_ (n := 7) (S := fun w' => True) (ds := []) #[false, false, false, false, false, false, false] z0 rfl rfl trivial (fun hHeld => ?_)
              generalize w137.drew = w138 at aI HB hHeld ⊢
              refine pA 0 153 ?_
              refine pA 1 154 ?_
              refine pA 3 156 ?_
              refine pA 4 157 ?_
              refine tA 2 155 ?_ (hy := by intro w' _; go_simp; with_reducible rfl)
              refine tA 5 158 ?_ (hy := by intro w' _; go_simp; with_reducible rfl)
              refine pA 6 159 ?_
              refine done_ z0 ?_
              try go_wp2
              go_ret2
              exact ⟨_, y4, y20, y14⟩
            ·rw [if_neg pQ] at H
             exact absurd H (by simp)
           ·rw [if_neg pR] at H
            exact absurd H (by simp)
          ·rw [if_neg pS] at H
           exact absurd H (by simp)
         ·rw [if_neg pT] at H
          exact absurd H (by simp)
     ·rw [if_neg kH] at H
      have c99b0 : (a0_0 == 6) = false := qF kH
      have c99b1 : (a0_0 != 6) = true := nT kH
      obtain ⟨⟨t355, t358⟩, A139, H⟩ := oA_ H
      try dsimp only at H
      simp only [Option.some.injEq, Prod.mk.injEq] at H
      obtain ⟨rfl, rfl⟩ := H
      go_enter Try.func56, Try.ntmps56
      try go_wp2_with (first | ((with_reducible refine aw (N := 2) rfl ?_); refine ax ?hg (N := 2) ?hd (cs := #[.int .i64 a0_0, .int .i64 a0_1, .int .i64 a0_2, .string a0_3]) (t := 29) ?hr ?_; (case hd => rfl); (case hg => rfl); (case hr => first | (go_simp; done) | (go_simp; rfl)); intro aW hg w140 hbox hb; have aI := aM (hbox); have iQ := aM ((by rw [hg]; exact (aq z13) : w.heap.size ≤ aW)); have iR := aM ((by rw [hg]; exact (aq z13) : w.heap.size ≤ aW)); replace HB := aM (ap z13 hb); clear hb hbox hg))
      replace aI := aM (ai aI.out)
      replace HB := aM (bD HB.out)
      refine start_ (n := 6) (S := fun w' => w'.cell? ⟨aW, 0, none⟩ = some (.int .i64 a0_0) ∧ w'.cell? ⟨aW, 1, none⟩ = some (.int .i64 a0_1) ∧ w'.cell? ⟨aW, 2, none⟩ = some (.int .i64 a0_2) ∧ w'.cell? ⟨aW, 3, none⟩ = some (.string a0_3)) (ds := []) #[false, false, false, false, false, false] z0 rfl rfl ⟨(bC aI.out 0).trans rfl, (bC aI.out 1).trans rfl, (bC aI.out 2).trans rfl, (bC aI.out 3).trans rfl⟩ (fun hHeld => ?_)
      generalize w140.drew = w141 at aI HB hHeld ⊢
      refine pA 0 15 ?_
      refine pA 2 17 ?_
      refine t4_ 1 16 ?_
      refine pA 4 7 ?_
      refine t4_ 3 18 ?_
      refine pA 5 8 ?_
      refine done_ z0 ?_
      obtain ⟨hcz142_0, hcz142_1, hcz142_2, hcz142_3, hfz142_0, hfz142_1, hfz142_2, hfz142_3⟩ := cc4 aI.out
      try go_wp2_with (first | ((with_reducible refine av (f := 80) rfl ?_); refine ay (some 177) rfl rfl Try.func80 z0 rfl #[.agg #[.int .i64 a0_0, .int .i64 a0_1, .int .i64 a0_2, .string a0_3], .string a1] rfl z14 ?_; (with_reducible refine (impl_Command_onElement.calls k a0_0 a0_1 a0_2 a0_3 a1 t355 t358 _ A139.out).mono ?_); rintro e w143 ⟨v356, rfl, ho0, hb⟩; refine ⟨_, rfl, ?_⟩; have HO357 := aM (az ho0 (aq z18)); replace aI := aM (bK_ aI.out hb); replace HB := aM (ap z18 hb); (try clear hb); (try clear ho0)))
      go_ret2
      exact ⟨_, y4, by (with_reducible repeat (first | apply ac | apply ab | apply aa)); exact HO357.out, y14⟩

end Go.Proofs.Ytmigfgcpdelnfaa.AFnUndoneBy
