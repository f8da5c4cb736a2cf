-- this session's own text: written by wip/tools/ownprint.py over the kit's print
import Derived.Test.YtmigfgcpdelnfaaAFnExactCompileCommandx0
import Derived.Test.YtmigfgcpdelnfaaAFnExactCompileCommandx1
import Derived.Test.YtmigfgcpdelnfaaAFnExactCompileCommandx2
import Derived.Test.YtmigfgcpdelnfaaAFnExactCompileCommandx4
namespace Go.Proofs.Ytmigfgcpdelnfaa.AFnExactCompileCommand
open Go.RowKit Go.Proofs.YtmigfgcpdelnfaaW.PrintWords Go.Proofs.YtmigfgcpdelnfaaW.PrintLast Go.Proofs.YtmigfgcpdelnfaaW.PrintMore
attribute [local go_sem] max2_int min2_int max_two min_two max_three min_three max_four min_four   -- for this text's walks alone
set_option linter.unusedVariables false
set_option linter.unusedSimpArgs false

/-! ### spec_l8Op: function 53 -/
mutual
def spec_l8Op.j0 : Nat → ByteArray → Int → Bool → Int → Int → Int → ByteArray → Option ((List (S61)) × Bool)
 | 0, _, _, _, _, _, _, _ => none
 | k + 1, x0, x14, x33, x178000, x178001, x178002, x178003 => if x33 = true then ((spec_l1In.f x178002 x178001 (x0.size : Int)).bind fun t183 => (if t183 = true then (if 0 ≤ x178001 then (if x178001 ≤ x178002 then (if x178002 ≤ (x0.size : Int) then ((spec_l1Balanced.f k (x0.extract (x178001 : Int).toNat (x178002 : Int).toNat)).bind fun t184 => (spec_l8Op.j1 k x0 (!t184) x178000 x178001 x178002 x178003)) else (none)) else (none)) else (none)) else (spec_l8Op.j1 k x0 true x178000 x178001 x178002 x178003))) else (if x14 = 5 then ((spec_l8Split.f k x0 x178001).bind fun bt195 => (some (bt195.1, bt195.2))) else (if x14 = 6 then (if x178001 = 0 then (some (([] : List (S61)), false)) else (if x178001 = (x0.size : Int) then (some (([] : List (S61)), false)) else (if 0 ≤ (wrap64 (x178001 - 1)) then (if (wrap64 (x178001 - 1)) < (x0.size : Int) then (if (bt x0 (wrap64 (x178001 - 1))) = 47 then (if 0 ≤ x178001 then (if x178001 < (x0.size : Int) then ((spec_l1Open.f (bt x0 x178001)).bind fun t199 => (if t199 = true then ((spec_l1Match.f k x0 (wrap64 (x178001 - 1))).bind fun t200 => (if 0 ≤ t200 then (if t200 < (x0.size : Int) then (if (bt x0 t200) = (bt x0 x178001) then ((spec_l3Splice.f k x0 (wrap64 (x178001 - 1)) (wrap64 (x178001 + 1)) (⟨#[]⟩ : ByteArray)).bind fun t201 => (some (t201, true))) else (some (([] : List (S61)), false))) else (none)) else (none))) else (some (([] : List (S61)), false)))) else (none)) else (none)) else (some (([] : List (S61)), false))) else (none)) else (none)))) else (if x178001 = (x0.size : Int) then (spec_l8Op.j2 k x0 true x178000 x178001 x178002 x178003) else (if 0 ≤ x178001 then (if x178001 < (x0.size : Int) then ((spec_l1Open.f (bt x0 x178001)).bind fun t204 => (spec_l8Op.j2 k x0 (!t204) x178000 x178001 x178002 x178003)) else (none)) else (none)))))
def spec_l8Op.j1 : Nat → ByteArray → Bool → Int → Int → Int → ByteArray → Option ((List (S61)) × Bool)
 | 0, _, _, _, _, _, _ => none
 | k + 1, x0, x53, x178000, x178001, x178002, x178003 => if x53 = true then (some (([] : List (S61)), false)) else (if x178000 = 2 then ((spec_l3Splice.f k x0 x178001 x178002 (⟨#[]⟩ : ByteArray)).bind fun t185 => (some (t185, decide (x178001 < x178002)))) else ((spec_l1Name.f x178003).bind fun t188 => (if t188 = true then ((spec_l3Normal.f k (([(⟨x178001, (⟨#[]⟩ : ByteArray), (⟨#[]⟩ : ByteArray)⟩ : S61), (⟨0, x178003, (⟨#[]⟩ : ByteArray)⟩ : S61), (⟨wrap64 (x178002 - x178001), (⟨#[]⟩ : ByteArray), (⟨#[]⟩ : ByteArray)⟩ : S61), (⟨0, (⟨#[47]⟩ : ByteArray), (⟨#[]⟩ : ByteArray)⟩ : S61), (⟨wrap64 ((x0.size : Int) - x178002), (⟨#[]⟩ : ByteArray), (⟨#[]⟩ : ByteArray)⟩ : S61)] : List (S61)))).bind fun t192 => (some (t192, true))) else (some (([] : List (S61)), false)))))
def spec_l8Op.j2 : Nat → ByteArray → Bool → Int → Int → Int → ByteArray → Option ((List (S61)) × Bool)
 | 0, _, _, _, _, _, _ => none
 | k + 1, x0, x163, x178000, x178001, x178002, x178003 => if x163 = true then (some (([] : List (S61)), false)) else ((spec_l1Match.f k x0 x178001).bind fun t205 => (if x178000 = 4 then (if 0 ≤ x178001 then (if x178001 ≤ (wrap64 (x178001 + 1)) then (if (wrap64 (x178001 + 1)) ≤ (x0.size : Int) then ((spec_l3Normal.f k (([(⟨x178001, (⟨#[]⟩ : ByteArray), (⟨#[]⟩ : ByteArray)⟩ : S61), (⟨0, (⟨#[]⟩ : ByteArray), x0.extract (x178001 : Int).toNat ((wrap64 (x178001 + 1)) : Int).toNat⟩ : S61), (⟨wrap64 ((wrap64 (t205 - x178001)) - 1), (⟨#[]⟩ : ByteArray), (⟨#[]⟩ : ByteArray)⟩ : S61), (⟨0, (⟨#[]⟩ : ByteArray), (⟨#[47]⟩ : ByteArray)⟩ : S61), (⟨wrap64 ((wrap64 ((x0.size : Int) - t205)) - 1), (⟨#[]⟩ : ByteArray), (⟨#[]⟩ : ByteArray)⟩ : S61)] : List (S61)))).bind fun t209 => (some (t209, true))) else (none)) else (none)) else (none)) else (if x178000 = 8 then ((spec_l1Name.f x178003).bind fun t212 => (if t212 = true then ((spec_l3Splice.f k x0 x178001 (wrap64 (x178001 + 1)) x178003).bind fun t213 => (if 0 ≤ x178001 then (if x178001 ≤ (wrap64 (x178001 + 1)) then (if (wrap64 (x178001 + 1)) ≤ (x0.size : Int) then (some (t213, (x178003.toList != (x0.extract (x178001 : Int).toNat ((wrap64 (x178001 + 1)) : Int).toNat).toList))) else (none)) else (none)) else (none))) else (some (([] : List (S61)), false)))) else (if x178000 = 7 then ((spec_l8Move.f k x0 x178001 (wrap64 (t205 + 1)) x178002).bind fun bt216 => (some (bt216.1, bt216.2))) else (some (([] : List (S61)), false))))))
end
def spec_l8Op.f (k : Nat) (a0 : ByteArray) (a1_0 : Int) (a1_1 : Int) (a1_2 : Int) (a1_3 : ByteArray) : Option ((List (S61)) × Bool) := (spec_l1In.f a1_1 0 (a0.size : Int)).bind fun t178 => (if t178 = true then (if a1_0 = 1 then ((spec_l3Splice.f k a0 a1_1 a1_1 a1_3).bind fun t179 => (if a1_3.toList = ([] : List UInt8) then (some (t179, false)) else ((spec_GoodText.f k a1_3).bind fun t182 => (some (t179, t182))))) else (if a1_0 = 2 then (spec_l8Op.j0 k a0 a1_0 (a1_0 == 2) a1_0 a1_1 a1_2 a1_3) else (spec_l8Op.j0 k a0 a1_0 (a1_0 == 3) a1_0 a1_1 a1_2 a1_3))) else (some (([] : List (S61)), false)))
theorem spec_l8Op.mono_l : ∀ k, (∀ y0 y1 y2 y3 y4 y5 y6, LeO (spec_l8Op.j0 k y0 y1 y2 y3 y4 y5 y6) (spec_l8Op.j0 (k + 1) y0 y1 y2 y3 y4 y5 y6)) ∧ (∀ y0 y1 y2 y3 y4 y5, LeO (spec_l8Op.j1 k y0 y1 y2 y3 y4 y5) (spec_l8Op.j1 (k + 1) y0 y1 y2 y3 y4 y5)) ∧ (∀ y0 y1 y2 y3 y4 y5, LeO (spec_l8Op.j2 k y0 y1 y2 y3 y4 y5) (spec_l8Op.j2 (k + 1) y0 y1 y2 y3 y4 y5))
 | 0 => ⟨fun _ _ _ _ _ _ _ r h => by simp [spec_l8Op.j0] at h, fun _ _ _ _ _ _ r h => by simp [spec_l8Op.j1] at h, fun _ _ _ _ _ _ r h => by simp [spec_l8Op.j2] at h⟩
 | k + 1 => by
  obtain ⟨ih0, ih1, ih2⟩ := spec_l8Op.mono_l k
  refine ⟨?_, ?_, ?_⟩
  ·intro y0 y1 y2 y3 y4 y5 y6
   unfold spec_l8Op.j0
   repeat' first
   | (with_reducible exact ih0 _ _ _ _ _ _ _)
   | (with_reducible exact ih1 _ _ _ _ _ _)
   | (with_reducible exact ih2 _ _ _ _ _ _)
   | (with_reducible exact spec_GoodText.mono _ _)
   | (with_reducible exact spec_l1Balanced.mono _ _)
   | (with_reducible exact spec_l1Match.mono _ _ _)
   | (with_reducible exact spec_l3Normal.mono _ _)
   | (with_reducible exact spec_l3Splice.mono _ _ _ _ _)
   | (with_reducible exact spec_l8Move.mono _ _ _ _ _)
   | (with_reducible exact spec_l8Split.mono _ _ _)
   | (with_reducible exact LeO.refl _)
   | (with_reducible exact LeO.none _)
   | (with_reducible refine LeO.ite ?_ ?_)
   | (with_reducible refine LeO.bind ?_ (fun _ => ?_))
   | exact ih0 _ _ _ _ _ _ _
   | exact ih1 _ _ _ _ _ _
   | exact ih2 _ _ _ _ _ _
   | exact spec_GoodText.mono _ _
   | exact spec_l1Balanced.mono _ _
   | exact spec_l1Match.mono _ _ _
   | exact spec_l3Normal.mono _ _
   | exact spec_l3Splice.mono _ _ _ _ _
   | exact spec_l8Move.mono _ _ _ _ _
   | exact spec_l8Split.mono _ _ _
   | exact LeO.none _
   | refine LeO.ite ?_ ?_
   | refine LeO.bind ?_ (fun _ => ?_)
  ·intro y0 y1 y2 y3 y4 y5
   unfold spec_l8Op.j1
   repeat' first
   | (with_reducible exact ih0 _ _ _ _ _ _ _)
   | (with_reducible exact ih1 _ _ _ _ _ _)
   | (with_reducible exact ih2 _ _ _ _ _ _)
   | (with_reducible exact spec_GoodText.mono _ _)
   | (with_reducible exact spec_l1Balanced.mono _ _)
   | (with_reducible exact spec_l1Match.mono _ _ _)
   | (with_reducible exact spec_l3Normal.mono _ _)
   | (with_reducible exact spec_l3Splice.mono _ _ _ _ _)
   | (with_reducible exact spec_l8Move.mono _ _ _ _ _)
   | (with_reducible exact spec_l8Split.mono _ _ _)
   | (with_reducible exact LeO.refl _)
   | (with_reducible exact LeO.none _)
   | (with_reducible refine LeO.ite ?_ ?_)
   | (with_reducible refine LeO.bind ?_ (fun _ => ?_))
   | exact ih0 _ _ _ _ _ _ _
   | exact ih1 _ _ _ _ _ _
   | exact ih2 _ _ _ _ _ _
   | exact spec_GoodText.mono _ _
   | exact spec_l1Balanced.mono _ _
   | exact spec_l1Match.mono _ _ _
   | exact spec_l3Normal.mono _ _
   | exact spec_l3Splice.mono _ _ _ _ _
   | exact spec_l8Move.mono _ _ _ _ _
   | exact spec_l8Split.mono _ _ _
   | exact LeO.none _
   | refine LeO.ite ?_ ?_
   | refine LeO.bind ?_ (fun _ => ?_)
  ·intro y0 y1 y2 y3 y4 y5
   unfold spec_l8Op.j2
   repeat' first
   | (with_reducible exact ih0 _ _ _ _ _ _ _)
   | (with_reducible exact ih1 _ _ _ _ _ _)
   | (with_reducible exact ih2 _ _ _ _ _ _)
   | (with_reducible exact spec_GoodText.mono _ _)
   | (with_reducible exact spec_l1Balanced.mono _ _)
   | (with_reducible exact spec_l1Match.mono _ _ _)
   | (with_reducible exact spec_l3Normal.mono _ _)
   | (with_reducible exact spec_l3Splice.mono _ _ _ _ _)
   | (with_reducible exact spec_l8Move.mono _ _ _ _ _)
   | (with_reducible exact spec_l8Split.mono _ _ _)
   | (with_reducible exact LeO.refl _)
   | (with_reducible exact LeO.none _)
   | (with_reducible refine LeO.ite ?_ ?_)
   | (with_reducible refine LeO.bind ?_ (fun _ => ?_))
   | exact ih0 _ _ _ _ _ _ _
   | exact ih1 _ _ _ _ _ _
   | exact ih2 _ _ _ _ _ _
   | exact spec_GoodText.mono _ _
   | exact spec_l1Balanced.mono _ _
   | exact spec_l1Match.mono _ _ _
   | exact spec_l3Normal.mono _ _
   | exact spec_l3Splice.mono _ _ _ _ _
   | exact spec_l8Move.mono _ _ _ _ _
   | exact spec_l8Split.mono _ _ _
   | exact LeO.none _
   | refine LeO.ite ?_ ?_
   | refine LeO.bind ?_ (fun _ => ?_)
theorem spec_l8Op.mono : ∀ a0 a1 a2 a3 a4 k, LeO (spec_l8Op.f k a0 a1 a2 a3 a4) (spec_l8Op.f (k + 1) a0 a1 a2 a3 a4) := by
 intro a0 a1 a2 a3 a4 k
 obtain ⟨ih0, ih1, ih2⟩ := spec_l8Op.mono_l k
 unfold spec_l8Op.f
 repeat' first
   | (with_reducible exact ih0 _ _ _ _ _ _ _)
   | (with_reducible exact ih1 _ _ _ _ _ _)
   | (with_reducible exact ih2 _ _ _ _ _ _)
   | (with_reducible exact spec_GoodText.mono _ _)
   | (with_reducible exact spec_l1Balanced.mono _ _)
   | (with_reducible exact spec_l1Match.mono _ _ _)
   | (with_reducible exact spec_l3Normal.mono _ _)
   | (with_reducible exact spec_l3Splice.mono _ _ _ _ _)
   | (with_reducible exact spec_l8Move.mono _ _ _ _ _)
   | (with_reducible exact spec_l8Split.mono _ _ _)
   | (with_reducible exact LeO.refl _)
   | (with_reducible exact LeO.none _)
   | (with_reducible refine LeO.ite ?_ ?_)
   | (with_reducible refine LeO.bind ?_ (fun _ => ?_))
   | exact ih0 _ _ _ _ _ _ _
   | exact ih1 _ _ _ _ _ _
   | exact ih2 _ _ _ _ _ _
   | exact spec_GoodText.mono _ _
   | exact spec_l1Balanced.mono _ _
   | exact spec_l1Match.mono _ _ _
   | exact spec_l3Normal.mono _ _
   | exact spec_l3Splice.mono _ _ _ _ _
   | exact spec_l8Move.mono _ _ _ _ _
   | exact spec_l8Split.mono _ _ _
   | exact LeO.none _
   | refine LeO.ite ?_ ?_
   | refine LeO.bind ?_ (fun _ => ?_)
def spec_l8Op.T5 : Bool × List (List Nat × List Nat) := (true, [([], []), ([], []), ([1], [1]), ([], []), ([3], [3]), ([], []), ([5], [5]), ([0, 2, 4, 6], [0, 2, 4, 6]), ([], []), ([8], [8]), ([9], [9]), ([10, 7], [10]), ([11], [11]), ([12, 11], [11, 12]), ([13, 11, 11], [11, 13]), ([11, 14], [11, 14]), ([7, 14, 0, 1, 2, 3, 4, 5, 6, 7], [7]), ([15, 16, 0, 1, 2, 3, 4, 5, 6, 7, 8, 9, 10, 11, 12, 13, 14, 15, 16], [15])])
def spec_l8Op.B5 : List Nat := [0, 0, 2, 0, 8, 0, 32, 127, 0, 256, 768, 2047, 4095, 8191, 16383, 32767, 32767, 131071]
theorem spec_l8Op.tab5 : rtab .any (opsOf Try.f53 5) = spec_l8Op.T5 := by kernel_rfl
theorem spec_l8Op.bits5 : waitsOk spec_l8Op.T5.2 spec_l8Op.B5 = true := by kernel_rfl
def spec_l8Op.T11 : Bool × List (List Nat × List Nat) := (true, [([], []), ([], []), ([1], [1]), ([], []), ([3], [3]), ([0, 2, 4], [0, 2, 4]), ([], []), ([6], [6]), ([], []), ([8], [8]), ([7, 9], [7, 9]), ([5, 5, 0, 1, 2, 3, 4, 5], [5]), ([10, 11, 0, 1, 2, 3, 4, 5, 6, 7, 8, 9, 10, 11], [10])])
def spec_l8Op.B11 : List Nat := [0, 0, 2, 0, 8, 31, 0, 64, 0, 256, 960, 63, 4095]
theorem spec_l8Op.tab11 : rtab .any (opsOf Try.f53 11) = spec_l8Op.T11 := by kernel_rfl
theorem spec_l8Op.bits11 : waitsOk spec_l8Op.T11.2 spec_l8Op.B11 = true := by kernel_rfl
def spec_l8Op.T18 : Bool × List (List Nat × List Nat) := (true, [([], []), ([0], [0]), ([1], [1]), ([2], [2]), ([3], [3]), ([4, 3], [3, 4]), ([3], [3]), ([6, 3], [3, 6]), ([5, 7, 3], [3, 5, 7]), ([3, 8], [3, 8]), ([9, 3], [9]), ([10], [10]), ([10], [10]), ([12, 10], [10, 12]), ([13, 10], [10, 13]), ([11, 14, 10], [10, 11, 14]), ([15, 10], [10, 15]), ([10, 16], [10, 16]), ([17, 10], [17]), ([18], [18]), ([18], [18]), ([20, 18], [18, 20]), ([19, 21, 18], [18, 19, 21]), ([22, 18, 18], [18, 22]), ([23, 18], [18, 23]), ([18, 24], [18, 24]), ([25, 23], [25]), ([26], [26]), ([26], [26]), ([26], [26]), ([29, 26], [26, 29]), ([30, 26], [26, 30]), ([28, 31, 26, 26], [26, 28, 31]), ([27, 32, 26], [26, 27, 32]), ([26], [26]), ([26], [26]), ([35, 26], [26, 35]), ([34, 36, 26], [26, 34, 36]), ([33, 37, 26], [26, 33, 37]), ([26, 38], [26, 38])])
def spec_l8Op.B18 : List Nat := [0, 1, 3, 7, 15, 31, 15, 79, 255, 511, 1023, 2047, 2047, 6143, 14335, 32767, 65535, 131071, 262143, 524287, 524287, 1572863, 4194303, 8388607, 16777215, 33554431, 67108863, 134217727, 134217727, 134217727, 671088639, 1744830463, 4160749567, 8589934591, 134217727, 134217727, 34493956095, 120393302015, 274877906943, 549755813887]
theorem spec_l8Op.tab18 : rtab .any (opsOf Try.f53 18) = spec_l8Op.T18 := by kernel_rfl
theorem spec_l8Op.bits18 : waitsOk spec_l8Op.T18.2 spec_l8Op.B18 = true := by kernel_rfl
def spec_l8Op.T26 : Bool × List (List Nat × List Nat) := (true, [([], []), ([0], [0]), ([1], [1]), ([], []), ([], []), ([4], [4]), ([], []), ([6], [6]), ([7], [7]), ([3, 5, 8], [3, 5, 8]), ([9], [9]), ([], []), ([], []), ([12], [12]), ([11, 13], [11, 13]), ([14], [14]), ([15], [15]), ([], []), ([], []), ([18], [18]), ([], []), ([19, 20], [19, 20]), ([21], [21]), ([22], [22]), ([2, 10, 16, 17, 23], [2, 10, 16, 17, 23]), ([24], [24]), ([25, 25, 0, 1, 2, 3, 4, 5, 6, 7, 8, 9, 10, 11, 12, 13, 14, 15, 16, 17, 18, 19, 20, 21, 22, 23, 24, 25], [25]), ([26, 0, 1, 2, 3, 4, 5, 6, 7, 8, 9, 10, 11, 12, 13, 14, 15, 16, 17, 18, 19, 20, 21, 22, 23, 24, 25, 26], [])])
def spec_l8Op.B26 : List Nat := [0, 1, 3, 0, 0, 16, 0, 64, 192, 504, 1016, 0, 0, 4096, 14336, 30720, 63488, 0, 0, 262144, 0, 1835008, 3932160, 8126464, 16777215, 33554431, 67108863, 134217727]
theorem spec_l8Op.tab26 : rtab .any (opsOf Try.f53 26) = spec_l8Op.T26 := by kernel_rfl
theorem spec_l8Op.bits26 : waitsOk spec_l8Op.T26.2 spec_l8Op.B26 = true := by kernel_rfl
def spec_l8Op.T30 : Bool × List (List Nat × List Nat) := (true, [([], []), ([], []), ([1], [1]), ([], []), ([3], [3]), ([4], [4]), ([], []), ([6], [6]), ([0, 2, 5, 7], [0, 2, 5, 7]), ([], []), ([9], [9]), ([], []), ([], []), ([12], [12]), ([], []), ([14], [14]), ([15], [15]), ([11, 13, 16], [11, 13, 16]), ([10, 17], [10, 17]), ([8, 8, 0, 1, 2, 3, 4, 5, 6, 7, 8], [8]), ([18, 19, 0, 1, 2, 3, 4, 5, 6, 7, 8, 9, 10, 11, 12, 13, 14, 15, 16, 17, 18, 19], [18])])
def spec_l8Op.B30 : List Nat := [0, 0, 2, 0, 8, 24, 0, 64, 255, 0, 512, 0, 0, 4096, 0, 16384, 49152, 129024, 261632, 511, 1048575]
theorem spec_l8Op.tab30 : rtab .any (opsOf Try.f53 30) = spec_l8Op.T30 := by kernel_rfl
theorem spec_l8Op.bits30 : waitsOk spec_l8Op.T30.2 spec_l8Op.B30 = true := by kernel_rfl
set_option maxHeartbeats 8000000 in
set_option maxRecDepth 100000 in
theorem spec_l8Op.callsF (k : Nat) (a0 : ByteArray) (a1_0 : Int) (a1_1 : Int) (a1_2 : Int) (a1_3 : ByteArray) (r1 : List (S61)) (r2 : Bool) (w : World) (HTR : Aside0 (spec_l1In.f a1_1 0 (a0.size : Int) = some false)) (h : spec_l8Op.f k a0 a1_0 a1_1 a1_2 a1_3 = some (r1, r2)) :
  Calls Try.prog 53 #[.string a0, .agg #[.int .i64 a1_0, .int .i64 a1_1, .int .i64 a1_2, .string a1_3]] w fun e w' => ∃ v0_ : Value, e = .returned (.tuple #[v0_, .bool r2]) ∧ Kd.R k61 61 w' w.heap.size (fun _ => True) v0_ r1 ∧ Below w.heap.size w w' := by
 have hu29 := Try.underlying29
 have hu61 := Try.underlying61
 have HB := aM (Below.refl w.heap.size w)
 have H : ((spec_l1In.f a1_1 0 (a0.size : Int)).bind fun t178 => (if t178 = true then (if a1_0 = 1 then ((spec_l3Splice.f k a0 a1_1 a1_1 a1_3).bind fun t179 => (if a1_3.toList = ([] : List UInt8) then (some (t179, false)) else ((spec_GoodText.f k a1_3).bind fun t182 => (some (t179, t182))))) else (if a1_0 = 2 then (spec_l8Op.j0 k a0 a1_0 (a1_0 == 2) a1_0 a1_1 a1_2 a1_3) else (spec_l8Op.j0 k a0 a1_0 (a1_0 == 3) a1_0 a1_1 a1_2 a1_3))) else (some (([] : List (S61)), false)))) = some (r1, r2) := h
 clear h
 replace H := oB H
 obtain ⟨t178, A30, H⟩ := H
 try dsimp only at H
 have A3 := aM A30
 clear A30
 by_cases c4 : t178 = true
 ·exact absurd (A3.out.symm.trans HTR.out) (by rw [c4]; decide)
 ·replace c4 := Bool.eq_false_iff.mpr c4
  subst c4
  rw [if_neg (show ¬ (false = true) by decide)] at H
  simp only [Option.some.injEq, Prod.mk.injEq] at H
  obtain ⟨rfl, rfl⟩ := H
  go_enter Try.func53, Try.ntmps53
  go_wp2_with (first | ((with_reducible refine gate_dst (N := 3) rfl ?_); (try (refine gate_guard (by rfl) ?_; dsimp only)); refine box_event ?hg (N := 3) ?hd (cs := #[.int .i64 a1_0, .int .i64 a1_1, .int .i64 a1_2, .string a1_3]) (t := 29) ?hr ?_; (case hd => rfl); (case hg => rfl); (case hr => first | (go_simp; done) | (go_simp; rfl)); intro gb177 hg w115 hbox hb; have n0_ := aM (below_step z11 hb); have n1_ := aM (hbox); have n2_ := aM ((by rw [hg]; exact (below_size z11) : w.heap.size ≤ gb177)); have n3_ := aM ((by rw [hg]; exact (below_size z11) : w.heap.size ≤ gb177)); clear HB; have HB := n0_; have BK177 := n1_; have GW177 := n2_; have GE177 := n3_; clear n0_ n1_ n2_ n3_; clear hb hbox hg; have hcz116_0 : w115.cell? ⟨gb177, 0, none⟩ = some (.int .i64 a1_0) := (bC BK177.out 0).trans rfl; have hcz116_1 : w115.cell? ⟨gb177, 1, none⟩ = some (.int .i64 a1_1) := (bC BK177.out 1).trans rfl; have hcz116_2 : w115.cell? ⟨gb177, 2, none⟩ = some (.int .i64 a1_2) := (bC BK177.out 2).trans rfl; have hcz116_3 : w115.cell? ⟨gb177, 3, none⟩ = some (.string a1_3) := (bC BK177.out 3).trans rfl; have hfz116_0 := bF BK177.out 0; have hfz116_1 := bF BK177.out 1; have hfz116_2 := bF BK177.out 2; have hfz116_3 := bF BK177.out 3) | ((with_reducible refine gate_callee (f := 71) rfl ?_); refine goesL_ (some 11) rfl rfl Try.func71 z0 rfl #[.int .i64 a1_1, .int .i64 0, .int .i64 (a0.size : Int)] rfl z12 ?_; (with_reducible refine (spec_l1In.calls a1_1 0 (a0.size : Int) false _ A3.out).mono ?_); rintro e w' ⟨rfl, ⟨nd, rfl⟩⟩; refine ⟨_, rfl, ?_⟩))
  go_ret2
  exact ⟨_, y3, y21, y17⟩
set_option maxHeartbeats 8000000 in
set_option maxRecDepth 100000 in
theorem spec_l8Op.calls1 (k : Nat) (a0 : ByteArray) (a1_0 : Int) (a1_1 : Int) (a1_2 : Int) (a1_3 : ByteArray) (r1 : List (S61)) (r2 : Bool) (w : World) (HTR : Aside0 (spec_l1In.f a1_1 0 (a0.size : Int) = some true)) (HKD : Aside0 (a1_0 = 1)) (h : spec_l8Op.f k a0 a1_0 a1_1 a1_2 a1_3 = some (r1, r2)) :
  Calls Try.prog 53 #[.string a0, .agg #[.int .i64 a1_0, .int .i64 a1_1, .int .i64 a1_2, .string a1_3]] w fun e w' => ∃ v0_ : Value, e = .returned (.tuple #[v0_, .bool r2]) ∧ Kd.R k61 61 w' w.heap.size (fun _ => True) v0_ r1 ∧ Below w.heap.size w w' := by
 have hu29 := Try.underlying29
 have hu61 := Try.underlying61
 have HB := aM (Below.refl w.heap.size w)
 have H : ((spec_l1In.f a1_1 0 (a0.size : Int)).bind fun t178 => (if t178 = true then (if a1_0 = 1 then ((spec_l3Splice.f k a0 a1_1 a1_1 a1_3).bind fun t179 => (if a1_3.toList = ([] : List UInt8) then (some (t179, false)) else ((spec_GoodText.f k a1_3).bind fun t182 => (some (t179, t182))))) else (if a1_0 = 2 then (spec_l8Op.j0 k a0 a1_0 (a1_0 == 2) a1_0 a1_1 a1_2 a1_3) else (spec_l8Op.j0 k a0 a1_0 (a1_0 == 3) a1_0 a1_1 a1_2 a1_3))) else (some (([] : List (S61)), false)))) = some (r1, r2) := h
 clear h
 replace H := oB H
 obtain ⟨t178, A30, H⟩ := H
 try dsimp only at H
 have A3 := aM A30
 clear A30
 by_cases c4 : t178 = true
 ·subst c4
  rw [if_pos rfl] at H
  by_cases c5 : a1_0 = 1
  ·rw [if_pos c5] at H
   have c5b0 : (a1_0 == 1) = true := qT c5
   have c5b1 : (a1_0 != 1) = false := nF c5
   clear c5
   replace H := oB H
   obtain ⟨t179, A60, H⟩ := H
   try dsimp only at H
   have A6 := aM A60
   clear A60
   by_cases c7 : a1_3.toList = ([] : List UInt8)
   ·rw [if_pos c7] at H
    have c7b0 : (a1_3.toList == ([] : List UInt8)) = true := qT c7
    have c7b1 : (a1_3.toList != ([] : List UInt8)) = false := nF c7
    clear c7
    simp only [Option.some.injEq, Prod.mk.injEq] at H
    obtain ⟨rfl, rfl⟩ := H
    go_enter Try.func53, Try.ntmps53
    try go_wp2_with (first | ((with_reducible refine gate_dst (N := 3) rfl ?_); (try (refine gate_guard (by rfl) ?_; dsimp only)); refine box_event ?hg (N := 3) ?hd (cs := #[.int .i64 a1_0, .int .i64 a1_1, .int .i64 a1_2, .string a1_3]) (t := 29) ?hr ?_; (case hd => rfl); (case hg => rfl); (case hr => first | (go_simp; done) | (go_simp; rfl)); intro gb177 hg w8 hbox hb; have n0_ := aM (below_step z11 hb); have n1_ := aM (hbox); have n2_ := aM ((by rw [hg]; exact (below_size z11) : w.heap.size ≤ gb177)); have n3_ := aM ((by rw [hg]; exact (below_size z11) : w.heap.size ≤ gb177)); clear HB; have HB := n0_; have BK177 := n1_; have GW177 := n2_; have GE177 := n3_; clear n0_ n1_ n2_ n3_; clear hb hbox hg; have hcz9_0 : w8.cell? ⟨gb177, 0, none⟩ = some (.int .i64 a1_0) := (bC BK177.out 0).trans rfl; have hcz9_1 : w8.cell? ⟨gb177, 1, none⟩ = some (.int .i64 a1_1) := (bC BK177.out 1).trans rfl; have hcz9_2 : w8.cell? ⟨gb177, 2, none⟩ = some (.int .i64 a1_2) := (bC BK177.out 2).trans rfl; have hcz9_3 : w8.cell? ⟨gb177, 3, none⟩ = some (.string a1_3) := (bC BK177.out 3).trans rfl; have hfz9_0 := bF BK177.out 0; have hfz9_1 := bF BK177.out 1; have hfz9_2 := bF BK177.out 2; have hfz9_3 := bF BK177.out 3) | ((with_reducible refine gate_callee (f := 71) rfl ?_); refine goesL_ (some 11) rfl rfl Try.func71 z0 rfl #[.int .i64 a1_1, .int .i64 0, .int .i64 (a0.size : Int)] rfl z12 ?_; (with_reducible refine (spec_l1In.calls a1_1 0 (a0.size : Int) true _ A3.out).mono ?_); rintro e w' ⟨rfl, ⟨nd, rfl⟩⟩; refine ⟨_, rfl, ?_⟩))
    (try (rw [drewN_self w8]; generalize hq_ : World.drewN w8 _ = w8; have n0_ : Aside0 (w8.heap[gb177]? = some (.cells #[.int .i64 a1_0, .int .i64 a1_1, .int .i64 a1_2, .string a1_3] 29 (0, 0))) := ⟨by rw [← hq_]; exact z6⟩; have n1_ : Aside0 (Below w.heap.size w w8) := ⟨by rw [← hq_]; exact z13⟩; clear BK177 HB hq_; have BK177 := n0_; have HB := n1_; clear n0_ n1_))
    have n0_ := aM (blk_drew BK177.out)
    have n1_ := aM (bD HB.out)
    clear BK177
    clear HB
    have BK177 := n0_
    have HB := n1_
    clear n0_ n1_
    refine start_ (n := 18) (S := fun w' => w'.cell? ⟨gb177, 0, none⟩ = some (.int .i64 a1_0) ∧ w'.cell? ⟨gb177, 1, none⟩ = some (.int .i64 a1_1) ∧ w'.cell? ⟨gb177, 2, none⟩ = some (.int .i64 a1_2) ∧ w'.cell? ⟨gb177, 3, none⟩ = some (.string a1_3)) (ds := []) #[false, false, false, false, false, false, false, false, false, false, false, false, false, false, false, false, false, false] z0 rfl rfl ⟨(bC BK177.out 0).trans rfl, (bC BK177.out 1).trans rfl, (bC BK177.out 2).trans rfl, (bC BK177.out 3).trans rfl⟩ (fun hHeld => ?_); refine with_tabW spec_l8Op.tab5 spec_l8Op.bits5 (fun HT_ HW_ => ?_)
    generalize w8.drew = w10 at BK177 HB hHeld ⊢
    refine pA 0 17 ?_
    refine pA 1 18 ?_
    refine pA 3 20 ?_
    refine pA 5 22 ?_
    refine pA 8 25 ?_
    refine tA 2 19 ?_ (hy := by rintro w' ⟨s0, s1, s2, s3⟩; go_simp; with_reducible rfl)
    refine tA 4 21 ?_ (hy := by rintro w' ⟨s0, s1, s2, s3⟩; go_simp; with_reducible rfl)
    refine tA 6 23 ?_ (hy := by rintro w' ⟨s0, s1, s2, s3⟩; go_simp; with_reducible rfl)
    refine tA 9 26 ?_ (hy := by rintro w' ⟨s0, s1, s2, s3⟩; go_simp; with_reducible rfl)
    refine pA 10 27 ?_
    refine one_ (i := 7) (N := some 24) #[true, true, true, true, true, true, true, true, true, true, true, false, false, false, false, false, false, false] rfl rfl (one_of HT_.out z0) (by decide) (fun K hK => ?_)
    refine goes_ Try.func72 z0 rfl #[.string a0, .int .i64 a1_1, .int .i64 a1_1, .string a1_3] (by rfl) rfl rfl z12 ?_
    with_reducible refine (spec_l3Splice.calls k a0 a1_1 a1_1 a1_3 t179 _ A6.out).mono ?_
    rintro e w11 ⟨v180, rfl, ho0, hb⟩
    refine ⟨_, rfl, ?_⟩
    have n0_ := aM (Kd.R_lower ho0 (below_size z13))
    have n1_ := aM (blk_below (g := gb177) (o := .cells #[.int .i64 a1_0, .int .i64 a1_1, .int .i64 a1_2, .string a1_3] 29 (0, 0)) z6 hb)
    have n2_ := aM (below_step z13 hb)
    clear BK177
    clear HB
    have HO181 := n0_
    have BK177 := n1_
    have HB := n2_
    clear n0_ n1_ n2_
    (try clear hb)
    (try clear hb2)
    (try clear hk)
    (try clear hi)
    (try clear ho0)
    refine hK.out _ _ ⟨(bC BK177.out 0).trans rfl, (bC BK177.out 1).trans rfl, (bC BK177.out 2).trans rfl, (bC BK177.out 3).trans rfl⟩ (fun hHeld => ?_)
    clear hK K
    refine norm_ (a' := ?_) ?_ ?_
    rotate_left
    ·show Act.put _ (some 24) _ = _
     simp only [Act.put, sA, sB, sC, i64_w, i32_w]
     rfl
    refine pA 11 28 ?_
    refine pB 12 29 ?_
    refine pB 13 30 ?_
    refine pB 14 31 ?_
    refine pA 15 32 ?_
    refine pA 16 4 ?_
    refine pA 17 5 ?_
    refine done_ (done_of HT_.out z0) ?_
    try go_wp2
    go_ret2
    exact ⟨_, y3, by (with_reducible repeat (first | apply Kd.R_alloc | apply Kd.R_drewN | apply Kd.R_drew)); exact HO181.out, y17⟩
   ·rw [if_neg c7] at H
    have c7b0 : (a1_3.toList == ([] : List UInt8)) = false := qF c7
    have c7b1 : (a1_3.toList != ([] : List UInt8)) = true := nT c7
    replace H := oB H
    obtain ⟨t182, A120, H⟩ := H
    try dsimp only at H
    have A12 := aM A120
    clear A120
    simp only [Option.some.injEq, Prod.mk.injEq] at H
    obtain ⟨rfl, rfl⟩ := H
    go_enter Try.func53, Try.ntmps53
    try go_wp2_with (first | ((with_reducible refine gate_dst (N := 3) rfl ?_); (try (refine gate_guard (by rfl) ?_; dsimp only)); refine box_event ?hg (N := 3) ?hd (cs := #[.int .i64 a1_0, .int .i64 a1_1, .int .i64 a1_2, .string a1_3]) (t := 29) ?hr ?_; (case hd => rfl); (case hg => rfl); (case hr => first | (go_simp; done) | (go_simp; rfl)); intro gb177 hg w13 hbox hb; have n0_ := aM (below_step z11 hb); have n1_ := aM (hbox); have n2_ := aM ((by rw [hg]; exact (below_size z11) : w.heap.size ≤ gb177)); have n3_ := aM ((by rw [hg]; exact (below_size z11) : w.heap.size ≤ gb177)); clear HB; have HB := n0_; have BK177 := n1_; have GW177 := n2_; have GE177 := n3_; clear n0_ n1_ n2_ n3_; clear hb hbox hg; have hcz14_0 : w13.cell? ⟨gb177, 0, none⟩ = some (.int .i64 a1_0) := (bC BK177.out 0).trans rfl; have hcz14_1 : w13.cell? ⟨gb177, 1, none⟩ = some (.int .i64 a1_1) := (bC BK177.out 1).trans rfl; have hcz14_2 : w13.cell? ⟨gb177, 2, none⟩ = some (.int .i64 a1_2) := (bC BK177.out 2).trans rfl; have hcz14_3 : w13.cell? ⟨gb177, 3, none⟩ = some (.string a1_3) := (bC BK177.out 3).trans rfl; have hfz14_0 := bF BK177.out 0; have hfz14_1 := bF BK177.out 1; have hfz14_2 := bF BK177.out 2; have hfz14_3 := bF BK177.out 3) | ((with_reducible refine gate_callee (f := 71) rfl ?_); refine goesL_ (some 11) rfl rfl Try.func71 z0 rfl #[.int .i64 a1_1, .int .i64 0, .int .i64 (a0.size : Int)] rfl z12 ?_; (with_reducible refine (spec_l1In.calls a1_1 0 (a0.size : Int) true _ A3.out).mono ?_); rintro e w' ⟨rfl, ⟨nd, rfl⟩⟩; refine ⟨_, rfl, ?_⟩))
    (try (rw [drewN_self w13]; generalize hq_ : World.drewN w13 _ = w13; have n0_ : Aside0 (w13.heap[gb177]? = some (.cells #[.int .i64 a1_0, .int .i64 a1_1, .int .i64 a1_2, .string a1_3] 29 (0, 0))) := ⟨by rw [← hq_]; exact z6⟩; have n1_ : Aside0 (Below w.heap.size w w13) := ⟨by rw [← hq_]; exact z13⟩; clear BK177 HB hq_; have BK177 := n0_; have HB := n1_; clear n0_ n1_))
    have n0_ := aM (blk_drew BK177.out)
    have n1_ := aM (bD HB.out)
    clear BK177
    clear HB
    have BK177 := n0_
    have HB := n1_
    clear n0_ n1_
    refine start_ (n := 18) (S := fun w' => w'.cell? ⟨gb177, 0, none⟩ = some (.int .i64 a1_0) ∧ w'.cell? ⟨gb177, 1, none⟩ = some (.int .i64 a1_1) ∧ w'.cell? ⟨gb177, 2, none⟩ = some (.int .i64 a1_2) ∧ w'.cell? ⟨gb177, 3, none⟩ = some (.string a1_3)) (ds := []) #[false, false, false, false, false, false, false, false, false, false, false, false, false, false, false, false, false, false] z0 rfl rfl ⟨(bC BK177.out 0).trans rfl, (bC BK177.out 1).trans rfl, (bC BK177.out 2).trans rfl, (bC BK177.out 3).trans rfl⟩ (fun hHeld => ?_); refine with_tabW spec_l8Op.tab5 spec_l8Op.bits5 (fun HT_ HW_ => ?_)
    generalize w13.drew = w15 at BK177 HB hHeld ⊢
    refine pA 0 17 ?_
    refine pA 1 18 ?_
    refine pA 3 20 ?_
    refine pA 5 22 ?_
    refine pA 8 25 ?_
    refine tA 2 19 ?_ (hy := by rintro w' ⟨s0, s1, s2, s3⟩; go_simp; with_reducible rfl)
    refine tA 4 21 ?_ (hy := by rintro w' ⟨s0, s1, s2, s3⟩; go_simp; with_reducible rfl)
    refine tA 6 23 ?_ (hy := by rintro w' ⟨s0, s1, s2, s3⟩; go_simp; with_reducible rfl)
    refine tA 9 26 ?_ (hy := by rintro w' ⟨s0, s1, s2, s3⟩; go_simp; with_reducible rfl)
    refine pA 10 27 ?_
    refine one_ (i := 7) (N := some 24) #[true, true, true, true, true, true, true, true, true, true, true, false, false, false, false, false, false, false] rfl rfl (one_of HT_.out z0) (by decide) (fun K hK => ?_)
    refine goes_ Try.func72 z0 rfl #[.string a0, .int .i64 a1_1, .int .i64 a1_1, .string a1_3] (by rfl) rfl rfl z12 ?_
    with_reducible refine (spec_l3Splice.calls k a0 a1_1 a1_1 a1_3 t179 _ A6.out).mono ?_
    rintro e w16 ⟨v180, rfl, ho0, hb⟩
    refine ⟨_, rfl, ?_⟩
    have n0_ := aM (Kd.R_lower ho0 (below_size z13))
    have n1_ := aM (blk_below (g := gb177) (o := .cells #[.int .i64 a1_0, .int .i64 a1_1, .int .i64 a1_2, .string a1_3] 29 (0, 0)) z6 hb)
    have n2_ := aM (below_step z13 hb)
    clear BK177
    clear HB
    have HO181 := n0_
    have BK177 := n1_
    have HB := n2_
    clear n0_ n1_ n2_
    (try clear hb)
    (try clear hb2)
    (try clear hk)
    (try clear hi)
    (try clear ho0)
    refine hK.out _ _ ⟨(bC BK177.out 0).trans rfl, (bC BK177.out 1).trans rfl, (bC BK177.out 2).trans rfl, (bC BK177.out 3).trans rfl⟩ (fun hHeld => ?_)
    clear hK K
    refine norm_ (a' := ?_) ?_ ?_
    rotate_left
    ·show Act.put _ (some 24) _ = _
     simp only [Act.put, sA, sB, sC, i64_w, i32_w]
     rfl
    refine pA 11 28 ?_
    refine pA 12 29 ?_
    refine tA 13 30 ?_ (hy := by rintro w' ⟨s0, s1, s2, s3⟩; go_simp; with_reducible rfl)
    refine one_ (i := 14) (N := some 31) #[true, true, true, true, true, true, true, true, true, true, true, true, true, true, true, false, false, false] rfl rfl (one_of HT_.out z0) (by decide) (fun K hK => ?_)
    refine goes_ Try.func48 z0 rfl #[.string a1_3] (by rfl) rfl rfl z12 ?_
    with_reducible refine (spec_GoodText.calls k a1_3 t182 _ A12.out).mono ?_
    rintro e w' ⟨rfl, ⟨nd, rfl⟩⟩
    refine ⟨_, rfl, ?_⟩
    refine hK.out _ _ ⟨(bC BK177.out 0).trans rfl, (bC BK177.out 1).trans rfl, (bC BK177.out 2).trans rfl, (bC BK177.out 3).trans rfl⟩ (fun hHeld => ?_)
    clear hK K
    refine norm_ (a' := ?_) ?_ ?_
    rotate_left
    ·show Act.put _ (some 31) _ = _
     simp only [Act.put, sA, sB, sC, i64_w, i32_w]
     rfl
    refine pA 15 32 ?_
    refine pA 16 4 ?_
    refine pA 17 5 ?_
    refine done_ (done_of HT_.out z0) ?_
    try go_wp2
    go_ret2
    exact ⟨_, y3, by (with_reducible repeat (first | apply Kd.R_alloc | apply Kd.R_drewN | apply Kd.R_drew)); exact HO181.out, y17⟩
  ·exact absurd HKD.out c5
 ·exact absurd (A3.out.symm.trans HTR.out) (fun e_ => c4 (sI e_))
set_option maxHeartbeats 8000000 in
set_option maxRecDepth 100000 in
theorem spec_l8Op.calls23 (k : Nat) (a0 : ByteArray) (a1_0 : Int) (a1_1 : Int) (a1_2 : Int) (a1_3 : ByteArray) (r1 : List (S61)) (r2 : Bool) (w : World) (HTR : Aside0 (spec_l1In.f a1_1 0 (a0.size : Int) = some true)) (HKD : Aside0 (a1_0 = 2 ∨ a1_0 = 3)) (h : spec_l8Op.f k a0 a1_0 a1_1 a1_2 a1_3 = some (r1, r2)) :
  Calls Try.prog 53 #[.string a0, .agg #[.int .i64 a1_0, .int .i64 a1_1, .int .i64 a1_2, .string a1_3]] w fun e w' => ∃ v0_ : Value, e = .returned (.tuple #[v0_, .bool r2]) ∧ Kd.R k61 61 w' w.heap.size (fun _ => True) v0_ r1 ∧ Below w.heap.size w w' := by
 have hu29 := Try.underlying29
 have hu61 := Try.underlying61
 have HB := aM (Below.refl w.heap.size w)
 have H : ((spec_l1In.f a1_1 0 (a0.size : Int)).bind fun t178 => (if t178 = true then (if a1_0 = 1 then ((spec_l3Splice.f k a0 a1_1 a1_1 a1_3).bind fun t179 => (if a1_3.toList = ([] : List UInt8) then (some (t179, false)) else ((spec_GoodText.f k a1_3).bind fun t182 => (some (t179, t182))))) else (if a1_0 = 2 then (spec_l8Op.j0 k a0 a1_0 (a1_0 == 2) a1_0 a1_1 a1_2 a1_3) else (spec_l8Op.j0 k a0 a1_0 (a1_0 == 3) a1_0 a1_1 a1_2 a1_3))) else (some (([] : List (S61)), false)))) = some (r1, r2) := h
 clear h
 replace H := oB H
 obtain ⟨t178, A30, H⟩ := H
 try dsimp only at H
 have A3 := aM A30
 clear A30
 by_cases c4 : t178 = true
 ·subst c4
  rw [if_pos rfl] at H
  by_cases c5 : a1_0 = 1
  ·exact absurd c5 (by have := HKD.out; omega)
  ·rw [if_neg c5] at H
   have c5b0 : (a1_0 == 1) = false := qF c5
   have c5b1 : (a1_0 != 1) = true := nT c5
   have HC17 := aM H
   clear H
   go_enter Try.func53, Try.ntmps53
   go_upto_if 33 with (first | ((with_reducible refine gate_dst (N := 3) rfl ?_); (try (refine gate_guard (by rfl) ?_; dsimp only)); refine box_event ?hg (N := 3) ?hd (cs := #[.int .i64 a1_0, .int .i64 a1_1, .int .i64 a1_2, .string a1_3]) (t := 29) ?hr ?_; (case hd => rfl); (case hg => rfl); (case hr => first | (go_simp; done) | (go_simp; rfl)); intro gb177 hg w18 hbox hb; have n0_ := aM (below_step z11 hb); have n1_ := aM (hbox); have n2_ := aM ((by rw [hg]; exact (below_size z11) : w.heap.size ≤ gb177)); have n3_ := aM ((by rw [hg]; exact (below_size z11) : w.heap.size ≤ gb177)); clear HB; have HB := n0_; have BK177 := n1_; have GW177 := n2_; have GE177 := n3_; clear n0_ n1_ n2_ n3_; clear hb hbox hg; have hcz19_0 : w18.cell? ⟨gb177, 0, none⟩ = some (.int .i64 a1_0) := (bC BK177.out 0).trans rfl; have hcz19_1 : w18.cell? ⟨gb177, 1, none⟩ = some (.int .i64 a1_1) := (bC BK177.out 1).trans rfl; have hcz19_2 : w18.cell? ⟨gb177, 2, none⟩ = some (.int .i64 a1_2) := (bC BK177.out 2).trans rfl; have hcz19_3 : w18.cell? ⟨gb177, 3, none⟩ = some (.string a1_3) := (bC BK177.out 3).trans rfl; have hfz19_0 := bF BK177.out 0; have hfz19_1 := bF BK177.out 1; have hfz19_2 := bF BK177.out 2; have hfz19_3 := bF BK177.out 3) | ((with_reducible refine gate_callee (f := 71) rfl ?_); refine goesL_ (some 11) rfl rfl Try.func71 z0 rfl #[.int .i64 a1_1, .int .i64 0, .int .i64 (a0.size : Int)] rfl z12 ?_; (with_reducible refine (spec_l1In.calls a1_1 0 (a0.size : Int) true _ A3.out).mono ?_); rintro e w' ⟨rfl, ⟨nd, rfl⟩⟩; refine ⟨_, rfl, ?_⟩))
   (try simp only [Act.put, sA, sB, sC])
   go_cut [33] (fun v33 wc => ∃ (kq : Nat) (x33_16 : Bool), v33 = .bool x33_16 ∧ Aside0 (x33_16 = true ↔ (a1_0 = 2 ∨ a1_0 = 3)) ∧ Aside0 (spec_l8Op.j0 kq a0 a1_0 x33_16 a1_0 a1_1 a1_2 a1_3 = some (r1, r2)) ∧ Aside0 (kq ≤ k) ∧ Aside0 (wc.heap[gb177]? = some (.cells #[.int .i64 a1_0, .int .i64 a1_1, .int .i64 a1_2, .string a1_3] 29 (0, 0))) ∧ Aside0 (Below w.heap.size w wc))
   case first =>
    have H := HC17.out
    clear HC17
    by_cases c20 : a1_0 = 2
    ·rw [if_pos c20] at H
     have c20b0 : (a1_0 == 2) = true := qT c20
     have c20b1 : (a1_0 != 2) = false := nF c20
     clear c20
     (first | rw [c20b0] | (simp only [i64_w, i32_w]; rw [c20b0]) | skip)
     have H' := aM H
     clear H
     go_wp2
     go_meet
     case rel => exact ⟨_, ((a1_0 == 2)), z1, ⟨⟨fun h_ => .inl (beq_iff_eq.mp h_), fun _ => c20b0⟩⟩, H', ⟨y0⟩, ⟨y10⟩, ⟨y17⟩⟩
    ·rw [if_neg c20] at H
     have c20b0 : (a1_0 == 2) = false := qF c20
     have c20b1 : (a1_0 != 2) = true := nT c20
     (first | rw [c20b0] | (simp only [i64_w, i32_w]; rw [c20b0]) | skip)
     have H' := aM H
     clear H
     go_wp2
     go_meet
     case rel => exact ⟨_, ((a1_0 == 3)), z1, ⟨⟨fun h_ => .inr (beq_iff_eq.mp h_), fun h_ => h_.elim (fun e_ => absurd (qT e_) (by rw [c20b0]; decide)) (fun e_ => qT e_)⟩⟩, H', ⟨y0⟩, ⟨y10⟩, ⟨y17⟩⟩
   case rest =>
    clear HC17
    try clear c2
    try clear p2
    try clear c4
    try clear c5
    try clear c5b0
    try clear c5b1
    try clear c7
    try clear c7b0
    try clear c7b1
    try clear c20
    try clear c20b0
    try clear c20b1
    try clear hcz14_0
    try clear hcz14_1
    try clear hcz14_2
    try clear hcz14_3
    try clear hcz19_0
    try clear hcz19_1
    try clear hcz19_2
    try clear hcz19_3
    try clear hcz9_0
    try clear hcz9_1
    try clear hcz9_2
    try clear hcz9_3
    try clear hfz14_0
    try clear hfz14_1
    try clear hfz14_2
    try clear hfz14_3
    try clear hfz19_0
    try clear hfz19_1
    try clear hfz19_2
    try clear hfz19_3
    try clear hfz9_0
    try clear hfz9_1
    try clear hfz9_2
    try clear hfz9_3
    obtain ⟨kq, x33_16, rfl, HX33, HA, HJ16, BK177, HB⟩ := hcut
    cases kq with
    | zero => exact absurd HA.out (by simp [spec_l8Op.j0])
    | succ kj16 =>
     have H := HA.out
     clear HA
     simp only [spec_l8Op.j0] at H
     by_cases c21 : x33_16 = true
     ·subst c21
      rw [if_pos rfl] at H
      have HC22 := aM H
      clear H
      go_upto_region 8 with (fail)
      go_cut [53] (fun v53 wc => ∃ (kq : Nat) (x53_21 : Bool), v53 = .bool x53_21 ∧ Aside0 (spec_l8Op.j1 kq a0 x53_21 a1_0 a1_1 a1_2 a1_3 = some (r1, r2)) ∧ Aside0 (kq ≤ kj16) ∧ Aside0 (wc.heap[gb177]? = some (.cells #[.int .i64 a1_0, .int .i64 a1_1, .int .i64 a1_2, .string a1_3] 29 (0, 0))) ∧ Aside0 (Below w.heap.size w wc))
      case first =>
       have H := HC22.out
       clear HC22
       replace H := oB H
       obtain ⟨t183, A230, H⟩ := H
       try dsimp only at H
       have A23 := aM A230
       clear A230
       by_cases c24 : t183 = true
       ·subst c24
        rw [if_pos rfl] at H
        by_cases c25 : 0 ≤ a1_1
        ·rw [if_pos c25] at H
         have c25b0 := eq_true c25
         have c25b1 : decide (0 ≤ a1_1) = true := dT c25
         clear c25
         by_cases c26 : a1_1 ≤ a1_2
         ·rw [if_pos c26] at H
          have c26b0 := eq_true c26
          have c26b1 : decide (a1_1 ≤ a1_2) = true := dT c26
          clear c26
          by_cases c27 : a1_2 ≤ (a0.size : Int)
          ·rw [if_pos c27] at H
           have c27b0 := eq_true c27
           have c27b1 : decide (a1_2 ≤ (a0.size : Int)) = true := dT c27
           clear c27
           replace H := oB H
           obtain ⟨t184, A280, H⟩ := H
           try dsimp only at H
           have A28 := aM A280
           clear A280
           have H' := aM H
           clear H
           have hcz29_0 : wc.cell? ⟨gb177, 0, none⟩ = some (.int .i64 a1_0) := (bC BK177.out 0).trans rfl
           have hcz29_1 : wc.cell? ⟨gb177, 1, none⟩ = some (.int .i64 a1_1) := (bC BK177.out 1).trans rfl
           have hcz29_2 : wc.cell? ⟨gb177, 2, none⟩ = some (.int .i64 a1_2) := (bC BK177.out 2).trans rfl
           have hcz29_3 : wc.cell? ⟨gb177, 3, none⟩ = some (.string a1_3) := (bC BK177.out 3).trans rfl
           have hfz29_0 := bF BK177.out 0
           have hfz29_1 := bF BK177.out 1
           have hfz29_2 := bF BK177.out 2
           have hfz29_3 := bF BK177.out 3
           go_wp2_with (first | ((with_reducible refine gate_callee (f := 71) rfl ?_); refine goesL_ (some 42) rfl rfl Try.func71 z0 rfl #[.int .i64 a1_2, .int .i64 a1_1, .int .i64 (a0.size : Int)] rfl z12 ?_; (with_reducible refine (spec_l1In.calls a1_2 a1_1 (a0.size : Int) true _ A23.out).mono ?_); rintro e w' ⟨rfl, ⟨nd, rfl⟩⟩; refine ⟨_, rfl, ?_⟩) | (go_at_call 49; (with_reducible refine (spec_l1Balanced.calls kj16 (a0.extract (a1_1 : Int).toNat (a1_2 : Int).toNat) t184 _ A28.out).mono ?_); rintro e w' ⟨rfl, ⟨nd, rfl⟩⟩))
           go_meet
           case rel => exact ⟨_, (!t184), z1, H', ⟨by have := HJ16.out; first | omega | exact Nat.le_refl _⟩, ⟨y10⟩, ⟨y17⟩⟩
          ·rw [if_neg c27] at H
           exact absurd H (by simp)
         ·rw [if_neg c26] at H
          exact absurd H (by simp)
        ·rw [if_neg c25] at H
         exact absurd H (by simp)
       ·replace c24 := Bool.eq_false_iff.mpr c24
        subst c24
        rw [if_neg (show ¬ (false = true) by decide)] at H
        have H' := aM H
        clear H
        have hcz30_0 : wc.cell? ⟨gb177, 0, none⟩ = some (.int .i64 a1_0) := (bC BK177.out 0).trans rfl
        have hcz30_1 : wc.cell? ⟨gb177, 1, none⟩ = some (.int .i64 a1_1) := (bC BK177.out 1).trans rfl
        have hcz30_2 : wc.cell? ⟨gb177, 2, none⟩ = some (.int .i64 a1_2) := (bC BK177.out 2).trans rfl
        have hcz30_3 : wc.cell? ⟨gb177, 3, none⟩ = some (.string a1_3) := (bC BK177.out 3).trans rfl
        have hfz30_0 := bF BK177.out 0
        have hfz30_1 := bF BK177.out 1
        have hfz30_2 := bF BK177.out 2
        have hfz30_3 := bF BK177.out 3
        go_wp2_with (first | ((with_reducible refine gate_callee (f := 71) rfl ?_); refine goesL_ (some 42) rfl rfl Try.func71 z0 rfl #[.int .i64 a1_2, .int .i64 a1_1, .int .i64 (a0.size : Int)] rfl z12 ?_; (with_reducible refine (spec_l1In.calls a1_2 a1_1 (a0.size : Int) false _ A23.out).mono ?_); rintro e w' ⟨rfl, ⟨nd, rfl⟩⟩; refine ⟨_, rfl, ?_⟩))
        go_meet
        case rel => exact ⟨_, (true), z1, H', ⟨by have := HJ16.out; first | omega | exact Nat.le_refl _⟩, ⟨y10⟩, ⟨y17⟩⟩
      case rest =>
       clear HC22
       try clear c2
       try clear p2
       try clear c4
       try clear c5
       try clear c5b0
       try clear c5b1
       try clear c7
       try clear c7b0
       try clear c7b1
       try clear c20
       try clear c20b0
       try clear c20b1
       try clear c21
       try clear c24
       try clear c25
       try clear c25b0
       try clear c25b1
       try clear c26
       try clear c26b0
       try clear c26b1
       try clear c27
       try clear c27b0
       try clear c27b1
       try clear hcz14_0
       try clear hcz14_1
       try clear hcz14_2
       try clear hcz14_3
       try clear hcz19_0
       try clear hcz19_1
       try clear hcz19_2
       try clear hcz19_3
       try clear hcz29_0
       try clear hcz29_1
       try clear hcz29_2
       try clear hcz29_3
       try clear hcz30_0
       try clear hcz30_1
       try clear hcz30_2
       try clear hcz30_3
       try clear hcz9_0
       try clear hcz9_1
       try clear hcz9_2
       try clear hcz9_3
       try clear hfz14_0
       try clear hfz14_1
       try clear hfz14_2
       try clear hfz14_3
       try clear hfz19_0
       try clear hfz19_1
       try clear hfz19_2
       try clear hfz19_3
       try clear hfz29_0
       try clear hfz29_1
       try clear hfz29_2
       try clear hfz29_3
       try clear hfz30_0
       try clear hfz30_1
       try clear hfz30_2
       try clear hfz30_3
       try clear hfz9_0
       try clear hfz9_1
       try clear hfz9_2
       try clear hfz9_3
       try clear p2
       obtain ⟨kq, x53_21, rfl, HA, HJ21, BK177, HB⟩ := hcut
       cases kq with
       | zero => exact absurd HA.out (by simp [spec_l8Op.j1])
       | succ kj21 =>
        have H := HA.out
        clear HA
        simp only [spec_l8Op.j1] at H
        by_cases c31 : x53_21 = true
        ·subst c31
         rw [if_pos rfl] at H
         simp only [Option.some.injEq, Prod.mk.injEq] at H
         obtain ⟨rfl, rfl⟩ := H
         go_wp2
         go_ret2
         exact ⟨_, y3, y21, y17⟩
        ·replace c31 := Bool.eq_false_iff.mpr c31
         subst c31
         rw [if_neg (show ¬ (false = true) by decide)] at H
         by_cases c32 : a1_0 = 2
         ·rw [if_pos c32] at H
          have c32b0 : (a1_0 == 2) = true := qT c32
          have c32b1 : (a1_0 != 2) = false := nF c32
          clear c32
          replace H := oB H
          obtain ⟨t185, A330, H⟩ := H
          try dsimp only at H
          have A33 := aM A330
          clear A330
          simp only [Option.some.injEq, Prod.mk.injEq] at H
          obtain ⟨rfl, rfl⟩ := H
          have hcz34_0 : wc.cell? ⟨gb177, 0, none⟩ = some (.int .i64 a1_0) := (bC BK177.out 0).trans rfl
          have hcz34_1 : wc.cell? ⟨gb177, 1, none⟩ = some (.int .i64 a1_1) := (bC BK177.out 1).trans rfl
          have hcz34_2 : wc.cell? ⟨gb177, 2, none⟩ = some (.int .i64 a1_2) := (bC BK177.out 2).trans rfl
          have hcz34_3 : wc.cell? ⟨gb177, 3, none⟩ = some (.string a1_3) := (bC BK177.out 3).trans rfl
          have hfz34_0 := bF BK177.out 0
          have hfz34_1 := bF BK177.out 1
          have hfz34_2 := bF BK177.out 2
          have hfz34_3 := bF BK177.out 3
          try go_wp2
          have n0_ := aM (blk_drew BK177.out)
          have n1_ := aM (bD HB.out)
          clear BK177
          clear HB
          have BK177 := n0_
          have HB := n1_
          clear n0_ n1_
          refine start_ (n := 13) (S := fun w' => w'.cell? ⟨gb177, 0, none⟩ = some (.int .i64 a1_0) ∧ w'.cell? ⟨gb177, 1, none⟩ = some (.int .i64 a1_1) ∧ w'.cell? ⟨gb177, 2, none⟩ = some (.int .i64 a1_2) ∧ w'.cell? ⟨gb177, 3, none⟩ = some (.string a1_3)) (ds := []) #[false, false, false, false, false, false, false, false, false, false, false, false, false] z0 rfl rfl ⟨(bC BK177.out 0).trans rfl, (bC BK177.out 1).trans rfl, (bC BK177.out 2).trans rfl, (bC BK177.out 3).trans rfl⟩ (fun hHeld => ?_); refine with_tabW spec_l8Op.tab11 spec_l8Op.bits11 (fun HT_ HW_ => ?_)
          generalize wc.drew = w35 at BK177 HB hHeld ⊢
          refine pA 0 57 ?_
          refine pA 1 58 ?_
          refine pA 3 60 ?_
          refine pA 6 63 ?_
          refine pA 8 65 ?_
          refine tA 2 59 ?_ (hy := by rintro w' ⟨s0, s1, s2, s3⟩; go_simp; with_reducible rfl)
          refine tA 4 61 ?_ (hy := by rintro w' ⟨s0, s1, s2, s3⟩; go_simp; with_reducible rfl)
          refine tA 7 64 ?_ (hy := by rintro w' ⟨s0, s1, s2, s3⟩; go_simp; with_reducible rfl)
          refine tA 9 66 ?_ (hy := by rintro w' ⟨s0, s1, s2, s3⟩; go_simp; with_reducible rfl)
          refine pA 10 67 ?_
          refine one_ (i := 5) (N := some 62) #[true, true, true, true, true, true, true, true, true, true, true, false, false] rfl rfl (one_of HT_.out z0) (by decide) (fun K hK => ?_)
          refine goes_ Try.func72 z0 rfl #[.string a0, .int .i64 a1_1, .int .i64 a1_2, .string (⟨#[]⟩ : ByteArray)] (by rfl) rfl rfl z12 ?_
          with_reducible refine (spec_l3Splice.calls kj21 a0 a1_1 a1_2 (⟨#[]⟩ : ByteArray) t185 _ A33.out).mono ?_
          rintro e w36 ⟨v186, rfl, ho0, hb⟩
          refine ⟨_, rfl, ?_⟩
          have n0_ := aM (Kd.R_lower ho0 (below_size z13))
          have n1_ := aM (blk_below (g := gb177) (o := .cells #[.int .i64 a1_0, .int .i64 a1_1, .int .i64 a1_2, .string a1_3] 29 (0, 0)) z6 hb)
          have n2_ := aM (below_step z13 hb)
          clear BK177
          clear HB
          have HO187 := n0_
          have BK177 := n1_
          have HB := n2_
          clear n0_ n1_ n2_
          (try clear hb)
          (try clear hb2)
          (try clear hk)
          (try clear hi)
          (try clear ho0)
          refine hK.out _ _ ⟨(bC BK177.out 0).trans rfl, (bC BK177.out 1).trans rfl, (bC BK177.out 2).trans rfl, (bC BK177.out 3).trans rfl⟩ (fun hHeld => ?_)
          clear hK K
          refine norm_ (a' := ?_) ?_ ?_
          rotate_left
          ·show Act.put _ (some 62) _ = _
           simp only [Act.put, sA, sB, sC, i64_w, i32_w]
           rfl
          refine pA 11 4 ?_
          refine pA 12 5 ?_
          refine done_ (done_of HT_.out z0) ?_
          try go_wp2
          go_ret2
          exact ⟨_, y3, by (with_reducible repeat (first | apply Kd.R_alloc | apply Kd.R_drewN | apply Kd.R_drew)); exact HO187.out, y17⟩
         ·rw [if_neg c32] at H
          have c32b0 : (a1_0 == 2) = false := qF c32
          have c32b1 : (a1_0 != 2) = true := nT c32
          replace H := oB H
          obtain ⟨t188, A370, H⟩ := H
          try dsimp only at H
          have A37 := aM A370
          clear A370
          by_cases c38 : t188 = true
          ·subst c38
           rw [if_pos rfl] at H
           obtain ⟨y189, hy189⟩ : ∃ y_ : List (S61), y_ = (([(⟨a1_1, (⟨#[]⟩ : ByteArray), (⟨#[]⟩ : ByteArray)⟩ : S61), (⟨0, a1_3, (⟨#[]⟩ : ByteArray)⟩ : S61), (⟨wrap64 (a1_2 - a1_1), (⟨#[]⟩ : ByteArray), (⟨#[]⟩ : ByteArray)⟩ : S61), (⟨0, (⟨#[47]⟩ : ByteArray), (⟨#[]⟩ : ByteArray)⟩ : S61), (⟨wrap64 ((a0.size : Int) - a1_2), (⟨#[]⟩ : ByteArray), (⟨#[]⟩ : ByteArray)⟩ : S61)] : List (S61))) := ⟨_, rfl⟩
           replace H : ((spec_l3Normal.f kj21 y189).bind fun t192 => (some (t192, true))) = some (r1, r2) := by first | (rw [hy189]; with_reducible exact H) | (have H2_ := (Option.bind_some _ _).symm.trans H; rw [hy189]; with_reducible exact H2_) | (have H2_ := (Option.bind_some _ _).symm.trans H; with_reducible exact H2_) | with_reducible exact H | (rw [hy189]; exact H) | exact H
           have Ny189 := aM hy189
           clear hy189
           replace H := oB H
           obtain ⟨t192, A390, H⟩ := H
           try dsimp only at H
           have A39 := aM A390
           clear A390
           simp only [Option.some.injEq, Prod.mk.injEq] at H
           obtain ⟨rfl, rfl⟩ := H
           have hcz40_0 : wc.cell? ⟨gb177, 0, none⟩ = some (.int .i64 a1_0) := (bC BK177.out 0).trans rfl
           have hcz40_1 : wc.cell? ⟨gb177, 1, none⟩ = some (.int .i64 a1_1) := (bC BK177.out 1).trans rfl
           have hcz40_2 : wc.cell? ⟨gb177, 2, none⟩ = some (.int .i64 a1_2) := (bC BK177.out 2).trans rfl
           have hcz40_3 : wc.cell? ⟨gb177, 3, none⟩ = some (.string a1_3) := (bC BK177.out 3).trans rfl
           have hfz40_0 := bF BK177.out 0
           have hfz40_1 := bF BK177.out 1
           have hfz40_2 := bF BK177.out 2
           have hfz40_3 := bF BK177.out 3
           go_wp2_with (first | ((with_reducible refine gate_callee (f := 73) rfl ?_); refine goesL_ (some 70) rfl rfl Try.func73 z0 rfl #[.string a1_3] rfl z12 ?_; (with_reducible refine (spec_l1Name.calls a1_3 true _ A37.out).mono ?_); rintro e w' ⟨rfl, ⟨nd, rfl⟩⟩; refine ⟨_, rfl, ?_⟩) | ((with_reducible refine gate_dst (N := 91) rfl ?_); (try (refine gate_guard (by rfl) ?_; dsimp only)); refine Kd.R_lit k61 _ 61 ?hg (N := 91) ?hd (xs := ([(⟨a1_1, (⟨#[]⟩ : ByteArray), (⟨#[]⟩ : ByteArray)⟩ : S61), (⟨0, a1_3, (⟨#[]⟩ : ByteArray)⟩ : S61), (⟨wrap64 (a1_2 - a1_1), (⟨#[]⟩ : ByteArray), (⟨#[]⟩ : ByteArray)⟩ : S61), (⟨0, (⟨#[47]⟩ : ByteArray), (⟨#[]⟩ : ByteArray)⟩ : S61), (⟨wrap64 ((a0.size : Int) - a1_2), (⟨#[]⟩ : ByteArray), (⟨#[]⟩ : ByteArray)⟩ : S61)] : List (S61))) (inner := [.int .i64 a1_1, .string (⟨#[]⟩ : ByteArray), .string (⟨#[]⟩ : ByteArray), .int .i64 0, .string a1_3, .string (⟨#[]⟩ : ByteArray), .int .i64 (wrap64 (a1_2 - a1_1)), .string (⟨#[]⟩ : ByteArray), .string (⟨#[]⟩ : ByteArray), .int .i64 0, .string (⟨#[47]⟩ : ByteArray), .string (⟨#[]⟩ : ByteArray), .int .i64 (wrap64 ((a0.size : Int) - a1_2)), .string (⟨#[]⟩ : ByteArray), .string (⟨#[]⟩ : ByteArray)]) (ok := fun _ => True) (okp := fun _ => True) ?hr ?hp (fun _ hk => hk) trivial (Below.refl _ _) (Nat.le_refl _) (by simp) ?_; (case hd => rfl); (case hg => rfl); (case hr => first | (go_simp; done) | (go_simp; rfl)); (case hp => exact (Reps.c3 (show Kd.M k61 _ _ _ (⟨a1_1, (⟨#[]⟩ : ByteArray), (⟨#[]⟩ : ByteArray)⟩ : S61) [.int .i64 a1_1, .string (⟨#[]⟩ : ByteArray), .string (⟨#[]⟩ : ByteArray)] from (k61_mkM _ _ _ (⟨a1_1, (⟨#[]⟩ : ByteArray), (⟨#[]⟩ : ByteArray)⟩ : S61) )) (Reps.c3 (show Kd.M k61 _ _ _ (⟨0, a1_3, (⟨#[]⟩ : ByteArray)⟩ : S61) [.int .i64 0, .string a1_3, .string (⟨#[]⟩ : ByteArray)] from (k61_mkM _ _ _ (⟨0, a1_3, (⟨#[]⟩ : ByteArray)⟩ : S61) )) (Reps.c3 (show Kd.M k61 _ _ _ (⟨wrap64 (a1_2 - a1_1), (⟨#[]⟩ : ByteArray), (⟨#[]⟩ : ByteArray)⟩ : S61) [.int .i64 (wrap64 (a1_2 - a1_1)), .string (⟨#[]⟩ : ByteArray), .string (⟨#[]⟩ : ByteArray)] from (k61_mkM _ _ _ (⟨wrap64 (a1_2 - a1_1), (⟨#[]⟩ : ByteArray), (⟨#[]⟩ : ByteArray)⟩ : S61) )) (Reps.c3 (show Kd.M k61 _ _ _ (⟨0, (⟨#[47]⟩ : ByteArray), (⟨#[]⟩ : ByteArray)⟩ : S61) [.int .i64 0, .string (⟨#[47]⟩ : ByteArray), .string (⟨#[]⟩ : ByteArray)] from (k61_mkM _ _ _ (⟨0, (⟨#[47]⟩ : ByteArray), (⟨#[]⟩ : ByteArray)⟩ : S61) )) (Reps.c3 (show Kd.M k61 _ _ _ (⟨wrap64 ((a0.size : Int) - a1_2), (⟨#[]⟩ : ByteArray), (⟨#[]⟩ : ByteArray)⟩ : S61) [.int .i64 (wrap64 ((a0.size : Int) - a1_2)), .string (⟨#[]⟩ : ByteArray), .string (⟨#[]⟩ : ByteArray)] from (k61_mkM _ _ _ (⟨wrap64 ((a0.size : Int) - a1_2), (⟨#[]⟩ : ByteArray), (⟨#[]⟩ : ByteArray)⟩ : S61) )) (Reps.none _ _))))))); intro v190 w41 ho42 hb hg_ hnew_; clear hg_ hnew_; (first | rw [← Ny189.out] at ho42 | (simp only [Int.reduceToNat] at ho42; rw [← Ny189.out] at ho42)); have n0_ := aM (Kd.R_lower ho42 (below_size z13)); have n1_ := aM (blk_below (g := gb177) (o := .cells #[.int .i64 a1_0, .int .i64 a1_1, .int .i64 a1_2, .string a1_3] 29 (0, 0)) z6 hb); have n2_ := aM (below_step z13 hb); clear BK177; clear HB; have HO191 := n0_; have BK177 := n1_; have HB := n2_; clear n0_ n1_ n2_; clear hb ho42; obtain ⟨Ao43, co43, eo43⟩ := Kd.R_slice HO191.out; subst eo43) | ((with_reducible refine gate_callee (f := 74) rfl ?_); refine goesL_ (some 92) rfl rfl Try.func74 z0 rfl #[.slice Ao43 y189.length co43] rfl z12 ?_; (with_reducible refine (spec_l3Normal.calls kj21 _ _ y189 t192 _ ?side1 ?side2 A39.out).mono ?_); (case side1 => repeat (first | exact (Kd.R_reads' HO191.out).2.2 | (with_reducible refine Kd.C_alloc ?_ _) | (with_reducible refine Kd.C_drewN ?_ _) | (with_reducible refine Kd.C_drew ?_))); (case side2 => exact (Kd.R_reads' HO191.out).2.1); rintro e w44 ⟨v193, rfl, ho0, hb⟩; refine ⟨_, rfl, ?_⟩; have n0_ := aM (Kd.R_elder' (by (with_reducible repeat (first | apply Kd.R_alloc | apply Kd.R_drewN | apply Kd.R_drew)); exact HO191.out) (Kd.R_base ho0) hb); have n1_ := aM (Kd.R_lower (Kd.R_new' ho0 (Kd.R_lt (by (with_reducible repeat (first | apply Kd.R_alloc | apply Kd.R_drewN | apply Kd.R_drew)); exact HO191.out))) (below_size z13)); have n2_ := aM (blk_below (g := gb177) (o := .cells #[.int .i64 a1_0, .int .i64 a1_1, .int .i64 a1_2, .string a1_3] 29 (0, 0)) z6 hb); have n3_ := aM (below_step z13 hb); clear HO191; clear BK177; clear HB; have HO191 := n0_; have HO194 := n1_; have BK177 := n2_; have HB := n3_; clear n0_ n1_ n2_ n3_; (try clear hb); (try clear hb2); (try clear hk); (try clear hi); (try clear ho0)))
           go_ret2
           exact ⟨_, y3, by (with_reducible repeat (first | apply Kd.R_alloc | apply Kd.R_drewN | apply Kd.R_drew)); exact Kd.R_mono HO194.out (fun _ hk => trivial), y17⟩
          ·replace c38 := Bool.eq_false_iff.mpr c38
           subst c38
           rw [if_neg (show ¬ (false = true) by decide)] at H
           simp only [Option.some.injEq, Prod.mk.injEq] at H
           obtain ⟨rfl, rfl⟩ := H
           have hcz45_0 : wc.cell? ⟨gb177, 0, none⟩ = some (.int .i64 a1_0) := (bC BK177.out 0).trans rfl
           have hcz45_1 : wc.cell? ⟨gb177, 1, none⟩ = some (.int .i64 a1_1) := (bC BK177.out 1).trans rfl
           have hcz45_2 : wc.cell? ⟨gb177, 2, none⟩ = some (.int .i64 a1_2) := (bC BK177.out 2).trans rfl
           have hcz45_3 : wc.cell? ⟨gb177, 3, none⟩ = some (.string a1_3) := (bC BK177.out 3).trans rfl
           have hfz45_0 := bF BK177.out 0
           have hfz45_1 := bF BK177.out 1
           have hfz45_2 := bF BK177.out 2
           have hfz45_3 := bF BK177.out 3
           go_wp2_with (first | ((with_reducible refine gate_callee (f := 73) rfl ?_); refine goesL_ (some 70) rfl rfl Try.func73 z0 rfl #[.string a1_3] rfl z12 ?_; (with_reducible refine (spec_l1Name.calls a1_3 false _ A37.out).mono ?_); rintro e w' ⟨rfl, ⟨nd, rfl⟩⟩; refine ⟨_, rfl, ?_⟩))
           go_ret2
           exact ⟨_, y3, y21, y17⟩
     ·exact absurd (HX33.out.mpr HKD.out) c21
 ·exact absurd (A3.out.symm.trans HTR.out) (fun e_ => c4 (sI e_))
set_option maxHeartbeats 8000000 in
set_option maxRecDepth 100000 in
theorem spec_l8Op.calls5 (k : Nat) (a0 : ByteArray) (a1_0 : Int) (a1_1 : Int) (a1_2 : Int) (a1_3 : ByteArray) (r1 : List (S61)) (r2 : Bool) (w : World) (HTR : Aside0 (spec_l1In.f a1_1 0 (a0.size : Int) = some true)) (HKD : Aside0 (a1_0 = 5)) (h : spec_l8Op.f k a0 a1_0 a1_1 a1_2 a1_3 = some (r1, r2)) :
  Calls Try.prog 53 #[.string a0, .agg #[.int .i64 a1_0, .int .i64 a1_1, .int .i64 a1_2, .string a1_3]] w fun e w' => ∃ v0_ : Value, e = .returned (.tuple #[v0_, .bool r2]) ∧ Kd.R k61 61 w' w.heap.size (fun _ => True) v0_ r1 ∧ Below w.heap.size w w' := by
 have hu29 := Try.underlying29
 have hu61 := Try.underlying61
 have HB := aM (Below.refl w.heap.size w)
 have H : ((spec_l1In.f a1_1 0 (a0.size : Int)).bind fun t178 => (if t178 = true then (if a1_0 = 1 then ((spec_l3Splice.f k a0 a1_1 a1_1 a1_3).bind fun t179 => (if a1_3.toList = ([] : List UInt8) then (some (t179, false)) else ((spec_GoodText.f k a1_3).bind fun t182 => (some (t179, t182))))) else (if a1_0 = 2 then (spec_l8Op.j0 k a0 a1_0 (a1_0 == 2) a1_0 a1_1 a1_2 a1_3) else (spec_l8Op.j0 k a0 a1_0 (a1_0 == 3) a1_0 a1_1 a1_2 a1_3))) else (some (([] : List (S61)), false)))) = some (r1, r2) := h
 clear h
 replace H := oB H
 obtain ⟨t178, A30, H⟩ := H
 try dsimp only at H
 have A3 := aM A30
 clear A30
 by_cases c4 : t178 = true
 ·subst c4
  rw [if_pos rfl] at H
  by_cases c5 : a1_0 = 1
  ·exact absurd c5 (by have := HKD.out; omega)
  ·rw [if_neg c5] at H
   have c5b0 : (a1_0 == 1) = false := qF c5
   have c5b1 : (a1_0 != 1) = true := nT c5
   have HC17 := aM H
   clear H
   go_enter Try.func53, Try.ntmps53
   go_upto_if 33 with (first | ((with_reducible refine gate_dst (N := 3) rfl ?_); (try (refine gate_guard (by rfl) ?_; dsimp only)); refine box_event ?hg (N := 3) ?hd (cs := #[.int .i64 a1_0, .int .i64 a1_1, .int .i64 a1_2, .string a1_3]) (t := 29) ?hr ?_; (case hd => rfl); (case hg => rfl); (case hr => first | (go_simp; done) | (go_simp; rfl)); intro gb177 hg w18 hbox hb; have n0_ := aM (below_step z11 hb); have n1_ := aM (hbox); have n2_ := aM ((by rw [hg]; exact (below_size z11) : w.heap.size ≤ gb177)); have n3_ := aM ((by rw [hg]; exact (below_size z11) : w.heap.size ≤ gb177)); clear HB; have HB := n0_; have BK177 := n1_; have GW177 := n2_; have GE177 := n3_; clear n0_ n1_ n2_ n3_; clear hb hbox hg; have hcz19_0 : w18.cell? ⟨gb177, 0, none⟩ = some (.int .i64 a1_0) := (bC BK177.out 0).trans rfl; have hcz19_1 : w18.cell? ⟨gb177, 1, none⟩ = some (.int .i64 a1_1) := (bC BK177.out 1).trans rfl; have hcz19_2 : w18.cell? ⟨gb177, 2, none⟩ = some (.int .i64 a1_2) := (bC BK177.out 2).trans rfl; have hcz19_3 : w18.cell? ⟨gb177, 3, none⟩ = some (.string a1_3) := (bC BK177.out 3).trans rfl; have hfz19_0 := bF BK177.out 0; have hfz19_1 := bF BK177.out 1; have hfz19_2 := bF BK177.out 2; have hfz19_3 := bF BK177.out 3) | ((with_reducible refine gate_callee (f := 71) rfl ?_); refine goesL_ (some 11) rfl rfl Try.func71 z0 rfl #[.int .i64 a1_1, .int .i64 0, .int .i64 (a0.size : Int)] rfl z12 ?_; (with_reducible refine (spec_l1In.calls a1_1 0 (a0.size : Int) true _ A3.out).mono ?_); rintro e w' ⟨rfl, ⟨nd, rfl⟩⟩; refine ⟨_, rfl, ?_⟩))
   (try simp only [Act.put, sA, sB, sC])
   go_cut [33] (fun v33 wc => ∃ (kq : Nat) (x33_16 : Bool), v33 = .bool x33_16 ∧ Aside0 (x33_16 = true ↔ (a1_0 = 2 ∨ a1_0 = 3)) ∧ Aside0 (spec_l8Op.j0 kq a0 a1_0 x33_16 a1_0 a1_1 a1_2 a1_3 = some (r1, r2)) ∧ Aside0 (kq ≤ k) ∧ Aside0 (wc.heap[gb177]? = some (.cells #[.int .i64 a1_0, .int .i64 a1_1, .int .i64 a1_2, .string a1_3] 29 (0, 0))) ∧ Aside0 (Below w.heap.size w wc))
   case first =>
    have H := HC17.out
    clear HC17
    by_cases c20 : a1_0 = 2
    ·rw [if_pos c20] at H
     have c20b0 : (a1_0 == 2) = true := qT c20
     have c20b1 : (a1_0 != 2) = false := nF c20
     clear c20
     (first | rw [c20b0] | (simp only [i64_w, i32_w]; rw [c20b0]) | skip)
     have H' := aM H
     clear H
     go_wp2
     go_meet
     case rel => exact ⟨_, ((a1_0 == 2)), z1, ⟨⟨fun h_ => .inl (beq_iff_eq.mp h_), fun _ => c20b0⟩⟩, H', ⟨y0⟩, ⟨y10⟩, ⟨y17⟩⟩
    ·rw [if_neg c20] at H
     have c20b0 : (a1_0 == 2) = false := qF c20
     have c20b1 : (a1_0 != 2) = true := nT c20
     (first | rw [c20b0] | (simp only [i64_w, i32_w]; rw [c20b0]) | skip)
     have H' := aM H
     clear H
     go_wp2
     go_meet
     case rel => exact ⟨_, ((a1_0 == 3)), z1, ⟨⟨fun h_ => .inr (beq_iff_eq.mp h_), fun h_ => h_.elim (fun e_ => absurd (qT e_) (by rw [c20b0]; decide)) (fun e_ => qT e_)⟩⟩, H', ⟨y0⟩, ⟨y10⟩, ⟨y17⟩⟩
   case rest =>
    clear HC17
    try clear c2
    try clear p2
    try clear c4
    try clear c5
    try clear c5b0
    try clear c5b1
    try clear c7
    try clear c7b0
    try clear c7b1
    try clear c20
    try clear c20b0
    try clear c20b1
    try clear hcz14_0
    try clear hcz14_1
    try clear hcz14_2
    try clear hcz14_3
    try clear hcz19_0
    try clear hcz19_1
    try clear hcz19_2
    try clear hcz19_3
    try clear hcz9_0
    try clear hcz9_1
    try clear hcz9_2
    try clear hcz9_3
    try clear hfz14_0
    try clear hfz14_1
    try clear hfz14_2
    try clear hfz14_3
    try clear hfz19_0
    try clear hfz19_1
    try clear hfz19_2
    try clear hfz19_3
    try clear hfz9_0
    try clear hfz9_1
    try clear hfz9_2
    try clear hfz9_3
    obtain ⟨kq, x33_16, rfl, HX33, HA, HJ16, BK177, HB⟩ := hcut
    cases kq with
    | zero => exact absurd HA.out (by simp [spec_l8Op.j0])
    | succ kj16 =>
     have H := HA.out
     clear HA
     simp only [spec_l8Op.j0] at H
     by_cases c21 : x33_16 = true
     ·exact absurd (HX33.out.mp c21) (by have := HKD.out; omega)
     ·replace c21 := Bool.eq_false_iff.mpr c21
      subst c21
      rw [if_neg (show ¬ (false = true) by decide)] at H
      by_cases c46 : a1_0 = 5
      ·rw [if_pos c46] at H
       have c46b0 : (a1_0 == 5) = true := qT c46
       have c46b1 : (a1_0 != 5) = false := nF c46
       clear c46
       replace H := oB H
       obtain ⟨⟨t195, t196⟩, A470, H⟩ := H
       try dsimp only at H
       have A47 := aM A470
       clear A470
       simp only [Option.some.injEq, Prod.mk.injEq] at H
       obtain ⟨rfl, rfl⟩ := H
       have hcz48_0 : wc.cell? ⟨gb177, 0, none⟩ = some (.int .i64 a1_0) := (bC BK177.out 0).trans rfl
       have hcz48_1 : wc.cell? ⟨gb177, 1, none⟩ = some (.int .i64 a1_1) := (bC BK177.out 1).trans rfl
       have hcz48_2 : wc.cell? ⟨gb177, 2, none⟩ = some (.int .i64 a1_2) := (bC BK177.out 2).trans rfl
       have hcz48_3 : wc.cell? ⟨gb177, 3, none⟩ = some (.string a1_3) := (bC BK177.out 3).trans rfl
       have hfz48_0 := bF BK177.out 0
       have hfz48_1 := bF BK177.out 1
       have hfz48_2 := bF BK177.out 2
       have hfz48_3 := bF BK177.out 3
       go_wp2_with (first | ((with_reducible refine gate_callee (f := 75) rfl ?_); refine goesL_ (some 98) rfl rfl Try.func75 z0 rfl #[.string a0, .int .i64 a1_1] rfl z12 ?_; (with_reducible refine (spec_l8Split.calls kj16 a0 a1_1 t195 t196 _ A47.out).mono ?_); rintro e w49 ⟨v197, rfl, ho0, hb⟩; refine ⟨_, rfl, ?_⟩; have n0_ := aM (Kd.R_lower ho0 (below_size z13)); have n1_ := aM (blk_below (g := gb177) (o := .cells #[.int .i64 a1_0, .int .i64 a1_1, .int .i64 a1_2, .string a1_3] 29 (0, 0)) z6 hb); have n2_ := aM (below_step z13 hb); clear BK177; clear HB; have HO198 := n0_; have BK177 := n1_; have HB := n2_; clear n0_ n1_ n2_; (try clear hb); (try clear hb2); (try clear hk); (try clear hi); (try clear ho0)))
       go_ret2
       exact ⟨_, y3, by (with_reducible repeat (first | apply Kd.R_alloc | apply Kd.R_drewN | apply Kd.R_drew)); exact HO198.out, y17⟩
      ·exact absurd HKD.out c46
 ·exact absurd (A3.out.symm.trans HTR.out) (fun e_ => c4 (sI e_))
set_option maxHeartbeats 8000000 in
set_option maxRecDepth 100000 in
theorem spec_l8Op.calls6 (k : Nat) (a0 : ByteArray) (a1_0 : Int) (a1_1 : Int) (a1_2 : Int) (a1_3 : ByteArray) (r1 : List (S61)) (r2 : Bool) (w : World) (HTR : Aside0 (spec_l1In.f a1_1 0 (a0.size : Int) = some true)) (HKD : Aside0 (a1_0 = 6)) (h : spec_l8Op.f k a0 a1_0 a1_1 a1_2 a1_3 = some (r1, r2)) :
  Calls Try.prog 53 #[.string a0, .agg #[.int .i64 a1_0, .int .i64 a1_1, .int .i64 a1_2, .string a1_3]] w fun e w' => ∃ v0_ : Value, e = .returned (.tuple #[v0_, .bool r2]) ∧ Kd.R k61 61 w' w.heap.size (fun _ => True) v0_ r1 ∧ Below w.heap.size w w' := by
 have hu29 := Try.underlying29
 have hu61 := Try.underlying61
 have HB := aM (Below.refl w.heap.size w)
 have H : ((spec_l1In.f a1_1 0 (a0.size : Int)).bind fun t178 => (if t178 = true then (if a1_0 = 1 then ((spec_l3Splice.f k a0 a1_1 a1_1 a1_3).bind fun t179 => (if a1_3.toList = ([] : List UInt8) then (some (t179, false)) else ((spec_GoodText.f k a1_3).bind fun t182 => (some (t179, t182))))) else (if a1_0 = 2 then (spec_l8Op.j0 k a0 a1_0 (a1_0 == 2) a1_0 a1_1 a1_2 a1_3) else (spec_l8Op.j0 k a0 a1_0 (a1_0 == 3) a1_0 a1_1 a1_2 a1_3))) else (some (([] : List (S61)), false)))) = some (r1, r2) := h
 clear h
 replace H := oB H
 obtain ⟨t178, A30, H⟩ := H
 try dsimp only at H
 have A3 := aM A30
 clear A30
 by_cases c4 : t178 = true
 ·subst c4
  rw [if_pos rfl] at H
  by_cases c5 : a1_0 = 1
  ·exact absurd c5 (by have := HKD.out; omega)
  ·rw [if_neg c5] at H
   have c5b0 : (a1_0 == 1) = false := qF c5
   have c5b1 : (a1_0 != 1) = true := nT c5
   have HC17 := aM H
   clear H
   go_enter Try.func53, Try.ntmps53
   go_upto_if 33 with (first | ((with_reducible refine gate_dst (N := 3) rfl ?_); (try (refine gate_guard (by rfl) ?_; dsimp only)); refine box_event ?hg (N := 3) ?hd (cs := #[.int .i64 a1_0, .int .i64 a1_1, .int .i64 a1_2, .string a1_3]) (t := 29) ?hr ?_; (case hd => rfl); (case hg => rfl); (case hr => first | (go_simp; done) | (go_simp; rfl)); intro gb177 hg w18 hbox hb; have n0_ := aM (below_step z11 hb); have n1_ := aM (hbox); have n2_ := aM ((by rw [hg]; exact (below_size z11) : w.heap.size ≤ gb177)); have n3_ := aM ((by rw [hg]; exact (below_size z11) : w.heap.size ≤ gb177)); clear HB; have HB := n0_; have BK177 := n1_; have GW177 := n2_; have GE177 := n3_; clear n0_ n1_ n2_ n3_; clear hb hbox hg; have hcz19_0 : w18.cell? ⟨gb177, 0, none⟩ = some (.int .i64 a1_0) := (bC BK177.out 0).trans rfl; have hcz19_1 : w18.cell? ⟨gb177, 1, none⟩ = some (.int .i64 a1_1) := (bC BK177.out 1).trans rfl; have hcz19_2 : w18.cell? ⟨gb177, 2, none⟩ = some (.int .i64 a1_2) := (bC BK177.out 2).trans rfl; have hcz19_3 : w18.cell? ⟨gb177, 3, none⟩ = some (.string a1_3) := (bC BK177.out 3).trans rfl; have hfz19_0 := bF BK177.out 0; have hfz19_1 := bF BK177.out 1; have hfz19_2 := bF BK177.out 2; have hfz19_3 := bF BK177.out 3) | ((with_reducible refine gate_callee (f := 71) rfl ?_); refine goesL_ (some 11) rfl rfl Try.func71 z0 rfl #[.int .i64 a1_1, .int .i64 0, .int .i64 (a0.size : Int)] rfl z12 ?_; (with_reducible refine (spec_l1In.calls a1_1 0 (a0.size : Int) true _ A3.out).mono ?_); rintro e w' ⟨rfl, ⟨nd, rfl⟩⟩; refine ⟨_, rfl, ?_⟩))
   (try simp only [Act.put, sA, sB, sC])
   go_cut [33] (fun v33 wc => ∃ (kq : Nat) (x33_16 : Bool), v33 = .bool x33_16 ∧ Aside0 (x33_16 = true ↔ (a1_0 = 2 ∨ a1_0 = 3)) ∧ Aside0 (spec_l8Op.j0 kq a0 a1_0 x33_16 a1_0 a1_1 a1_2 a1_3 = some (r1, r2)) ∧ Aside0 (kq ≤ k) ∧ Aside0 (wc.heap[gb177]? = some (.cells #[.int .i64 a1_0, .int .i64 a1_1, .int .i64 a1_2, .string a1_3] 29 (0, 0))) ∧ Aside0 (Below w.heap.size w wc))
   case first =>
    have H := HC17.out
    clear HC17
    by_cases c20 : a1_0 = 2
    ·rw [if_pos c20] at H
     have c20b0 : (a1_0 == 2) = true := qT c20
     have c20b1 : (a1_0 != 2) = false := nF c20
     clear c20
     (first | rw [c20b0] | (simp only [i64_w, i32_w]; rw [c20b0]) | skip)
     have H' := aM H
     clear H
     go_wp2
     go_meet
     case rel => exact ⟨_, ((a1_0 == 2)), z1, ⟨⟨fun h_ => .inl (beq_iff_eq.mp h_), fun _ => c20b0⟩⟩, H', ⟨y0⟩, ⟨y10⟩, ⟨y17⟩⟩
    ·rw [if_neg c20] at H
     have c20b0 : (a1_0 == 2) = false := qF c20
     have c20b1 : (a1_0 != 2) = true := nT c20
     (first | rw [c20b0] | (simp only [i64_w, i32_w]; rw [c20b0]) | skip)
     have H' := aM H
     clear H
     go_wp2
     go_meet
     case rel => exact ⟨_, ((a1_0 == 3)), z1, ⟨⟨fun h_ => .inr (beq_iff_eq.mp h_), fun h_ => h_.elim (fun e_ => absurd (qT e_) (by rw [c20b0]; decide)) (fun e_ => qT e_)⟩⟩, H', ⟨y0⟩, ⟨y10⟩, ⟨y17⟩⟩
   case rest =>
    clear HC17
    try clear c2
    try clear p2
    try clear c4
    try clear c5
    try clear c5b0
    try clear c5b1
    try clear c7
    try clear c7b0
    try clear c7b1
    try clear c20
    try clear c20b0
    try clear c20b1
    try clear hcz14_0
    try clear hcz14_1
    try clear hcz14_2
    try clear hcz14_3
    try clear hcz19_0
    try clear hcz19_1
    try clear hcz19_2
    try clear hcz19_3
    try clear hcz9_0
    try clear hcz9_1
    try clear hcz9_2
    try clear hcz9_3
    try clear hfz14_0
    try clear hfz14_1
    try clear hfz14_2
    try clear hfz14_3
    try clear hfz19_0
    try clear hfz19_1
    try clear hfz19_2
    try clear hfz19_3
    try clear hfz9_0
    try clear hfz9_1
    try clear hfz9_2
    try clear hfz9_3
    obtain ⟨kq, x33_16, rfl, HX33, HA, HJ16, BK177, HB⟩ := hcut
    cases kq with
    | zero => exact absurd HA.out (by simp [spec_l8Op.j0])
    | succ kj16 =>
     have H := HA.out
     clear HA
     simp only [spec_l8Op.j0] at H
     by_cases c21 : x33_16 = true
     ·exact absurd (HX33.out.mp c21) (by have := HKD.out; omega)
     ·replace c21 := Bool.eq_false_iff.mpr c21
      subst c21
      rw [if_neg (show ¬ (false = true) by decide)] at H
      by_cases c46 : a1_0 = 5
      ·exact absurd c46 (by have := HKD.out; omega)
      ·rw [if_neg c46] at H
       have c46b0 : (a1_0 == 5) = false := qF c46
       have c46b1 : (a1_0 != 5) = true := nT c46
       by_cases c50 : a1_0 = 6
       ·rw [if_pos c50] at H
        have c50b0 : (a1_0 == 6) = true := qT c50
        have c50b1 : (a1_0 != 6) = false := nF c50
        clear c50
        by_cases c51 : a1_1 = 0
        ·rw [if_pos c51] at H
         have c51b0 : (a1_1 == 0) = true := qT c51
         have c51b1 : (a1_1 != 0) = false := nF c51
         clear c51
         simp only [Option.some.injEq, Prod.mk.injEq] at H
         obtain ⟨rfl, rfl⟩ := H
         try go_wp2
         have n0_ := aM (blk_drew BK177.out)
         have n1_ := aM (bD HB.out)
         clear BK177
         clear HB
         have BK177 := n0_
         have HB := n1_
         clear n0_ n1_
         refine start_ (n := 40) (S := fun w' => w'.cell? ⟨gb177, 0, none⟩ = some (.int .i64 a1_0) ∧ w'.cell? ⟨gb177, 1, none⟩ = some (.int .i64 a1_1) ∧ w'.cell? ⟨gb177, 2, none⟩ = some (.int .i64 a1_2) ∧ w'.cell? ⟨gb177, 3, none⟩ = some (.string a1_3)) (ds := []) #[false, false, false, false, false, false, false, false, false, false, false, false, false, false, false, false, false, false, false, false, false, false, false, false, false, false, false, false, false, false, false, false, false, false, false, false, false, false, false, false] z0 rfl rfl ⟨(bC BK177.out 0).trans rfl, (bC BK177.out 1).trans rfl, (bC BK177.out 2).trans rfl, (bC BK177.out 3).trans rfl⟩ (fun hHeld => ?_); refine with_tabW spec_l8Op.tab18 spec_l8Op.bits18 (fun HT_ HW_ => ?_)
         generalize wc.drew = w52 at BK177 HB hHeld ⊢
         refine pA 0 103 ?_
         refine tA 1 104 ?_ (hy := by rintro w' ⟨s0, s1, s2, s3⟩; go_simp; with_reducible rfl)
         refine pA 2 105 ?_
         refine pA 3 106 ?_
         refine pB 4 107 ?_
         refine pB 5 108 ?_
         refine pB 6 109 ?_
         refine pB 7 110 ?_
         refine pB 8 111 ?_
         refine pA 9 112 ?_
         refine pA 10 113 ?_
         refine pB 11 114 ?_
         refine pB 12 115 ?_
         refine pB 13 116 ?_
         refine pB 14 117 ?_
         refine pB 15 118 ?_
         refine pB 16 119 ?_
         refine pA 17 120 ?_
         refine pA 18 121 ?_
         refine pB 19 122 ?_
         refine pB 20 123 ?_
         refine pB 21 124 ?_
         refine pB 22 125 ?_
         refine pB 23 126 ?_
         refine pB 24 127 ?_
         refine pA 25 128 ?_
         refine pA 26 129 ?_
         refine pB 27 130 ?_
         refine pB 28 131 ?_
         refine pB 29 132 ?_
         refine pB 30 133 ?_
         refine pB 31 134 ?_
         refine pB 32 135 ?_
         refine pB 33 136 ?_
         refine pB 34 137 ?_
         refine pB 35 138 ?_
         refine pB 36 139 ?_
         refine pB 37 140 ?_
         refine pB 38 141 ?_
         refine pA 39 142 ?_
         refine done_ (done_of HT_.out z0) ?_
         try go_wp2
         go_ret2
         exact ⟨_, y3, y21, y17⟩
        ·rw [if_neg c51] at H
         have c51b0 : (a1_1 == 0) = false := qF c51
         have c51b1 : (a1_1 != 0) = true := nT c51
         by_cases c53 : a1_1 = (a0.size : Int)
         ·rw [if_pos c53] at H
          have c53b0 : (a1_1 == (a0.size : Int)) = true := qT c53
          have c53b1 : (a1_1 != (a0.size : Int)) = false := nF c53
          clear c53
          simp only [Option.some.injEq, Prod.mk.injEq] at H
          obtain ⟨rfl, rfl⟩ := H
          try go_wp2
          have n0_ := aM (blk_drew BK177.out)
          have n1_ := aM (bD HB.out)
          clear BK177
          clear HB
          have BK177 := n0_
          have HB := n1_
          clear n0_ n1_
          refine start_ (n := 40) (S := fun w' => w'.cell? ⟨gb177, 0, none⟩ = some (.int .i64 a1_0) ∧ w'.cell? ⟨gb177, 1, none⟩ = some (.int .i64 a1_1) ∧ w'.cell? ⟨gb177, 2, none⟩ = some (.int .i64 a1_2) ∧ w'.cell? ⟨gb177, 3, none⟩ = some (.string a1_3)) (ds := []) #[false, false, false, false, false, false, false, false, false, false, false, false, false, false, false, false, false, false, false, false, false, false, false, false, false, false, false, false, false, false, false, false, false, false, false, false, false, false, false, false] z0 rfl rfl ⟨(bC BK177.out 0).trans rfl, (bC BK177.out 1).trans rfl, (bC BK177.out 2).trans rfl, (bC BK177.out 3).trans rfl⟩ (fun hHeld => ?_); refine with_tabW spec_l8Op.tab18 spec_l8Op.bits18 (fun HT_ HW_ => ?_)
          generalize wc.drew = w54 at BK177 HB hHeld ⊢
          refine pA 0 103 ?_
          refine tA 1 104 ?_ (hy := by rintro w' ⟨s0, s1, s2, s3⟩; go_simp; with_reducible rfl)
          refine pA 2 105 ?_
          refine pA 3 106 ?_
          refine pA 4 107 ?_
          refine pA 6 109 ?_
          refine pA 7 110 ?_
          refine tA 5 108 ?_ (hy := by rintro w' ⟨s0, s1, s2, s3⟩; go_simp; with_reducible rfl)
          refine pA 8 111 ?_
          refine pA 9 112 ?_
          refine pA 10 113 ?_
          refine pB 11 114 ?_
          refine pB 12 115 ?_
          refine pB 13 116 ?_
          refine pB 14 117 ?_
          refine pB 15 118 ?_
          refine pB 16 119 ?_
          refine pA 17 120 ?_
          refine pA 18 121 ?_
          refine pB 19 122 ?_
          refine pB 20 123 ?_
          refine pB 21 124 ?_
          refine pB 22 125 ?_
          refine pB 23 126 ?_
          refine pB 24 127 ?_
          refine pA 25 128 ?_
          refine pA 26 129 ?_
          refine pB 27 130 ?_
          refine pB 28 131 ?_
          refine pB 29 132 ?_
          refine pB 30 133 ?_
          refine pB 31 134 ?_
          refine pB 32 135 ?_
          refine pB 33 136 ?_
          refine pB 34 137 ?_
          refine pB 35 138 ?_
          refine pB 36 139 ?_
          refine pB 37 140 ?_
          refine pB 38 141 ?_
          refine pA 39 142 ?_
          refine done_ (done_of HT_.out z0) ?_
          try go_wp2
          go_ret2
          exact ⟨_, y3, y21, y17⟩
         ·rw [if_neg c53] at H
          have c53b0 : (a1_1 == (a0.size : Int)) = false := qF c53
          have c53b1 : (a1_1 != (a0.size : Int)) = true := nT c53
          obtain ⟨ji55, hji55⟩ : ∃ j_ : Int, (wrap64 (a1_1 - 1)) = j_ := ⟨_, rfl⟩
          replace H : (if 0 ≤ (ji55) then (if (ji55) < (a0.size : Int) then (if (bt a0 (ji55)) = 47 then (if 0 ≤ a1_1 then (if a1_1 < (a0.size : Int) then ((spec_l1Open.f (bt a0 a1_1)).bind fun t199 => (if t199 = true then ((spec_l1Match.f kj16 a0 (ji55)).bind fun t200 => (if 0 ≤ t200 then (if t200 < (a0.size : Int) then (if (bt a0 t200) = (bt a0 a1_1) then ((spec_l3Splice.f kj16 a0 (ji55) (wrap64 (a1_1 + 1)) (⟨#[]⟩ : ByteArray)).bind fun t201 => (some (t201, true))) else (some (([] : List (S61)), false))) else (none)) else (none))) else (some (([] : List (S61)), false)))) else (none)) else (none)) else (some (([] : List (S61)), false))) else (none)) else (none)) = some (r1, r2) := by first | (rw [hji55] at H; exact H) | (simp only [hji55] at H ⊢; exact H)
          have hji55w : (IntKind.i64.wrap (a1_1 - 1)) = ji55 := (i64_w _).trans hji55
          by_cases c56 : 0 ≤ (ji55)
          ·rw [if_pos c56] at H
           have c56b0 : decide (0 ≤ (ji55)) = true := dT c56
           clear c56
           by_cases c57 : (ji55) < (a0.size : Int)
           ·rw [if_pos c57] at H
            have c57b0 : decide ((ji55) < (a0.size : Int)) = true := dT c57
            clear c57
            by_cases c59 : (bt a0 (ji55)) = 47
            ·rw [if_pos c59] at H
             have c59b0 : ((bt a0 (ji55)) == 47) = true := qT c59
             have c59b1 : ((bt a0 (ji55)) != 47) = false := nF c59
             clear c59
             by_cases c60 : 0 ≤ a1_1
             ·rw [if_pos c60] at H
              have c60b0 : decide (0 ≤ a1_1) = true := dT c60
              clear c60
              by_cases c61 : a1_1 < (a0.size : Int)
              ·rw [if_pos c61] at H
               have c61b0 : decide (a1_1 < (a0.size : Int)) = true := dT c61
               clear c61
               replace H := oB H
               obtain ⟨t199, A630, H⟩ := H
               try dsimp only at H
               have A63 := aM A630
               clear A630
               by_cases c64 : t199 = true
               ·subst c64
                rw [if_pos rfl] at H
                replace H := oB H
                obtain ⟨t200, A650, H⟩ := H
                try dsimp only at H
                have A65 := aM A650
                clear A650
                by_cases c66 : 0 ≤ t200
                ·rw [if_pos c66] at H
                 have c66b0 : decide (0 ≤ t200) = true := dT c66
                 clear c66
                 by_cases c67 : t200 < (a0.size : Int)
                 ·rw [if_pos c67] at H
                  have c67b0 : decide (t200 < (a0.size : Int)) = true := dT c67
                  clear c67
                  by_cases c70 : (bt a0 t200) = (bt a0 a1_1)
                  ·rw [if_pos c70] at H
                   have c70b0 : ((bt a0 t200) == (bt a0 a1_1)) = true := qT c70
                   have c70b1 : ((bt a0 t200) != (bt a0 a1_1)) = false := nF c70
                   clear c70
                   replace H := oB H
                   obtain ⟨t201, A710, H⟩ := H
                   try dsimp only at H
                   have A71 := aM A710
                   clear A710
                   simp only [Option.some.injEq, Prod.mk.injEq] at H
                   obtain ⟨rfl, rfl⟩ := H
                   try go_wp2
                   have n0_ := aM (blk_drew BK177.out)
                   have n1_ := aM (bD HB.out)
                   clear BK177
                   clear HB
                   have BK177 := n0_
                   have HB := n1_
                   clear n0_ n1_
                   have p58 : 0 ≤ ((ji55) : Int) := oD z2
                   have q58 : (ji55) < (a0.size : Int) := oD z2
                   have hx58 := bt_at a0 (ji55)
                   replace p58 := eq_true p58
                   replace q58 := eq_true q58
                   have p62 : 0 ≤ (a1_1 : Int) := oD z2
                   have q62 : a1_1 < (a0.size : Int) := oD z2
                   have hx62 := bt_at a0 a1_1
                   replace p62 := eq_true p62
                   replace q62 := eq_true q62
                   refine start_ (n := 40) (S := fun w' => w'.cell? ⟨gb177, 0, none⟩ = some (.int .i64 a1_0) ∧ w'.cell? ⟨gb177, 1, none⟩ = some (.int .i64 a1_1) ∧ w'.cell? ⟨gb177, 2, none⟩ = some (.int .i64 a1_2) ∧ w'.cell? ⟨gb177, 3, none⟩ = some (.string a1_3)) (ds := []) #[false, false, false, false, false, false, false, false, false, false, false, false, false, false, false, false, false, false, false, false, false, false, false, false, false, false, false, false, false, false, false, false, false, false, false, false, false, false, false, false] z0 rfl rfl ⟨(bC BK177.out 0).trans rfl, (bC BK177.out 1).trans rfl, (bC BK177.out 2).trans rfl, (bC BK177.out 3).trans rfl⟩ (fun hHeld => ?_); refine with_tabW spec_l8Op.tab18 spec_l8Op.bits18 (fun HT_ HW_ => ?_)
                   generalize wc.drew = w72 at BK177 HB hHeld ⊢
                   refine pA 0 103 ?_
                   refine tA 1 104 ?_ (hy := by rintro w' ⟨s0, s1, s2, s3⟩; go_simp; with_reducible rfl)
                   refine pA 2 105 ?_
                   refine pA 3 106 ?_
                   refine pA 4 107 ?_
                   refine pA 6 109 ?_
                   refine pA 7 110 ?_
                   refine tA 5 108 ?_ (hy := by rintro w' ⟨s0, s1, s2, s3⟩; go_simp; with_reducible rfl)
                   refine pA 8 111 ?_
                   refine pA 9 112 ?_
                   refine pA 10 113 ?_
                   refine pA 11 114 ?_
                   refine pA 12 115 ?_
                   refine tA 13 116 ?_ (hy := by rintro w' ⟨s0, s1, s2, s3⟩; go_simp; with_reducible rfl)
                   refine pA 14 117 ?_
                   refine tA 15 118 ?_ (hy := by rintro w' ⟨s0, s1, s2, s3⟩; go_simp; with_reducible rfl)
                   refine pA 16 119 ?_
                   refine pA 17 120 ?_
                   refine pA 18 121 ?_
                   refine pA 19 122 ?_
                   refine pA 20 123 ?_
                   refine tA 21 124 ?_ (hy := by rintro w' ⟨s0, s1, s2, s3⟩; go_simp; with_reducible rfl)
                   refine tA 22 125 ?_ (hy := by rintro w' ⟨s0, s1, s2, s3⟩; go_simp; with_reducible rfl)
                   refine one_ (i := 23) (N := some 126) #[true, true, true, true, true, true, true, true, true, true, true, true, true, true, true, true, true, true, true, true, true, true, true, true, false, false, false, false, false, false, false, false, false, false, false, false, false, false, false, false] rfl rfl (one_of HT_.out z0) (by decide) (fun K hK => ?_)
                   refine goes_ Try.func29 z0 rfl #[.int .u8 (bt a0 a1_1)] (by rfl) rfl rfl z12 ?_
                   with_reducible refine (spec_l1Open.calls (bt a0 a1_1) true _ A63.out).mono ?_
                   rintro e w' ⟨rfl, ⟨nd, rfl⟩⟩
                   refine ⟨_, rfl, ?_⟩
                   refine hK.out _ _ ⟨(bC BK177.out 0).trans rfl, (bC BK177.out 1).trans rfl, (bC BK177.out 2).trans rfl, (bC BK177.out 3).trans rfl⟩ (fun hHeld => ?_)
                   clear hK K
                   refine norm_ (a' := ?_) ?_ ?_
                   rotate_left
                   ·show Act.put _ (some 126) _ = _
                    simp only [Act.put, sA, sB, sC, i64_w, i32_w]
                    rfl
                   refine pA 24 127 ?_
                   refine pA 25 128 ?_
                   refine pA 26 129 ?_
                   refine pA 27 130 ?_
                   refine pA 28 131 ?_
                   refine pA 29 132 ?_
                   refine pA 34 137 ?_
                   refine pA 35 138 ?_
                   refine tA 30 133 ?_ (hy := by rintro w' ⟨s0, s1, s2, s3⟩; go_simp; with_reducible rfl)
                   refine pA 31 134 ?_
                   refine tA 36 139 ?_ (hy := by rintro w' ⟨s0, s1, s2, s3⟩; go_simp; with_reducible rfl)
                   refine tA 37 140 ?_ (hy := by rintro w' ⟨s0, s1, s2, s3⟩; go_simp; with_reducible rfl)
                   refine one_ (i := 32) (N := some 135) #[true, true, true, true, true, true, true, true, true, true, true, true, true, true, true, true, true, true, true, true, true, true, true, true, true, true, true, true, true, true, true, true, true, false, true, true, true, true, false, false] rfl rfl (one_of HT_.out z0) (by decide) (fun K hK => ?_)
                   refine goes_ Try.func31 z0 rfl #[.string a0, .int .i64 ji55] (by rfl) rfl rfl (by (try simp only [List.map_toArray, List.map_cons, List.map_nil]); first | done | (simp only [hji55]; rfl) | rfl | (simp only [List.length_drop, List.length_take]; rfl)) ?_
                   with_reducible refine (spec_l1Match.calls kj16 a0 ji55 t200 _ A65.out).mono ?_
                   rintro e w' ⟨rfl, ⟨nd, rfl⟩⟩
                   refine ⟨_, rfl, ?_⟩
                   have p68 : 0 ≤ (t200 : Int) := oD z2
                   have q68 : t200 < (a0.size : Int) := oD z2
                   have hx68 := bt_at a0 t200
                   replace p68 := eq_true p68
                   replace q68 := eq_true q68
                   have p69 : 0 ≤ (a1_1 : Int) := oD z2
                   have q69 : a1_1 < (a0.size : Int) := oD z2
                   have hx69 := bt_at a0 a1_1
                   replace p69 := eq_true p69
                   replace q69 := eq_true q69
                   refine hK.out _ _ ⟨(bC BK177.out 0).trans rfl, (bC BK177.out 1).trans rfl, (bC BK177.out 2).trans rfl, (bC BK177.out 3).trans rfl⟩ (fun hHeld => ?_)
                   clear hK K
                   refine norm_ (a' := ?_) ?_ ?_
                   rotate_left
                   ·show Act.put _ (some 135) _ = _
                    simp only [Act.put, sA, sB, sC, i64_w, i32_w]
                    rfl
                   refine tA 33 136 ?_ (hy := by rintro w' ⟨s0, s1, s2, s3⟩; go_simp; with_reducible rfl)
                   refine pA 38 141 ?_
                   refine pA 39 142 ?_
                   refine done_ (done_of HT_.out z0) ?_
                   have hcz73_0 : w72.cell? ⟨gb177, 0, none⟩ = some (.int .i64 a1_0) := (bC BK177.out 0).trans rfl
                   have hcz73_1 : w72.cell? ⟨gb177, 1, none⟩ = some (.int .i64 a1_1) := (bC BK177.out 1).trans rfl
                   have hcz73_2 : w72.cell? ⟨gb177, 2, none⟩ = some (.int .i64 a1_2) := (bC BK177.out 2).trans rfl
                   have hcz73_3 : w72.cell? ⟨gb177, 3, none⟩ = some (.string a1_3) := (bC BK177.out 3).trans rfl
                   have hfz73_0 := bF BK177.out 0
                   have hfz73_1 := bF BK177.out 1
                   have hfz73_2 := bF BK177.out 2
                   have hfz73_3 := bF BK177.out 3
                   try go_wp2_with (first | ((with_reducible refine gate_callee (f := 72) rfl ?_); refine goesL_ (some 150) rfl rfl Try.func72 z0 rfl #[.string a0, .int .i64 ji55, .int .i64 (wrap64 (a1_1 + 1)), .string (⟨#[]⟩ : ByteArray)] rfl (by (try simp only [List.map_toArray, List.map_cons, List.map_nil]); first | done | (simp only [hji55]; rfl) | rfl | (simp only [List.length_drop, List.length_take]; rfl)) ?_; (with_reducible refine (spec_l3Splice.calls kj16 a0 ji55 (wrap64 (a1_1 + 1)) (⟨#[]⟩ : ByteArray) t201 _ A71.out).mono ?_); rintro e w74 ⟨v202, rfl, ho0, hb⟩; refine ⟨_, rfl, ?_⟩; have n0_ := aM (Kd.R_lower ho0 (below_size z13)); have n1_ := aM (blk_below (g := gb177) (o := .cells #[.int .i64 a1_0, .int .i64 a1_1, .int .i64 a1_2, .string a1_3] 29 (0, 0)) z6 hb); have n2_ := aM (below_step z13 hb); clear BK177; clear HB; have HO203 := n0_; have BK177 := n1_; have HB := n2_; clear n0_ n1_ n2_; (try clear hb); (try clear hb2); (try clear hk); (try clear hi); (try clear ho0)))
                   go_ret2
                   exact ⟨_, y25, by (with_reducible repeat (first | apply Kd.R_alloc | apply Kd.R_drewN | apply Kd.R_drew)); exact HO203.out, y17⟩
                  ·rw [if_neg c70] at H
                   have c70b0 : ((bt a0 t200) == (bt a0 a1_1)) = false := qF c70
                   have c70b1 : ((bt a0 t200) != (bt a0 a1_1)) = true := nT c70
                   simp only [Option.some.injEq, Prod.mk.injEq] at H
                   obtain ⟨rfl, rfl⟩ := H
                   try go_wp2
                   have n0_ := aM (blk_drew BK177.out)
                   have n1_ := aM (bD HB.out)
                   clear BK177
                   clear HB
                   have BK177 := n0_
                   have HB := n1_
                   clear n0_ n1_
                   have p58 : 0 ≤ ((ji55) : Int) := oD z2
                   have q58 : (ji55) < (a0.size : Int) := oD z2
                   have hx58 := bt_at a0 (ji55)
                   replace p58 := eq_true p58
                   replace q58 := eq_true q58
                   have p62 : 0 ≤ (a1_1 : Int) := oD z2
                   have q62 : a1_1 < (a0.size : Int) := oD z2
                   have hx62 := bt_at a0 a1_1
                   replace p62 := eq_true p62
                   replace q62 := eq_true q62
                   refine start_ (n := 40) (S := fun w' => w'.cell? ⟨gb177, 0, none⟩ = some (.int .i64 a1_0) ∧ w'.cell? ⟨gb177, 1, none⟩ = some (.int .i64 a1_1) ∧ w'.cell? ⟨gb177, 2, none⟩ = some (.int .i64 a1_2) ∧ w'.cell? ⟨gb177, 3, none⟩ = some (.string a1_3)) (ds := []) #[false, false, false, false, false, false, false, false, false, false, false, false, false, false, false, false, false, false, false, false, false, false, false, false, false, false, false, false, false, false, false, false, false, false, false, false, false, false, false, false] z0 rfl rfl ⟨(bC BK177.out 0).trans rfl, (bC BK177.out 1).trans rfl, (bC BK177.out 2).trans rfl, (bC BK177.out 3).trans rfl⟩ (fun hHeld => ?_); refine with_tabW spec_l8Op.tab18 spec_l8Op.bits18 (fun HT_ HW_ => ?_)
                   generalize wc.drew = w75 at BK177 HB hHeld ⊢
                   refine pA 0 103 ?_
                   refine tA 1 104 ?_ (hy := by rintro w' ⟨s0, s1, s2, s3⟩; go_simp; with_reducible rfl)
                   refine pA 2 105 ?_
                   refine pA 3 106 ?_
                   refine pA 4 107 ?_
                   refine pA 6 109 ?_
                   refine pA 7 110 ?_
                   refine tA 5 108 ?_ (hy := by rintro w' ⟨s0, s1, s2, s3⟩; go_simp; with_reducible rfl)
                   refine pA 8 111 ?_
                   refine pA 9 112 ?_
                   refine pA 10 113 ?_
                   refine pA 11 114 ?_
                   refine pA 12 115 ?_
                   refine tA 13 116 ?_ (hy := by rintro w' ⟨s0, s1, s2, s3⟩; go_simp; with_reducible rfl)
                   refine pA 14 117 ?_
                   refine tA 15 118 ?_ (hy := by rintro w' ⟨s0, s1, s2, s3⟩; go_simp; with_reducible rfl)
                   refine pA 16 119 ?_
                   refine pA 17 120 ?_
                   refine pA 18 121 ?_
                   refine pA 19 122 ?_
                   refine pA 20 123 ?_
                   refine tA 21 124 ?_ (hy := by rintro w' ⟨s0, s1, s2, s3⟩; go_simp; with_reducible rfl)
                   refine tA 22 125 ?_ (hy := by rintro w' ⟨s0, s1, s2, s3⟩; go_simp; with_reducible rfl)
                   refine one_ (i := 23) (N := some 126) #[true, true, true, true, true, true, true, true, true, true, true, true, true, true, true, true, true, true, true, true, true, true, true, true, false, false, false, false, false, false, false, false, false, false, false, false, false, false, false, false] rfl rfl (one_of HT_.out z0) (by decide) (fun K hK => ?_)
                   refine goes_ Try.func29 z0 rfl #[.int .u8 (bt a0 a1_1)] (by rfl) rfl rfl z12 ?_
                   with_reducible refine (spec_l1Open.calls (bt a0 a1_1) true _ A63.out).mono ?_
                   rintro e w' ⟨rfl, ⟨nd, rfl⟩⟩
                   refine ⟨_, rfl, ?_⟩
                   refine hK.out _ _ ⟨(bC BK177.out 0).trans rfl, (bC BK177.out 1).trans rfl, (bC BK177.out 2).trans rfl, (bC BK177.out 3).trans rfl⟩ (fun hHeld => ?_)
                   clear hK K
                   refine norm_ (a' := ?_) ?_ ?_
                   rotate_left
                   ·show Act.put _ (some 126) _ = _
                    simp only [Act.put, sA, sB, sC, i64_w, i32_w]
                    rfl
                   refine pA 24 127 ?_
                   refine pA 25 128 ?_
                   refine pA 26 129 ?_
                   refine pA 27 130 ?_
                   refine pA 28 131 ?_
                   refine pA 29 132 ?_
                   refine pA 34 137 ?_
                   refine pA 35 138 ?_
                   refine tA 30 133 ?_ (hy := by rintro w' ⟨s0, s1, s2, s3⟩; go_simp; with_reducible rfl)
                   refine pA 31 134 ?_
                   refine tA 36 139 ?_ (hy := by rintro w' ⟨s0, s1, s2, s3⟩; go_simp; with_reducible rfl)
                   refine tA 37 140 ?_ (hy := by rintro w' ⟨s0, s1, s2, s3⟩; go_simp; with_reducible rfl)
                   refine one_ (i := 32) (N := some 135) #[true, true, true, true, true, true, true, true, true, true, true, true, true, true, true, true, true, true, true, true, true, true, true, true, true, true, true, true, true, true, true, true, true, false, true, true, true, true, false, false] rfl rfl (one_of HT_.out z0) (by decide) (fun K hK => ?_)
                   refine goes_ Try.func31 z0 rfl #[.string a0, .int .i64 ji55] (by rfl) rfl rfl (by (try simp only [List.map_toArray, List.map_cons, List.map_nil]); first | done | (simp only [hji55]; rfl) | rfl | (simp only [List.length_drop, List.length_take]; rfl)) ?_
                   with_reducible refine (spec_l1Match.calls kj16 a0 ji55 t200 _ A65.out).mono ?_
                   rintro e w' ⟨rfl, ⟨nd, rfl⟩⟩
                   refine ⟨_, rfl, ?_⟩
                   have p68 : 0 ≤ (t200 : Int) := oD z2
                   have q68 : t200 < (a0.size : Int) := oD z2
                   have hx68 := bt_at a0 t200
                   replace p68 := eq_true p68
                   replace q68 := eq_true q68
                   have p69 : 0 ≤ (a1_1 : Int) := oD z2
                   have q69 : a1_1 < (a0.size : Int) := oD z2
                   have hx69 := bt_at a0 a1_1
                   replace p69 := eq_true p69
                   replace q69 := eq_true q69
                   refine hK.out _ _ ⟨(bC BK177.out 0).trans rfl, (bC BK177.out 1).trans rfl, (bC BK177.out 2).trans rfl, (bC BK177.out 3).trans rfl⟩ (fun hHeld => ?_)
                   clear hK K
                   refine norm_ (a' := ?_) ?_ ?_
                   rotate_left
                   ·show Act.put _ (some 135) _ = _
                    simp only [Act.put, sA, sB, sC, i64_w, i32_w]
                    rfl
                   refine tA 33 136 ?_ (hy := by rintro w' ⟨s0, s1, s2, s3⟩; go_simp; with_reducible rfl)
                   refine pA 38 141 ?_
                   refine pA 39 142 ?_
                   refine done_ (done_of HT_.out z0) ?_
                   try go_wp2
                   go_ret2
                   exact ⟨_, y25, y21, y17⟩
                 ·rw [if_neg c67] at H
                  exact absurd H (by simp)
                ·rw [if_neg c66] at H
                 exact absurd H (by simp)
               ·replace c64 := Bool.eq_false_iff.mpr c64
                subst c64
                rw [if_neg (show ¬ (false = true) by decide)] at H
                simp only [Option.some.injEq, Prod.mk.injEq] at H
                obtain ⟨rfl, rfl⟩ := H
                try go_wp2
                have n0_ := aM (blk_drew BK177.out)
                have n1_ := aM (bD HB.out)
                clear BK177
                clear HB
                have BK177 := n0_
                have HB := n1_
                clear n0_ n1_
                have p58 : 0 ≤ ((ji55) : Int) := oD z2
                have q58 : (ji55) < (a0.size : Int) := oD z2
                have hx58 := bt_at a0 (ji55)
                replace p58 := eq_true p58
                replace q58 := eq_true q58
                have p62 : 0 ≤ (a1_1 : Int) := oD z2
                have q62 : a1_1 < (a0.size : Int) := oD z2
                have hx62 := bt_at a0 a1_1
                replace p62 := eq_true p62
                replace q62 := eq_true q62
                refine start_ (n := 40) (S := fun w' => w'.cell? ⟨gb177, 0, none⟩ = some (.int .i64 a1_0) ∧ w'.cell? ⟨gb177, 1, none⟩ = some (.int .i64 a1_1) ∧ w'.cell? ⟨gb177, 2, none⟩ = some (.int .i64 a1_2) ∧ w'.cell? ⟨gb177, 3, none⟩ = some (.string a1_3)) (ds := []) #[false, false, false, false, false, false, false, false, false, false, false, false, false, false, false, false, false, false, false, false, false, false, false, false, false, false, false, false, false, false, false, false, false, false, false, false, false, false, false, false] z0 rfl rfl ⟨(bC BK177.out 0).trans rfl, (bC BK177.out 1).trans rfl, (bC BK177.out 2).trans rfl, (bC BK177.out 3).trans rfl⟩ (fun hHeld => ?_); refine with_tabW spec_l8Op.tab18 spec_l8Op.bits18 (fun HT_ HW_ => ?_)
                generalize wc.drew = w76 at BK177 HB hHeld ⊢
                refine pA 0 103 ?_
                refine tA 1 104 ?_ (hy := by rintro w' ⟨s0, s1, s2, s3⟩; go_simp; with_reducible rfl)
                refine pA 2 105 ?_
                refine pA 3 106 ?_
                refine pA 4 107 ?_
                refine pA 6 109 ?_
                refine pA 7 110 ?_
                refine tA 5 108 ?_ (hy := by rintro w' ⟨s0, s1, s2, s3⟩; go_simp; with_reducible rfl)
                refine pA 8 111 ?_
                refine pA 9 112 ?_
                refine pA 10 113 ?_
                refine pA 11 114 ?_
                refine pA 12 115 ?_
                refine tA 13 116 ?_ (hy := by rintro w' ⟨s0, s1, s2, s3⟩; go_simp; with_reducible rfl)
                refine pA 14 117 ?_
                refine tA 15 118 ?_ (hy := by rintro w' ⟨s0, s1, s2, s3⟩; go_simp; with_reducible rfl)
                refine pA 16 119 ?_
                refine pA 17 120 ?_
                refine pA 18 121 ?_
                refine pA 19 122 ?_
                refine pA 20 123 ?_
                refine tA 21 124 ?_ (hy := by rintro w' ⟨s0, s1, s2, s3⟩; go_simp; with_reducible rfl)
                refine tA 22 125 ?_ (hy := by rintro w' ⟨s0, s1, s2, s3⟩; go_simp; with_reducible rfl)
                refine one_ (i := 23) (N := some 126) #[true, true, true, true, true, true, true, true, true, true, true, true, true, true, true, true, true, true, true, true, true, true, true, true, false, false, false, false, false, false, false, false, false, false, false, false, false, false, false, false] rfl rfl (one_of HT_.out z0) (by decide) (fun K hK => ?_)
                refine goes_ Try.func29 z0 rfl #[.int .u8 (bt a0 a1_1)] (by rfl) rfl rfl z12 ?_
                with_reducible refine (spec_l1Open.calls (bt a0 a1_1) false _ A63.out).mono ?_
                rintro e w' ⟨rfl, ⟨nd, rfl⟩⟩
                refine ⟨_, rfl, ?_⟩
                refine hK.out _ _ ⟨(bC BK177.out 0).trans rfl, (bC BK177.out 1).trans rfl, (bC BK177.out 2).trans rfl, (bC BK177.out 3).trans rfl⟩ (fun hHeld => ?_)
                clear hK K
                refine norm_ (a' := ?_) ?_ ?_
                rotate_left
                ·show Act.put _ (some 126) _ = _
                 simp only [Act.put, sA, sB, sC, i64_w, i32_w]
                 rfl
                refine pA 24 127 ?_
                refine pA 25 128 ?_
                refine pA 26 129 ?_
                refine pB 27 130 ?_
                refine pB 28 131 ?_
                refine pB 29 132 ?_
                refine pB 30 133 ?_
                refine pB 31 134 ?_
                refine pB 32 135 ?_
                refine pB 33 136 ?_
                refine pB 34 137 ?_
                refine pB 35 138 ?_
                refine pB 36 139 ?_
                refine pB 37 140 ?_
                refine pB 38 141 ?_
                refine pA 39 142 ?_
                refine done_ (done_of HT_.out z0) ?_
                try go_wp2
                go_ret2
                exact ⟨_, y25, y21, y17⟩
              ·rw [if_neg c61] at H
               exact absurd H (by simp)
             ·rw [if_neg c60] at H
              exact absurd H (by simp)
            ·rw [if_neg c59] at H
             have c59b0 : ((bt a0 (ji55)) == 47) = false := qF c59
             have c59b1 : ((bt a0 (ji55)) != 47) = true := nT c59
             simp only [Option.some.injEq, Prod.mk.injEq] at H
             obtain ⟨rfl, rfl⟩ := H
             try go_wp2
             have n0_ := aM (blk_drew BK177.out)
             have n1_ := aM (bD HB.out)
             clear BK177
             clear HB
             have BK177 := n0_
             have HB := n1_
             clear n0_ n1_
             have p58 : 0 ≤ ((ji55) : Int) := oD z2
             have q58 : (ji55) < (a0.size : Int) := oD z2
             have hx58 := bt_at a0 (ji55)
             replace p58 := eq_true p58
             replace q58 := eq_true q58
             refine start_ (n := 40) (S := fun w' => w'.cell? ⟨gb177, 0, none⟩ = some (.int .i64 a1_0) ∧ w'.cell? ⟨gb177, 1, none⟩ = some (.int .i64 a1_1) ∧ w'.cell? ⟨gb177, 2, none⟩ = some (.int .i64 a1_2) ∧ w'.cell? ⟨gb177, 3, none⟩ = some (.string a1_3)) (ds := []) #[false, false, false, false, false, false, false, false, false, false, false, false, false, false, false, false, false, false, false, false, false, false, false, false, false, false, false, false, false, false, false, false, false, false, false, false, false, false, false, false] z0 rfl rfl ⟨(bC BK177.out 0).trans rfl, (bC BK177.out 1).trans rfl, (bC BK177.out 2).trans rfl, (bC BK177.out 3).trans rfl⟩ (fun hHeld => ?_); refine with_tabW spec_l8Op.tab18 spec_l8Op.bits18 (fun HT_ HW_ => ?_)
             generalize wc.drew = w77 at BK177 HB hHeld ⊢
             refine pA 0 103 ?_
             refine tA 1 104 ?_ (hy := by rintro w' ⟨s0, s1, s2, s3⟩; go_simp; with_reducible rfl)
             refine pA 2 105 ?_
             refine pA 3 106 ?_
             refine pA 4 107 ?_
             refine pA 6 109 ?_
             refine pA 7 110 ?_
             refine tA 5 108 ?_ (hy := by rintro w' ⟨s0, s1, s2, s3⟩; go_simp; with_reducible rfl)
             refine pA 8 111 ?_
             refine pA 9 112 ?_
             refine pA 10 113 ?_
             refine pA 11 114 ?_
             refine pA 12 115 ?_
             refine tA 13 116 ?_ (hy := by rintro w' ⟨s0, s1, s2, s3⟩; go_simp; with_reducible rfl)
             refine pA 14 117 ?_
             refine tA 15 118 ?_ (hy := by rintro w' ⟨s0, s1, s2, s3⟩; go_simp; with_reducible rfl)
             refine pA 16 119 ?_
             refine pA 17 120 ?_
             refine pA 18 121 ?_
             refine pB 19 122 ?_
             refine pB 20 123 ?_
             refine pB 21 124 ?_
             refine pB 22 125 ?_
             refine pB 23 126 ?_
             refine pB 24 127 ?_
             refine pA 25 128 ?_
             refine pA 26 129 ?_
             refine pB 27 130 ?_
             refine pB 28 131 ?_
             refine pB 29 132 ?_
             refine pB 30 133 ?_
             refine pB 31 134 ?_
             refine pB 32 135 ?_
             refine pB 33 136 ?_
             refine pB 34 137 ?_
             refine pB 35 138 ?_
             refine pB 36 139 ?_
             refine pB 37 140 ?_
             refine pB 38 141 ?_
             refine pA 39 142 ?_
             refine done_ (done_of HT_.out z0) ?_
             try go_wp2
             go_ret2
             exact ⟨_, y25, y21, y17⟩
           ·rw [if_neg c57] at H
            exact absurd H (by simp)
          ·rw [if_neg c56] at H
           exact absurd H (by simp)
       ·exact absurd HKD.out c50
 ·exact absurd (A3.out.symm.trans HTR.out) (fun e_ => c4 (sI e_))
set_option maxHeartbeats 8000000 in
set_option maxRecDepth 100000 in
theorem spec_l8Op.callsO (k : Nat) (a0 : ByteArray) (a1_0 : Int) (a1_1 : Int) (a1_2 : Int) (a1_3 : ByteArray) (r1 : List (S61)) (r2 : Bool) (w : World) (HTR : Aside0 (spec_l1In.f a1_1 0 (a0.size : Int) = some true)) (HKD : Aside0 (a1_0 ≠ 1 ∧ a1_0 ≠ 2 ∧ a1_0 ≠ 3 ∧ a1_0 ≠ 5 ∧ a1_0 ≠ 6)) (h : spec_l8Op.f k a0 a1_0 a1_1 a1_2 a1_3 = some (r1, r2)) :
  Calls Try.prog 53 #[.string a0, .agg #[.int .i64 a1_0, .int .i64 a1_1, .int .i64 a1_2, .string a1_3]] w fun e w' => ∃ v0_ : Value, e = .returned (.tuple #[v0_, .bool r2]) ∧ Kd.R k61 61 w' w.heap.size (fun _ => True) v0_ r1 ∧ Below w.heap.size w w' := by
 have hu29 := Try.underlying29
 have hu61 := Try.underlying61
 have HB := aM (Below.refl w.heap.size w)
 have H : ((spec_l1In.f a1_1 0 (a0.size : Int)).bind fun t178 => (if t178 = true then (if a1_0 = 1 then ((spec_l3Splice.f k a0 a1_1 a1_1 a1_3).bind fun t179 => (if a1_3.toList = ([] : List UInt8) then (some (t179, false)) else ((spec_GoodText.f k a1_3).bind fun t182 => (some (t179, t182))))) else (if a1_0 = 2 then (spec_l8Op.j0 k a0 a1_0 (a1_0 == 2) a1_0 a1_1 a1_2 a1_3) else (spec_l8Op.j0 k a0 a1_0 (a1_0 == 3) a1_0 a1_1 a1_2 a1_3))) else (some (([] : List (S61)), false)))) = some (r1, r2) := h
 clear h
 replace H := oB H
 obtain ⟨t178, A30, H⟩ := H
 try dsimp only at H
 have A3 := aM A30
 clear A30
 by_cases c4 : t178 = true
 ·subst c4
  rw [if_pos rfl] at H
  by_cases c5 : a1_0 = 1
  ·exact absurd c5 (by have := HKD.out; omega)
  ·rw [if_neg c5] at H
   have c5b0 : (a1_0 == 1) = false := qF c5
   have c5b1 : (a1_0 != 1) = true := nT c5
   have HC17 := aM H
   clear H
   go_enter Try.func53, Try.ntmps53
   go_upto_if 33 with (first | ((with_reducible refine gate_dst (N := 3) rfl ?_); (try (refine gate_guard (by rfl) ?_; dsimp only)); refine box_event ?hg (N := 3) ?hd (cs := #[.int .i64 a1_0, .int .i64 a1_1, .int .i64 a1_2, .string a1_3]) (t := 29) ?hr ?_; (case hd => rfl); (case hg => rfl); (case hr => first | (go_simp; done) | (go_simp; rfl)); intro gb177 hg w18 hbox hb; have n0_ := aM (below_step z11 hb); have n1_ := aM (hbox); have n2_ := aM ((by rw [hg]; exact (below_size z11) : w.heap.size ≤ gb177)); have n3_ := aM ((by rw [hg]; exact (below_size z11) : w.heap.size ≤ gb177)); clear HB; have HB := n0_; have BK177 := n1_; have GW177 := n2_; have GE177 := n3_; clear n0_ n1_ n2_ n3_; clear hb hbox hg; have hcz19_0 : w18.cell? ⟨gb177, 0, none⟩ = some (.int .i64 a1_0) := (bC BK177.out 0).trans rfl; have hcz19_1 : w18.cell? ⟨gb177, 1, none⟩ = some (.int .i64 a1_1) := (bC BK177.out 1).trans rfl; have hcz19_2 : w18.cell? ⟨gb177, 2, none⟩ = some (.int .i64 a1_2) := (bC BK177.out 2).trans rfl; have hcz19_3 : w18.cell? ⟨gb177, 3, none⟩ = some (.string a1_3) := (bC BK177.out 3).trans rfl; have hfz19_0 := bF BK177.out 0; have hfz19_1 := bF BK177.out 1; have hfz19_2 := bF BK177.out 2; have hfz19_3 := bF BK177.out 3) | ((with_reducible refine gate_callee (f := 71) rfl ?_); refine goesL_ (some 11) rfl rfl Try.func71 z0 rfl #[.int .i64 a1_1, .int .i64 0, .int .i64 (a0.size : Int)] rfl z12 ?_; (with_reducible refine (spec_l1In.calls a1_1 0 (a0.size : Int) true _ A3.out).mono ?_); rintro e w' ⟨rfl, ⟨nd, rfl⟩⟩; refine ⟨_, rfl, ?_⟩))
   (try simp only [Act.put, sA, sB, sC])
   go_cut [33] (fun v33 wc => ∃ (kq : Nat) (x33_16 : Bool), v33 = .bool x33_16 ∧ Aside0 (x33_16 = true ↔ (a1_0 = 2 ∨ a1_0 = 3)) ∧ Aside0 (spec_l8Op.j0 kq a0 a1_0 x33_16 a1_0 a1_1 a1_2 a1_3 = some (r1, r2)) ∧ Aside0 (kq ≤ k) ∧ Aside0 (wc.heap[gb177]? = some (.cells #[.int .i64 a1_0, .int .i64 a1_1, .int .i64 a1_2, .string a1_3] 29 (0, 0))) ∧ Aside0 (Below w.heap.size w wc))
   case first =>
    have H := HC17.out
    clear HC17
    by_cases c20 : a1_0 = 2
    ·rw [if_pos c20] at H
     have c20b0 : (a1_0 == 2) = true := qT c20
     have c20b1 : (a1_0 != 2) = false := nF c20
     clear c20
     (first | rw [c20b0] | (simp only [i64_w, i32_w]; rw [c20b0]) | skip)
     have H' := aM H
     clear H
     go_wp2
     go_meet
     case rel => exact ⟨_, ((a1_0 == 2)), z1, ⟨⟨fun h_ => .inl (beq_iff_eq.mp h_), fun _ => c20b0⟩⟩, H', ⟨y0⟩, ⟨y10⟩, ⟨y17⟩⟩
    ·rw [if_neg c20] at H
     have c20b0 : (a1_0 == 2) = false := qF c20
     have c20b1 : (a1_0 != 2) = true := nT c20
     (first | rw [c20b0] | (simp only [i64_w, i32_w]; rw [c20b0]) | skip)
     have H' := aM H
     clear H
     go_wp2
     go_meet
     case rel => exact ⟨_, ((a1_0 == 3)), z1, ⟨⟨fun h_ => .inr (beq_iff_eq.mp h_), fun h_ => h_.elim (fun e_ => absurd (qT e_) (by rw [c20b0]; decide)) (fun e_ => qT e_)⟩⟩, H', ⟨y0⟩, ⟨y10⟩, ⟨y17⟩⟩
   case rest =>
    clear HC17
    try clear c2
    try clear p2
    try clear c4
    try clear c5
    try clear c5b0
    try clear c5b1
    try clear c7
    try clear c7b0
    try clear c7b1
    try clear c20
    try clear c20b0
    try clear c20b1
    try clear hcz14_0
    try clear hcz14_1
    try clear hcz14_2
    try clear hcz14_3
    try clear hcz19_0
    try clear hcz19_1
    try clear hcz19_2
    try clear hcz19_3
    try clear hcz9_0
    try clear hcz9_1
    try clear hcz9_2
    try clear hcz9_3
    try clear hfz14_0
    try clear hfz14_1
    try clear hfz14_2
    try clear hfz14_3
    try clear hfz19_0
    try clear hfz19_1
    try clear hfz19_2
    try clear hfz19_3
    try clear hfz9_0
    try clear hfz9_1
    try clear hfz9_2
    try clear hfz9_3
    obtain ⟨kq, x33_16, rfl, HX33, HA, HJ16, BK177, HB⟩ := hcut
    cases kq with
    | zero => exact absurd HA.out (by simp [spec_l8Op.j0])
    | succ kj16 =>
     have H := HA.out
     clear HA
     simp only [spec_l8Op.j0] at H
     by_cases c21 : x33_16 = true
     ·exact absurd (HX33.out.mp c21) (by have := HKD.out; omega)
     ·replace c21 := Bool.eq_false_iff.mpr c21
      subst c21
      rw [if_neg (show ¬ (false = true) by decide)] at H
      by_cases c46 : a1_0 = 5
      ·exact absurd c46 (by have := HKD.out; omega)
      ·rw [if_neg c46] at H
       have c46b0 : (a1_0 == 5) = false := qF c46
       have c46b1 : (a1_0 != 5) = true := nT c46
       by_cases c50 : a1_0 = 6
       ·exact absurd c50 (by have := HKD.out; omega)
       ·rw [if_neg c50] at H
        have c50b0 : (a1_0 == 6) = false := qF c50
        have c50b1 : (a1_0 != 6) = true := nT c50
        have HC78 := aM H
        clear H
        go_upto_region 21 with (fail)
        go_cut [163] (fun v163 wc => ∃ (kq : Nat) (x163_77 : Bool), v163 = .bool x163_77 ∧ Aside0 (spec_l8Op.j2 kq a0 x163_77 a1_0 a1_1 a1_2 a1_3 = some (r1, r2)) ∧ Aside0 (kq ≤ kj16) ∧ Aside0 (wc.heap[gb177]? = some (.cells #[.int .i64 a1_0, .int .i64 a1_1, .int .i64 a1_2, .string a1_3] 29 (0, 0))) ∧ Aside0 (Below w.heap.size w wc))
        case first =>
         have H := HC78.out
         clear HC78
         by_cases c79 : a1_1 = (a0.size : Int)
         ·rw [if_pos c79] at H
          have c79b0 : (a1_1 == (a0.size : Int)) = true := qT c79
          have c79b1 : (a1_1 != (a0.size : Int)) = false := nF c79
          clear c79
          (first | rw [c79b0] | (simp only [i64_w, i32_w]; rw [c79b0]) | skip)
          have H' := aM H
          clear H
          have hcz80_0 : wc.cell? ⟨gb177, 0, none⟩ = some (.int .i64 a1_0) := (bC BK177.out 0).trans rfl
          have hcz80_1 : wc.cell? ⟨gb177, 1, none⟩ = some (.int .i64 a1_1) := (bC BK177.out 1).trans rfl
          have hcz80_2 : wc.cell? ⟨gb177, 2, none⟩ = some (.int .i64 a1_2) := (bC BK177.out 2).trans rfl
          have hcz80_3 : wc.cell? ⟨gb177, 3, none⟩ = some (.string a1_3) := (bC BK177.out 3).trans rfl
          have hfz80_0 := bF BK177.out 0
          have hfz80_1 := bF BK177.out 1
          have hfz80_2 := bF BK177.out 2
          have hfz80_3 := bF BK177.out 3
          go_wp2
          go_meet
          case rel => exact ⟨_, (true), z1, H', ⟨by have := HJ16.out; first | omega | exact Nat.le_refl _⟩, ⟨y10⟩, ⟨y17⟩⟩
         ·rw [if_neg c79] at H
          have c79b0 : (a1_1 == (a0.size : Int)) = false := qF c79
          have c79b1 : (a1_1 != (a0.size : Int)) = true := nT c79
          (first | rw [c79b0] | (simp only [i64_w, i32_w]; rw [c79b0]) | skip)
          by_cases c81 : 0 ≤ a1_1
          ·rw [if_pos c81] at H
           have c81b0 : decide (0 ≤ a1_1) = true := dT c81
           clear c81
           by_cases c82 : a1_1 < (a0.size : Int)
           ·rw [if_pos c82] at H
            have c82b0 : decide (a1_1 < (a0.size : Int)) = true := dT c82
            clear c82
            replace H := oB H
            obtain ⟨t204, A840, H⟩ := H
            try dsimp only at H
            have A84 := aM A840
            clear A840
            have H' := aM H
            clear H
            have hcz85_0 : wc.cell? ⟨gb177, 0, none⟩ = some (.int .i64 a1_0) := (bC BK177.out 0).trans rfl
            have hcz85_1 : wc.cell? ⟨gb177, 1, none⟩ = some (.int .i64 a1_1) := (bC BK177.out 1).trans rfl
            have hcz85_2 : wc.cell? ⟨gb177, 2, none⟩ = some (.int .i64 a1_2) := (bC BK177.out 2).trans rfl
            have hcz85_3 : wc.cell? ⟨gb177, 3, none⟩ = some (.string a1_3) := (bC BK177.out 3).trans rfl
            have hfz85_0 := bF BK177.out 0
            have hfz85_1 := bF BK177.out 1
            have hfz85_2 := bF BK177.out 2
            have hfz85_3 := bF BK177.out 3
            have p83 : 0 ≤ (a1_1 : Int) := oD z2
            have q83 : a1_1 < (a0.size : Int) := oD z2
            have hx83 := bt_at a0 a1_1
            replace p83 := eq_true p83
            replace q83 := eq_true q83
            go_wp2_with (first | (go_at_call 29; (with_reducible refine (spec_l1Open.calls (bt a0 a1_1) t204 _ A84.out).mono ?_); rintro e w' ⟨rfl, ⟨nd, rfl⟩⟩))
            go_meet
            case rel => exact ⟨_, (!t204), z1, H', ⟨by have := HJ16.out; first | omega | exact Nat.le_refl _⟩, ⟨y10⟩, ⟨y17⟩⟩
           ·rw [if_neg c82] at H
            exact absurd H (by simp)
          ·rw [if_neg c81] at H
           exact absurd H (by simp)
        case rest =>
         clear HC78
         try clear c2
         try clear p2
         try clear c5
         try clear p5
         try clear q5
         try clear hx5
         try clear c6
         try clear c7
         try clear c8
         try clear p8
         try clear q8
         try clear hx8
         try clear c29
         try clear c50
         try clear c50b0
         try clear c50b1
         try clear c56
         try clear c57
         try clear p58
         try clear q58
         try clear hx58
         try clear c59
         try clear c59b0
         try clear c59b1
         try clear c60
         try clear c61
         try clear c79
         try clear c79b0
         try clear c79b1
         try clear c81
         try clear c81b0
         try clear c82
         try clear c82b0
         try clear p83
         try clear q83
         try clear hx83
         try clear hcz80_0
         try clear hcz80_1
         try clear hcz80_2
         try clear hcz80_3
         try clear hcz85_0
         try clear hcz85_1
         try clear hcz85_2
         try clear hcz85_3
         try clear hfz80_0
         try clear hfz80_1
         try clear hfz80_2
         try clear hfz80_3
         try clear hfz85_0
         try clear hfz85_1
         try clear hfz85_2
         try clear hfz85_3
         try clear p58
         try clear p83
         try clear q58
         try clear q83
         obtain ⟨kq, x163_77, rfl, HA, HJ77, BK177, HB⟩ := hcut
         cases kq with
         | zero => exact absurd HA.out (by simp [spec_l8Op.j2])
         | succ kj77 =>
          have H := HA.out
          clear HA
          simp only [spec_l8Op.j2] at H
          by_cases c86 : x163_77 = true
          ·subst c86
           rw [if_pos rfl] at H
           simp only [Option.some.injEq, Prod.mk.injEq] at H
           obtain ⟨rfl, rfl⟩ := H
           go_wp2
           go_ret2
           exact ⟨_, y3, y21, y17⟩
          ·replace c86 := Bool.eq_false_iff.mpr c86
           subst c86
           rw [if_neg (show ¬ (false = true) by decide)] at H
           replace H := oB H
           obtain ⟨t205, A870, H⟩ := H
           try dsimp only at H
           have A87 := aM A870
           clear A870
           by_cases c88 : a1_0 = 4
           ·rw [if_pos c88] at H
            have c88b0 : (a1_0 == 4) = true := qT c88
            have c88b1 : (a1_0 != 4) = false := nF c88
            clear c88
            by_cases c89 : 0 ≤ a1_1
            ·rw [if_pos c89] at H
             have c89b0 := eq_true c89
             have c89b1 : decide (0 ≤ a1_1) = true := dT c89
             clear c89
             by_cases c90 : a1_1 ≤ (wrap64 (a1_1 + 1))
             ·rw [if_pos c90] at H
              have c90b0 := eq_true c90
              have c90b1 : decide (a1_1 ≤ (wrap64 (a1_1 + 1))) = true := dT c90
              by_cases c91 : (wrap64 (a1_1 + 1)) ≤ (a0.size : Int)
              ·rw [if_pos c91] at H
               have c91b0 := eq_true c91
               have c91b1 : decide ((wrap64 (a1_1 + 1)) ≤ (a0.size : Int)) = true := dT c91
               obtain ⟨y206, hy206⟩ : ∃ y_ : List (S61), y_ = (([(⟨a1_1, (⟨#[]⟩ : ByteArray), (⟨#[]⟩ : ByteArray)⟩ : S61), (⟨0, (⟨#[]⟩ : ByteArray), a0.extract (a1_1 : Int).toNat ((wrap64 (a1_1 + 1)) : Int).toNat⟩ : S61), (⟨wrap64 ((wrap64 (t205 - a1_1)) - 1), (⟨#[]⟩ : ByteArray), (⟨#[]⟩ : ByteArray)⟩ : S61), (⟨0, (⟨#[]⟩ : ByteArray), (⟨#[47]⟩ : ByteArray)⟩ : S61), (⟨wrap64 ((wrap64 ((a0.size : Int) - t205)) - 1), (⟨#[]⟩ : ByteArray), (⟨#[]⟩ : ByteArray)⟩ : S61)] : List (S61))) := ⟨_, rfl⟩
               replace H : ((spec_l3Normal.f kj77 y206).bind fun t209 => (some (t209, true))) = some (r1, r2) := by first | (rw [hy206]; with_reducible exact H) | (have H2_ := (Option.bind_some _ _).symm.trans H; rw [hy206]; with_reducible exact H2_) | (have H2_ := (Option.bind_some _ _).symm.trans H; with_reducible exact H2_) | with_reducible exact H | (rw [hy206]; exact H) | exact H
               have Ny206 := aM hy206
               clear hy206
               replace H := oB H
               obtain ⟨t209, A920, H⟩ := H
               try dsimp only at H
               have A92 := aM A920
               clear A920
               simp only [Option.some.injEq, Prod.mk.injEq] at H
               obtain ⟨rfl, rfl⟩ := H
               have hcz93_0 : wc.cell? ⟨gb177, 0, none⟩ = some (.int .i64 a1_0) := (bC BK177.out 0).trans rfl
               have hcz93_1 : wc.cell? ⟨gb177, 1, none⟩ = some (.int .i64 a1_1) := (bC BK177.out 1).trans rfl
               have hcz93_2 : wc.cell? ⟨gb177, 2, none⟩ = some (.int .i64 a1_2) := (bC BK177.out 2).trans rfl
               have hcz93_3 : wc.cell? ⟨gb177, 3, none⟩ = some (.string a1_3) := (bC BK177.out 3).trans rfl
               have hfz93_0 := bF BK177.out 0
               have hfz93_1 := bF BK177.out 1
               have hfz93_2 := bF BK177.out 2
               have hfz93_3 := bF BK177.out 3
               try go_wp2_with (first | ((with_reducible refine gate_callee (f := 31) rfl ?_); refine goesL_ (some 167) rfl rfl Try.func31 z0 rfl #[.string a0, .int .i64 a1_1] rfl z12 ?_; (with_reducible refine (spec_l1Match.calls kj77 a0 a1_1 t205 _ A87.out).mono ?_); rintro e w' ⟨rfl, ⟨nd, rfl⟩⟩; refine ⟨_, rfl, ?_⟩))
               (try (rw [drewN_self wc]; generalize hq_ : World.drewN wc _ = wc; have n0_ : Aside0 (wc.heap[gb177]? = some (.cells #[.int .i64 a1_0, .int .i64 a1_1, .int .i64 a1_2, .string a1_3] 29 (0, 0))) := ⟨by rw [← hq_]; exact z6⟩; have n1_ : Aside0 (Below w.heap.size w wc) := ⟨by rw [← hq_]; exact z13⟩; clear BK177 HB hq_; have BK177 := n0_; have HB := n1_; clear n0_ n1_))
               have n0_ := aM (blk_drew BK177.out)
               have n1_ := aM (bD HB.out)
               clear BK177
               clear HB
               have BK177 := n0_
               have HB := n1_
               clear n0_ n1_
               refine start_ (n := 28) (S := fun w' => w'.cell? ⟨gb177, 0, none⟩ = some (.int .i64 a1_0) ∧ w'.cell? ⟨gb177, 1, none⟩ = some (.int .i64 a1_1) ∧ w'.cell? ⟨gb177, 2, none⟩ = some (.int .i64 a1_2) ∧ w'.cell? ⟨gb177, 3, none⟩ = some (.string a1_3)) (ds := []) #[false, false, false, false, false, false, false, false, false, false, false, false, false, false, false, false, false, false, false, false, false, false, false, false, false, false, false, false] z0 rfl rfl ⟨(bC BK177.out 0).trans rfl, (bC BK177.out 1).trans rfl, (bC BK177.out 2).trans rfl, (bC BK177.out 3).trans rfl⟩ (fun hHeld => ?_); refine with_tabW spec_l8Op.tab26 spec_l8Op.bits26 (fun HT_ HW_ => ?_)
               generalize wc.drew = w94 at BK177 HB hHeld ⊢
               refine pA 0 172 ?_
               refine pA 3 175 ?_
               refine pA 4 176 ?_
               refine pA 6 178 ?_
               refine pA 11 183 ?_
               refine pA 12 184 ?_
               refine pA 17 189 ?_
               refine pA 18 190 ?_
               refine pA 19 191 ?_
               refine pA 20 192 ?_
               refine pA 21 193 ?_
               refine pA 22 194 ?_
               refine pA 23 195 ?_
               refine tA 1 173 ?_ (hy := by rintro w' ⟨s0, s1, s2, s3⟩; go_simp; with_reducible rfl)
               refine pA 2 174 ?_
               refine tA 5 177 ?_ (hy := by rintro w' ⟨s0, s1, s2, s3⟩; go_simp; with_reducible rfl)
               refine tA 7 179 ?_ (hy := by rintro w' ⟨s0, s1, s2, s3⟩; go_simp; with_reducible rfl)
               refine pA 8 180 ?_
               refine pA 9 181 ?_
               refine pA 10 182 ?_
               refine tA 13 185 ?_ (hy := by rintro w' ⟨s0, s1, s2, s3⟩; go_simp; with_reducible rfl)
               refine pA 14 186 ?_
               refine pA 15 187 ?_
               refine pA 16 188 ?_
               refine one_ (i := 24) (N := some 196) #[true, true, true, true, true, true, true, true, true, true, true, true, true, true, true, true, true, true, true, true, true, true, true, true, true, false, false, false] rfl rfl (one_of HT_.out z0) (by decide) (fun K hK => ?_)
               refine Kd.R_lit_step k61 _ 61 ?hg (N := 196) ?hd (xs := ([(⟨a1_1, (⟨#[]⟩ : ByteArray), (⟨#[]⟩ : ByteArray)⟩ : S61), (⟨0, (⟨#[]⟩ : ByteArray), a0.extract (a1_1 : Int).toNat ((wrap64 (a1_1 + 1)) : Int).toNat⟩ : S61), (⟨wrap64 ((wrap64 (t205 - a1_1)) - 1), (⟨#[]⟩ : ByteArray), (⟨#[]⟩ : ByteArray)⟩ : S61), (⟨0, (⟨#[]⟩ : ByteArray), (⟨#[47]⟩ : ByteArray)⟩ : S61), (⟨wrap64 ((wrap64 ((a0.size : Int) - t205)) - 1), (⟨#[]⟩ : ByteArray), (⟨#[]⟩ : ByteArray)⟩ : S61)] : List (S61))) (inner := [.int .i64 a1_1, .string (⟨#[]⟩ : ByteArray), .string (⟨#[]⟩ : ByteArray), .int .i64 0, .string (⟨#[]⟩ : ByteArray), .string (a0.extract (a1_1 : Int).toNat ((wrap64 (a1_1 + 1)) : Int).toNat), .int .i64 (wrap64 ((wrap64 (t205 - a1_1)) - 1)), .string (⟨#[]⟩ : ByteArray), .string (⟨#[]⟩ : ByteArray), .int .i64 0, .string (⟨#[]⟩ : ByteArray), .string (⟨#[47]⟩ : ByteArray), .int .i64 (wrap64 ((wrap64 ((a0.size : Int) - t205)) - 1)), .string (⟨#[]⟩ : ByteArray), .string (⟨#[]⟩ : ByteArray)]) (ok := fun _ => True) (okp := fun _ => True) ?hr ?hp (fun _ hk => hk) trivial (Below.refl _ _) (Nat.le_refl _) (by simp) ?_; (case hd => rfl); (case hg => rfl); (case hr => first | (go_simp; done) | (go_simp; rfl)); (case hp => exact (Reps.c3 (show Kd.M k61 _ _ _ (⟨a1_1, (⟨#[]⟩ : ByteArray), (⟨#[]⟩ : ByteArray)⟩ : S61) [.int .i64 a1_1, .string (⟨#[]⟩ : ByteArray), .string (⟨#[]⟩ : ByteArray)] from (k61_mkM _ _ _ (⟨a1_1, (⟨#[]⟩ : ByteArray), (⟨#[]⟩ : ByteArray)⟩ : S61) )) (Reps.c3 (show Kd.M k61 _ _ _ (⟨0, (⟨#[]⟩ : ByteArray), a0.extract (a1_1 : Int).toNat ((wrap64 (a1_1 + 1)) : Int).toNat⟩ : S61) [.int .i64 0, .string (⟨#[]⟩ : ByteArray), .string (a0.extract (a1_1 : Int).toNat ((wrap64 (a1_1 + 1)) : Int).toNat)] from (k61_mkM _ _ _ (⟨0, (⟨#[]⟩ : ByteArray), a0.extract (a1_1 : Int).toNat ((wrap64 (a1_1 + 1)) : Int).toNat⟩ : S61) )) (Reps.c3 (show Kd.M k61 _ _ _ (⟨wrap64 ((wrap64 (t205 - a1_1)) - 1), (⟨#[]⟩ : ByteArray), (⟨#[]⟩ : ByteArray)⟩ : S61) [.int .i64 (wrap64 ((wrap64 (t205 - a1_1)) - 1)), .string (⟨#[]⟩ : ByteArray), .string (⟨#[]⟩ : ByteArray)] from (k61_mkM _ _ _ (⟨wrap64 ((wrap64 (t205 - a1_1)) - 1), (⟨#[]⟩ : ByteArray), (⟨#[]⟩ : ByteArray)⟩ : S61) )) (Reps.c3 (show Kd.M k61 _ _ _ (⟨0, (⟨#[]⟩ : ByteArray), (⟨#[47]⟩ : ByteArray)⟩ : S61) [.int .i64 0, .string (⟨#[]⟩ : ByteArray), .string (⟨#[47]⟩ : ByteArray)] from (k61_mkM _ _ _ (⟨0, (⟨#[]⟩ : ByteArray), (⟨#[47]⟩ : ByteArray)⟩ : S61) )) (Reps.c3 (show Kd.M k61 _ _ _ (⟨wrap64 ((wrap64 ((a0.size : Int) - t205)) - 1), (⟨#[]⟩ : ByteArray), (⟨#[]⟩ : ByteArray)⟩ : S61) [.int .i64 (wrap64 ((wrap64 ((a0.size : Int) - t205)) - 1)), .string (⟨#[]⟩ : ByteArray), .string (⟨#[]⟩ : ByteArray)] from (k61_mkM _ _ _ (⟨wrap64 ((wrap64 ((a0.size : Int) - t205)) - 1), (⟨#[]⟩ : ByteArray), (⟨#[]⟩ : ByteArray)⟩ : S61) )) (Reps.none _ _)))))))
               intro v207 w95 ho96 hb hg_ hnew_
               clear hg_ hnew_
               (first | rw [← Ny206.out] at ho96 | (simp only [Int.reduceToNat] at ho96; rw [← Ny206.out] at ho96))
               have n0_ := aM (Kd.R_lower ho96 (below_size z13))
               have n1_ := aM (blk_below (g := gb177) (o := .cells #[.int .i64 a1_0, .int .i64 a1_1, .int .i64 a1_2, .string a1_3] 29 (0, 0)) z6 hb)
               have n2_ := aM (below_step z13 hb)
               clear BK177
               clear HB
               have HO208 := n0_
               have BK177 := n1_
               have HB := n2_
               clear n0_ n1_ n2_
               clear hb ho96
               obtain ⟨Ao97, co97, eo97⟩ := Kd.R_slice HO208.out
               (first | subst eo97 | (injection eo97 with f1_ f2_ f3_; have f4_ := f1_.symm; have f5_ := f3_.symm; clear f1_ f2_ f3_; subst f4_; subst f5_))
               refine hK.out _ _ ⟨(bC BK177.out 0).trans rfl, (bC BK177.out 1).trans rfl, (bC BK177.out 2).trans rfl, (bC BK177.out 3).trans rfl⟩ (fun hHeld => ?_)
               clear hK K
               refine norm_ (a' := ?_) ?_ ?_
               rotate_left
               ·show Act.put _ (some 196) _ = _
                simp only [Act.put, sA, sB, sC, i64_w, i32_w]
                rfl
               refine one_ (i := 25) (N := some 197) #[true, true, true, true, true, true, true, true, true, true, true, true, true, true, true, true, true, true, true, true, true, true, true, true, true, true, false, false] rfl rfl (one_of HT_.out z0) (by decide) (fun K hK => ?_)
               refine goes_ Try.func74 z0 rfl #[.slice Ao97 y206.length co97] (by rfl) rfl rfl z12 ?_
               with_reducible refine (spec_l3Normal.calls kj77 _ _ y206 t209 _ ?side1 ?side2 A92.out).mono ?_
               (case side1 => repeat (first | exact (Kd.R_reads' HO208.out).2.2 | (with_reducible refine Kd.C_alloc ?_ _) | (with_reducible refine Kd.C_drewN ?_ _) | (with_reducible refine Kd.C_drew ?_)))
               (case side2 => exact (Kd.R_reads' HO208.out).2.1)
               rintro e w98 ⟨v210, rfl, ho0, hb⟩
               refine ⟨_, rfl, ?_⟩
               have n0_ := aM (Kd.R_elder' (by (with_reducible repeat (first | apply Kd.R_alloc | apply Kd.R_drewN | apply Kd.R_drew)); exact HO208.out) (Kd.R_base ho0) hb)
               have n1_ := aM (Kd.R_lower (Kd.R_new' ho0 (Kd.R_lt (by (with_reducible repeat (first | apply Kd.R_alloc | apply Kd.R_drewN | apply Kd.R_drew)); exact HO208.out))) (below_size z13))
               have n2_ := aM (blk_below (g := gb177) (o := .cells #[.int .i64 a1_0, .int .i64 a1_1, .int .i64 a1_2, .string a1_3] 29 (0, 0)) z6 hb)
               have n3_ := aM (below_step z13 hb)
               clear HO208
               clear BK177
               clear HB
               have HO208 := n0_
               have HO211 := n1_
               have BK177 := n2_
               have HB := n3_
               clear n0_ n1_ n2_ n3_
               (try clear hb)
               (try clear hb2)
               (try clear hk)
               (try clear hi)
               (try clear ho0)
               refine hK.out _ _ ⟨(bC BK177.out 0).trans rfl, (bC BK177.out 1).trans rfl, (bC BK177.out 2).trans rfl, (bC BK177.out 3).trans rfl⟩ (fun hHeld => ?_)
               clear hK K
               refine norm_ (a' := ?_) ?_ ?_
               rotate_left
               ·show Act.put _ (some 197) _ = _
                simp only [Act.put, sA, sB, sC, i64_w, i32_w]
                rfl
               refine pA 26 4 ?_
               refine pA 27 5 ?_
               refine done_ (done_of HT_.out z0) ?_
               try go_wp2
               go_ret2
               exact ⟨_, y3, by (with_reducible repeat (first | apply Kd.R_alloc | apply Kd.R_drewN | apply Kd.R_drew)); exact Kd.R_mono HO211.out (fun _ hk => trivial), y17⟩
              ·rw [if_neg c91] at H
               exact absurd H (by simp)
             ·rw [if_neg c90] at H
              exact absurd H (by simp)
            ·rw [if_neg c89] at H
             exact absurd H (by simp)
           ·rw [if_neg c88] at H
            have c88b0 : (a1_0 == 4) = false := qF c88
            have c88b1 : (a1_0 != 4) = true := nT c88
            by_cases c99 : a1_0 = 8
            ·rw [if_pos c99] at H
             have c99b0 : (a1_0 == 8) = true := qT c99
             have c99b1 : (a1_0 != 8) = false := nF c99
             clear c99
             replace H := oB H
             obtain ⟨t212, A1000, H⟩ := H
             try dsimp only at H
             have A100 := aM A1000
             clear A1000
             by_cases c101 : t212 = true
             ·subst c101
              rw [if_pos rfl] at H
              replace H := oB H
              obtain ⟨t213, A1020, H⟩ := H
              try dsimp only at H
              have A102 := aM A1020
              clear A1020
              by_cases c103 : 0 ≤ a1_1
              ·rw [if_pos c103] at H
               have c103b0 := eq_true c103
               have c103b1 : decide (0 ≤ a1_1) = true := dT c103
               clear c103
               by_cases c104 : a1_1 ≤ (wrap64 (a1_1 + 1))
               ·rw [if_pos c104] at H
                have c104b0 := eq_true c104
                have c104b1 : decide (a1_1 ≤ (wrap64 (a1_1 + 1))) = true := dT c104
                by_cases c105 : (wrap64 (a1_1 + 1)) ≤ (a0.size : Int)
                ·rw [if_pos c105] at H
                 have c105b0 := eq_true c105
                 have c105b1 : decide ((wrap64 (a1_1 + 1)) ≤ (a0.size : Int)) = true := dT c105
                 simp only [Option.some.injEq, Prod.mk.injEq] at H
                 obtain ⟨rfl, rfl⟩ := H
                 have hcz106_0 : wc.cell? ⟨gb177, 0, none⟩ = some (.int .i64 a1_0) := (bC BK177.out 0).trans rfl
                 have hcz106_1 : wc.cell? ⟨gb177, 1, none⟩ = some (.int .i64 a1_1) := (bC BK177.out 1).trans rfl
                 have hcz106_2 : wc.cell? ⟨gb177, 2, none⟩ = some (.int .i64 a1_2) := (bC BK177.out 2).trans rfl
                 have hcz106_3 : wc.cell? ⟨gb177, 3, none⟩ = some (.string a1_3) := (bC BK177.out 3).trans rfl
                 have hfz106_0 := bF BK177.out 0
                 have hfz106_1 := bF BK177.out 1
                 have hfz106_2 := bF BK177.out 2
                 have hfz106_3 := bF BK177.out 3
                 try go_wp2_with (first | ((with_reducible refine gate_callee (f := 31) rfl ?_); refine goesL_ (some 167) rfl rfl Try.func31 z0 rfl #[.string a0, .int .i64 a1_1] rfl z12 ?_; (with_reducible refine (spec_l1Match.calls kj77 a0 a1_1 t205 _ A87.out).mono ?_); rintro e w' ⟨rfl, ⟨nd, rfl⟩⟩; refine ⟨_, rfl, ?_⟩) | ((with_reducible refine gate_callee (f := 73) rfl ?_); refine goesL_ (some 202) rfl rfl Try.func73 z0 rfl #[.string a1_3] rfl z12 ?_; (with_reducible refine (spec_l1Name.calls a1_3 true _ A100.out).mono ?_); rintro e w' ⟨rfl, ⟨nd, rfl⟩⟩; refine ⟨_, rfl, ?_⟩))
                 (try (rw [drewN_self wc]; generalize hq_ : World.drewN wc _ = wc; have n0_ : Aside0 (wc.heap[gb177]? = some (.cells #[.int .i64 a1_0, .int .i64 a1_1, .int .i64 a1_2, .string a1_3] 29 (0, 0))) := ⟨by rw [← hq_]; exact z6⟩; have n1_ : Aside0 (Below w.heap.size w wc) := ⟨by rw [← hq_]; exact z13⟩; clear BK177 HB hq_; have BK177 := n0_; have HB := n1_; clear n0_ n1_))
                 have n0_ := aM (blk_drew BK177.out)
                 have n1_ := aM (bD HB.out)
                 clear BK177
                 clear HB
                 have BK177 := n0_
                 have HB := n1_
                 clear n0_ n1_
                 refine start_ (n := 21) (S := fun w' => w'.cell? ⟨gb177, 0, none⟩ = some (.int .i64 a1_0) ∧ w'.cell? ⟨gb177, 1, none⟩ = some (.int .i64 a1_1) ∧ w'.cell? ⟨gb177, 2, none⟩ = some (.int .i64 a1_2) ∧ w'.cell? ⟨gb177, 3, none⟩ = some (.string a1_3)) (ds := []) #[false, false, false, false, false, false, false, false, false, false, false, false, false, false, false, false, false, false, false, false, false] z0 rfl rfl ⟨(bC BK177.out 0).trans rfl, (bC BK177.out 1).trans rfl, (bC BK177.out 2).trans rfl, (bC BK177.out 3).trans rfl⟩ (fun hHeld => ?_); refine with_tabW spec_l8Op.tab30 spec_l8Op.bits30 (fun HT_ HW_ => ?_)
                 generalize wc.drew = w107 at BK177 HB hHeld ⊢
                 refine pA 0 204 ?_
                 refine pA 1 205 ?_
                 refine pA 3 207 ?_
                 refine pA 6 210 ?_
                 refine pA 9 213 ?_
                 refine pA 11 215 ?_
                 refine pA 12 216 ?_
                 refine pA 14 218 ?_
                 refine tA 2 206 ?_ (hy := by rintro w' ⟨s0, s1, s2, s3⟩; go_simp; with_reducible rfl)
                 refine tA 4 208 ?_ (hy := by rintro w' ⟨s0, s1, s2, s3⟩; go_simp; with_reducible rfl)
                 refine pA 5 209 ?_
                 refine tA 7 211 ?_ (hy := by rintro w' ⟨s0, s1, s2, s3⟩; go_simp; with_reducible rfl)
                 refine tA 10 214 ?_ (hy := by rintro w' ⟨s0, s1, s2, s3⟩; go_simp; with_reducible rfl)
                 refine tA 13 217 ?_ (hy := by rintro w' ⟨s0, s1, s2, s3⟩; go_simp; with_reducible rfl)
                 refine tA 15 219 ?_ (hy := by rintro w' ⟨s0, s1, s2, s3⟩; go_simp; with_reducible rfl)
                 refine pA 16 220 ?_
                 refine pA 17 221 ?_
                 refine pA 18 222 ?_
                 refine one_ (i := 8) (N := some 212) #[true, true, true, true, true, true, true, true, true, true, true, true, true, true, true, true, true, true, true, false, false] rfl rfl (one_of HT_.out z0) (by decide) (fun K hK => ?_)
                 refine goes_ Try.func72 z0 rfl #[.string a0, .int .i64 a1_1, .int .i64 (wrap64 (a1_1 + 1)), .string a1_3] (by rfl) rfl rfl z12 ?_
                 with_reducible refine (spec_l3Splice.calls kj77 a0 a1_1 (wrap64 (a1_1 + 1)) a1_3 t213 _ A102.out).mono ?_
                 rintro e w108 ⟨v214, rfl, ho0, hb⟩
                 refine ⟨_, rfl, ?_⟩
                 have n0_ := aM (Kd.R_lower ho0 (below_size z13))
                 have n1_ := aM (blk_below (g := gb177) (o := .cells #[.int .i64 a1_0, .int .i64 a1_1, .int .i64 a1_2, .string a1_3] 29 (0, 0)) z6 hb)
                 have n2_ := aM (below_step z13 hb)
                 clear BK177
                 clear HB
                 have HO215 := n0_
                 have BK177 := n1_
                 have HB := n2_
                 clear n0_ n1_ n2_
                 (try clear hb)
                 (try clear hb2)
                 (try clear hk)
                 (try clear hi)
                 (try clear ho0)
                 refine hK.out _ _ ⟨(bC BK177.out 0).trans rfl, (bC BK177.out 1).trans rfl, (bC BK177.out 2).trans rfl, (bC BK177.out 3).trans rfl⟩ (fun hHeld => ?_)
                 clear hK K
                 refine norm_ (a' := ?_) ?_ ?_
                 rotate_left
                 ·show Act.put _ (some 212) _ = _
                  simp only [Act.put, sA, sB, sC, i64_w, i32_w]
                  rfl
                 refine pA 19 4 ?_
                 refine pA 20 5 ?_
                 refine done_ (done_of HT_.out z0) ?_
                 try go_wp2
                 go_ret2
                 exact ⟨_, y3, by (with_reducible repeat (first | apply Kd.R_alloc | apply Kd.R_drewN | apply Kd.R_drew)); exact HO215.out, y17⟩
                ·rw [if_neg c105] at H
                 exact absurd H (by simp)
               ·rw [if_neg c104] at H
                exact absurd H (by simp)
              ·rw [if_neg c103] at H
               exact absurd H (by simp)
             ·replace c101 := Bool.eq_false_iff.mpr c101
              subst c101
              rw [if_neg (show ¬ (false = true) by decide)] at H
              simp only [Option.some.injEq, Prod.mk.injEq] at H
              obtain ⟨rfl, rfl⟩ := H
              have hcz109_0 : wc.cell? ⟨gb177, 0, none⟩ = some (.int .i64 a1_0) := (bC BK177.out 0).trans rfl
              have hcz109_1 : wc.cell? ⟨gb177, 1, none⟩ = some (.int .i64 a1_1) := (bC BK177.out 1).trans rfl
              have hcz109_2 : wc.cell? ⟨gb177, 2, none⟩ = some (.int .i64 a1_2) := (bC BK177.out 2).trans rfl
              have hcz109_3 : wc.cell? ⟨gb177, 3, none⟩ = some (.string a1_3) := (bC BK177.out 3).trans rfl
              have hfz109_0 := bF BK177.out 0
              have hfz109_1 := bF BK177.out 1
              have hfz109_2 := bF BK177.out 2
              have hfz109_3 := bF BK177.out 3
              go_wp2_with (first | ((with_reducible refine gate_callee (f := 31) rfl ?_); refine goesL_ (some 167) rfl rfl Try.func31 z0 rfl #[.string a0, .int .i64 a1_1] rfl z12 ?_; (with_reducible refine (spec_l1Match.calls kj77 a0 a1_1 t205 _ A87.out).mono ?_); rintro e w' ⟨rfl, ⟨nd, rfl⟩⟩; refine ⟨_, rfl, ?_⟩) | ((with_reducible refine gate_callee (f := 73) rfl ?_); refine goesL_ (some 202) rfl rfl Try.func73 z0 rfl #[.string a1_3] rfl z12 ?_; (with_reducible refine (spec_l1Name.calls a1_3 false _ A100.out).mono ?_); rintro e w' ⟨rfl, ⟨nd, rfl⟩⟩; refine ⟨_, rfl, ?_⟩))
              go_ret2
              exact ⟨_, y3, y21, y17⟩
            ·rw [if_neg c99] at H
             have c99b0 : (a1_0 == 8) = false := qF c99
             have c99b1 : (a1_0 != 8) = true := nT c99
             by_cases c110 : a1_0 = 7
             ·rw [if_pos c110] at H
              have c110b0 : (a1_0 == 7) = true := qT c110
              have c110b1 : (a1_0 != 7) = false := nF c110
              clear c110
              replace H := oB H
              obtain ⟨⟨t216, t217⟩, A1110, H⟩ := H
              try dsimp only at H
              have A111 := aM A1110
              clear A1110
              simp only [Option.some.injEq, Prod.mk.injEq] at H
              obtain ⟨rfl, rfl⟩ := H
              have hcz112_0 : wc.cell? ⟨gb177, 0, none⟩ = some (.int .i64 a1_0) := (bC BK177.out 0).trans rfl
              have hcz112_1 : wc.cell? ⟨gb177, 1, none⟩ = some (.int .i64 a1_1) := (bC BK177.out 1).trans rfl
              have hcz112_2 : wc.cell? ⟨gb177, 2, none⟩ = some (.int .i64 a1_2) := (bC BK177.out 2).trans rfl
              have hcz112_3 : wc.cell? ⟨gb177, 3, none⟩ = some (.string a1_3) := (bC BK177.out 3).trans rfl
              have hfz112_0 := bF BK177.out 0
              have hfz112_1 := bF BK177.out 1
              have hfz112_2 := bF BK177.out 2
              have hfz112_3 := bF BK177.out 3
              go_wp2_with (first | ((with_reducible refine gate_callee (f := 31) rfl ?_); refine goesL_ (some 167) rfl rfl Try.func31 z0 rfl #[.string a0, .int .i64 a1_1] rfl z12 ?_; (with_reducible refine (spec_l1Match.calls kj77 a0 a1_1 t205 _ A87.out).mono ?_); rintro e w' ⟨rfl, ⟨nd, rfl⟩⟩; refine ⟨_, rfl, ?_⟩) | ((with_reducible refine gate_callee (f := 76) rfl ?_); refine goesL_ (some 232) rfl rfl Try.func76 z0 rfl #[.string a0, .int .i64 a1_1, .int .i64 (wrap64 (t205 + 1)), .int .i64 a1_2] rfl z12 ?_; (with_reducible refine (spec_l8Move.calls kj77 a0 a1_1 (wrap64 (t205 + 1)) a1_2 t216 t217 _ A111.out).mono ?_); rintro e w113 ⟨v218, rfl, ho0, hb⟩; refine ⟨_, rfl, ?_⟩; have n0_ := aM (Kd.R_lower ho0 (below_size z13)); have n1_ := aM (blk_below (g := gb177) (o := .cells #[.int .i64 a1_0, .int .i64 a1_1, .int .i64 a1_2, .string a1_3] 29 (0, 0)) z6 hb); have n2_ := aM (below_step z13 hb); clear BK177; clear HB; have HO219 := n0_; have BK177 := n1_; have HB := n2_; clear n0_ n1_ n2_; (try clear hb); (try clear hb2); (try clear hk); (try clear hi); (try clear ho0)))
              go_ret2
              exact ⟨_, y3, by (with_reducible repeat (first | apply Kd.R_alloc | apply Kd.R_drewN | apply Kd.R_drew)); exact HO219.out, y17⟩
             ·rw [if_neg c110] at H
              have c110b0 : (a1_0 == 7) = false := qF c110
              have c110b1 : (a1_0 != 7) = true := nT c110
              simp only [Option.some.injEq, Prod.mk.injEq] at H
              obtain ⟨rfl, rfl⟩ := H
              have hcz114_0 : wc.cell? ⟨gb177, 0, none⟩ = some (.int .i64 a1_0) := (bC BK177.out 0).trans rfl
              have hcz114_1 : wc.cell? ⟨gb177, 1, none⟩ = some (.int .i64 a1_1) := (bC BK177.out 1).trans rfl
              have hcz114_2 : wc.cell? ⟨gb177, 2, none⟩ = some (.int .i64 a1_2) := (bC BK177.out 2).trans rfl
              have hcz114_3 : wc.cell? ⟨gb177, 3, none⟩ = some (.string a1_3) := (bC BK177.out 3).trans rfl
              have hfz114_0 := bF BK177.out 0
              have hfz114_1 := bF BK177.out 1
              have hfz114_2 := bF BK177.out 2
              have hfz114_3 := bF BK177.out 3
              go_wp2_with (first | ((with_reducible refine gate_callee (f := 31) rfl ?_); refine goesL_ (some 167) rfl rfl Try.func31 z0 rfl #[.string a0, .int .i64 a1_1] rfl z12 ?_; (with_reducible refine (spec_l1Match.calls kj77 a0 a1_1 t205 _ A87.out).mono ?_); rintro e w' ⟨rfl, ⟨nd, rfl⟩⟩; refine ⟨_, rfl, ?_⟩))
              go_ret2
              exact ⟨_, y3, y21, y17⟩
 ·exact absurd (A3.out.symm.trans HTR.out) (fun e_ => c4 (sI e_))
theorem spec_l8Op.calls (k : Nat) (a0 : ByteArray) (a1_0 : Int) (a1_1 : Int) (a1_2 : Int) (a1_3 : ByteArray) (r1 : List (S61)) (r2 : Bool) (w : World) (h : spec_l8Op.f k a0 a1_0 a1_1 a1_2 a1_3 = some (r1, r2)) :
  Calls Try.prog 53 #[.string a0, .agg #[.int .i64 a1_0, .int .i64 a1_1, .int .i64 a1_2, .string a1_3]] w fun e w' => ∃ v0_ : Value, e = .returned (.tuple #[v0_, .bool r2]) ∧ Kd.R k61 61 w' w.heap.size (fun _ => True) v0_ r1 ∧ Below w.heap.size w w' := by
 obtain ⟨t, ht, -⟩ := oB h
 have HT := aM ht
 clear ht
 cases t with
 | false => exact spec_l8Op.callsF k a0 a1_0 a1_1 a1_2 a1_3 r1 r2 w HT h
 | true =>
  by_cases c1 : a1_0 = 1
  · exact spec_l8Op.calls1 k a0 a1_0 a1_1 a1_2 a1_3 r1 r2 w HT ⟨c1⟩ h
  · by_cases c2 : a1_0 = 2 ∨ a1_0 = 3
    · exact spec_l8Op.calls23 k a0 a1_0 a1_1 a1_2 a1_3 r1 r2 w HT ⟨c2⟩ h
    · by_cases c5 : a1_0 = 5
      · exact spec_l8Op.calls5 k a0 a1_0 a1_1 a1_2 a1_3 r1 r2 w HT ⟨c5⟩ h
      · by_cases c6 : a1_0 = 6
        · exact spec_l8Op.calls6 k a0 a1_0 a1_1 a1_2 a1_3 r1 r2 w HT ⟨c6⟩ h
        · exact spec_l8Op.callsO k a0 a1_0 a1_1 a1_2 a1_3 r1 r2 w HT ⟨⟨c1, fun h_ => c2 (.inl h_), fun h_ => c2 (.inr h_), c5, c6⟩⟩ h

end Go.Proofs.Ytmigfgcpdelnfaa.AFnExactCompileCommand
