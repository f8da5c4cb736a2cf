-- this session's own text: written by wip/tools/ownprint.py over the kit's print
import Derived.Test.YtmigfgcpdelnfaaAFnCommandsx0
import Derived.Test.YtmigfgcpdelnfaaAFnCommandsx2
import Derived.Test.YtmigfgcpdelnfaaAFnCommandsx3
import Derived.Test.YtmigfgcpdelnfaaAFnCommandsx5
namespace Go.Proofs.Ytmigfgcpdelnfaa.AFnCommands
open Go.RowKit Go.Proofs.YtmigfgcpdelnfaaW.PrintWords Go.Proofs.YtmigfgcpdelnfaaW.PrintLast Go.Proofs.YtmigfgcpdelnfaaW.PrintMore
attribute [local go_sem] max2_int min2_int max_two min_two max_three min_three max_four min_four   -- for this text's walks alone
set_option linter.unusedVariables false
set_option linter.unusedSimpArgs false

/-! ### spec_l8Op: function 53 -/
mutual
def spec_l8Op.j0 : Nat → ByteArray → Int → Bool → Int → Int → Int → ByteArray → Option ((List (S61)) × Bool)
 | 0, _, _, _, _, _, _, _ => none
 | k + 1, x0, x14, x33, x174000, x174001, x174002, x174003 => if x33 = true then ((spec_l1In.f x174002 x174001 (x0.size : Int)).bind fun tc => (if tc = true then (if 0 ≤ x174001 then (if x174001 ≤ x174002 then (if x174002 ≤ (x0.size : Int) then ((spec_l1Balanced.f k (x0.extract (x174001 : Int).toNat (x174002 : Int).toNat)).bind fun rF => (spec_l8Op.j1 k x0 (!rF) x174000 x174001 x174002 x174003)) else (none)) else (none)) else (none)) else (spec_l8Op.j1 k x0 true x174000 x174001 x174002 x174003))) else (if x14 = 5 then ((spec_l8Split.f k x0 x174001).bind fun sa => (some (sa.1, sa.2))) else (if x14 = 6 then (if x174001 = 0 then (some (([] : List (S61)), false)) else (if x174001 = (x0.size : Int) then (some (([] : List (S61)), false)) else (if 0 ≤ (wrap64 (x174001 - 1)) then (if (wrap64 (x174001 - 1)) < (x0.size : Int) then (if (bt x0 (wrap64 (x174001 - 1))) = 47 then (if 0 ≤ x174001 then (if x174001 < (x0.size : Int) then ((spec_l1Open.f (bt x0 x174001)).bind fun pV => (if pV = true then ((spec_l1Match.f k x0 (wrap64 (x174001 - 1))).bind fun dD => (if 0 ≤ dD then (if dD < (x0.size : Int) then (if (bt x0 dD) = (bt x0 x174001) then ((spec_l3Splice.f k x0 (wrap64 (x174001 - 1)) (wrap64 (x174001 + 1)) (⟨#[]⟩ : ByteArray)).bind fun pU => (some (pU, true))) else (some (([] : List (S61)), false))) else (none)) else (none))) else (some (([] : List (S61)), false)))) else (none)) else (none)) else (some (([] : List (S61)), false))) else (none)) else (none)))) else (if x174001 = (x0.size : Int) then (spec_l8Op.j2 k x0 true x174000 x174001 x174002 x174003) else (if 0 ≤ x174001 then (if x174001 < (x0.size : Int) then ((spec_l1Open.f (bt x0 x174001)).bind fun rE => (spec_l8Op.j2 k x0 (!rE) x174000 x174001 x174002 x174003)) else (none)) else (none)))))
def spec_l8Op.j1 : Nat → ByteArray → Bool → Int → Int → Int → ByteArray → Option ((List (S61)) × Bool)
 | 0, _, _, _, _, _, _ => none
 | k + 1, x0, x53, x174000, x174001, x174002, x174003 => if x53 = true then (some (([] : List (S61)), false)) else (if x174000 = 2 then ((spec_l3Splice.f k x0 x174001 x174002 (⟨#[]⟩ : ByteArray)).bind fun tb => (some (tb, decide (x174001 < x174002)))) else ((spec_l1Name.f x174003).bind fun ta => (if ta = true then ((spec_l3Normal.f k (([(⟨x174001, (⟨#[]⟩ : ByteArray), (⟨#[]⟩ : ByteArray)⟩ : S61), (⟨0, x174003, (⟨#[]⟩ : ByteArray)⟩ : S61), (⟨wrap64 (x174002 - x174001), (⟨#[]⟩ : ByteArray), (⟨#[]⟩ : ByteArray)⟩ : S61), (⟨0, (⟨#[47]⟩ : ByteArray), (⟨#[]⟩ : ByteArray)⟩ : S61), (⟨wrap64 ((x0.size : Int) - x174002), (⟨#[]⟩ : ByteArray), (⟨#[]⟩ : ByteArray)⟩ : S61)] : List (S61)))).bind fun pW => (some (pW, true))) else (some (([] : List (S61)), false)))))
def spec_l8Op.j2 : Nat → ByteArray → Bool → Int → Int → Int → ByteArray → Option ((List (S61)) × Bool)
 | 0, _, _, _, _, _, _ => none
 | k + 1, x0, x163, x174000, x174001, x174002, x174003 => if x163 = true then (some (([] : List (S61)), false)) else ((spec_l1Match.f k x0 x174001).bind fun eh => (if x174000 = 4 then (if 0 ≤ x174001 then (if x174001 ≤ (wrap64 (x174001 + 1)) then (if (wrap64 (x174001 + 1)) ≤ (x0.size : Int) then ((spec_l3Normal.f k (([(⟨x174001, (⟨#[]⟩ : ByteArray), (⟨#[]⟩ : ByteArray)⟩ : S61), (⟨0, (⟨#[]⟩ : ByteArray), x0.extract (x174001 : Int).toNat ((wrap64 (x174001 + 1)) : Int).toNat⟩ : S61), (⟨wrap64 ((wrap64 (eh - x174001)) - 1), (⟨#[]⟩ : ByteArray), (⟨#[]⟩ : ByteArray)⟩ : S61), (⟨0, (⟨#[]⟩ : ByteArray), (⟨#[47]⟩ : ByteArray)⟩ : S61), (⟨wrap64 ((wrap64 ((x0.size : Int) - eh)) - 1), (⟨#[]⟩ : ByteArray), (⟨#[]⟩ : ByteArray)⟩ : S61)] : List (S61)))).bind fun pT => (some (pT, true))) else (none)) else (none)) else (none)) else (if x174000 = 8 then ((spec_l1Name.f x174003).bind fun s9 => (if s9 = true then ((spec_l3Splice.f k x0 x174001 (wrap64 (x174001 + 1)) x174003).bind fun s8 => (if 0 ≤ x174001 then (if x174001 ≤ (wrap64 (x174001 + 1)) then (if (wrap64 (x174001 + 1)) ≤ (x0.size : Int) then (some (s8, (x174003.toList != (x0.extract (x174001 : Int).toNat ((wrap64 (x174001 + 1)) : Int).toNat).toList))) else (none)) else (none)) else (none))) else (some (([] : List (S61)), false)))) else (if x174000 = 7 then ((spec_l8Move.f k x0 x174001 (wrap64 (eh + 1)) x174002).bind fun r9 => (some (r9.1, r9.2))) else (some (([] : List (S61)), false))))))
end
def spec_l8Op.f (k : Nat) (a0 : ByteArray) (a1_0 : Int) (a1_1 : Int) (a1_2 : Int) (a1_3 : ByteArray) : Option ((List (S61)) × Bool) := (spec_l1In.f a1_1 0 (a0.size : Int)).bind fun dE => (if dE = true then (if a1_0 = 1 then ((spec_l3Splice.f k a0 a1_1 a1_1 a1_3).bind fun ei => (if a1_3.toList = ([] : List UInt8) then (some (ei, false)) else ((spec_GoodText.f k a1_3).bind fun gf => (some (ei, gf))))) else (if a1_0 = 2 then (spec_l8Op.j0 k a0 a1_0 (a1_0 == 2) a1_0 a1_1 a1_2 a1_3) else (spec_l8Op.j0 k a0 a1_0 (a1_0 == 3) a1_0 a1_1 a1_2 a1_3))) else (some (([] : List (S61)), false)))
theorem spec_l8Op.mono_l : ∀ k, (∀ y0 y1 y2 y3 y4 y5 y6, LeO (spec_l8Op.j0 k y0 y1 y2 y3 y4 y5 y6) (spec_l8Op.j0 (k + 1) y0 y1 y2 y3 y4 y5 y6)) ∧ (∀ y0 y1 y2 y3 y4 y5, LeO (spec_l8Op.j1 k y0 y1 y2 y3 y4 y5) (spec_l8Op.j1 (k + 1) y0 y1 y2 y3 y4 y5)) ∧ (∀ y0 y1 y2 y3 y4 y5, LeO (spec_l8Op.j2 k y0 y1 y2 y3 y4 y5) (spec_l8Op.j2 (k + 1) y0 y1 y2 y3 y4 y5))
 | 0 => ⟨fun _ _ _ _ _ _ _ r h => by simp [spec_l8Op.j0] at h, fun _ _ _ _ _ _ r h => by simp [spec_l8Op.j1] at h, fun _ _ _ _ _ _ r h => by simp [spec_l8Op.j2] at h⟩
 | k + 1 => by
  obtain ⟨ih0, ih1, ih2⟩ := spec_l8Op.mono_l k
  refine ⟨?_, ?_, ?_⟩
  ·intro y0 y1 y2 y3 y4 y5 y6
   unfold spec_l8Op.j0
   repeat' first
   | (with_reducible exact ih0 _ _ _ _ _ _ _)
   | (with_reducible exact ih1 _ _ _ _ _ _)
   | (with_reducible exact ih2 _ _ _ _ _ _)
   | (with_reducible exact spec_GoodText.mono _ _)
   | (with_reducible exact spec_l1Balanced.mono _ _)
   | (with_reducible exact spec_l1Match.mono _ _ _)
   | (with_reducible exact spec_l3Normal.mono _ _)
   | (with_reducible exact spec_l3Splice.mono _ _ _ _ _)
   | (with_reducible exact spec_l8Move.mono _ _ _ _ _)
   | (with_reducible exact spec_l8Split.mono _ _ _)
   | (with_reducible exact LeO.refl _)
   | (with_reducible exact LeO.none _)
   | (with_reducible refine LeO.ite ?_ ?_)
   | (with_reducible refine LeO.bind ?_ (fun _ => ?_))
  ·intro y0 y1 y2 y3 y4 y5
   unfold spec_l8Op.j1
   repeat' first
   | (with_reducible exact ih0 _ _ _ _ _ _ _)
   | (with_reducible exact ih1 _ _ _ _ _ _)
   | (with_reducible exact ih2 _ _ _ _ _ _)
   | (with_reducible exact spec_GoodText.mono _ _)
   | (with_reducible exact spec_l1Balanced.mono _ _)
   | (with_reducible exact spec_l1Match.mono _ _ _)
   | (with_reducible exact spec_l3Normal.mono _ _)
   | (with_reducible exact spec_l3Splice.mono _ _ _ _ _)
   | (with_reducible exact spec_l8Move.mono _ _ _ _ _)
   | (with_reducible exact spec_l8Split.mono _ _ _)
   | (with_reducible exact LeO.refl _)
   | (with_reducible exact LeO.none _)
   | (with_reducible refine LeO.ite ?_ ?_)
   | (with_reducible refine LeO.bind ?_ (fun _ => ?_))
  ·intro y0 y1 y2 y3 y4 y5
   unfold spec_l8Op.j2
   repeat' first
   | (with_reducible exact ih0 _ _ _ _ _ _ _)
   | (with_reducible exact ih1 _ _ _ _ _ _)
   | (with_reducible exact ih2 _ _ _ _ _ _)
   | (with_reducible exact spec_GoodText.mono _ _)
   | (with_reducible exact spec_l1Balanced.mono _ _)
   | (with_reducible exact spec_l1Match.mono _ _ _)
   | (with_reducible exact spec_l3Normal.mono _ _)
   | (with_reducible exact spec_l3Splice.mono _ _ _ _ _)
   | (with_reducible exact spec_l8Move.mono _ _ _ _ _)
   | (with_reducible exact spec_l8Split.mono _ _ _)
   | (with_reducible exact LeO.refl _)
   | (with_reducible exact LeO.none _)
   | (with_reducible refine LeO.ite ?_ ?_)
   | (with_reducible refine LeO.bind ?_ (fun _ => ?_))
theorem spec_l8Op.mono : ∀ a0 a1 a2 a3 a4 k, LeO (spec_l8Op.f k a0 a1 a2 a3 a4) (spec_l8Op.f (k + 1) a0 a1 a2 a3 a4) := by
 intro a0 a1 a2 a3 a4 k
 obtain ⟨ih0, ih1, ih2⟩ := spec_l8Op.mono_l k
 unfold spec_l8Op.f
 repeat' first
   | (with_reducible exact ih0 _ _ _ _ _ _ _)
   | (with_reducible exact ih1 _ _ _ _ _ _)
   | (with_reducible exact ih2 _ _ _ _ _ _)
   | (with_reducible exact spec_GoodText.mono _ _)
   | (with_reducible exact spec_l1Balanced.mono _ _)
   | (with_reducible exact spec_l1Match.mono _ _ _)
   | (with_reducible exact spec_l3Normal.mono _ _)
   | (with_reducible exact spec_l3Splice.mono _ _ _ _ _)
   | (with_reducible exact spec_l8Move.mono _ _ _ _ _)
   | (with_reducible exact spec_l8Split.mono _ _ _)
   | (with_reducible exact LeO.refl _)
   | (with_reducible exact LeO.none _)
   | (with_reducible refine LeO.ite ?_ ?_)
   | (with_reducible refine LeO.bind ?_ (fun _ => ?_))
def spec_l8Op.T5 : Bool × List (List Nat × List Nat) := (true, [([], []), ([], []), ([1], [1]), ([], []), ([3], [3]), ([], []), ([5], [5]), ([0, 2, 4, 6], [0, 2, 4, 6]), ([], []), ([8], [8]), ([9], [9]), ([10, 7], [10]), ([11], [11]), ([12, 11], [11, 12]), ([13, 11, 11], [11, 13]), ([11, 14], [11, 14]), ([7, 14, 0, 1, 2, 3, 4, 5, 6, 7], [7]), ([15, 16, 0, 1, 2, 3, 4, 5, 6, 7, 8, 9, 10, 11, 12, 13, 14, 15, 16], [15])])
def spec_l8Op.B5 : List Nat := [0, 0, 2, 0, 8, 0, 32, 127, 0, 256, 768, 2047, 4095, 8191, 16383, 32767, 32767, 131071]
theorem spec_l8Op.tab5 : rtab .any (opsOf Try.f53 5) = spec_l8Op.T5 := by kernel_rfl
theorem spec_l8Op.bits5 : waitsOk spec_l8Op.T5.2 spec_l8Op.B5 = true := by kernel_rfl
def spec_l8Op.T11 : Bool × List (List Nat × List Nat) := (true, [([], []), ([], []), ([1], [1]), ([], []), ([3], [3]), ([0, 2, 4], [0, 2, 4]), ([], []), ([6], [6]), ([], []), ([8], [8]), ([7, 9], [7, 9]), ([5, 5, 0, 1, 2, 3, 4, 5], [5]), ([10, 11, 0, 1, 2, 3, 4, 5, 6, 7, 8, 9, 10, 11], [10])])
def spec_l8Op.B11 : List Nat := [0, 0, 2, 0, 8, 31, 0, 64, 0, 256, 960, 63, 4095]
theorem spec_l8Op.tab11 : rtab .any (opsOf Try.f53 11) = spec_l8Op.T11 := by kernel_rfl
theorem spec_l8Op.bits11 : waitsOk spec_l8Op.T11.2 spec_l8Op.B11 = true := by kernel_rfl
def spec_l8Op.T18 : Bool × List (List Nat × List Nat) := (true, [([], []), ([0], [0]), ([1], [1]), ([2], [2]), ([3], [3]), ([4, 3], [3, 4]), ([3], [3]), ([6, 3], [3, 6]), ([5, 7, 3], [3, 5, 7]), ([3, 8], [3, 8]), ([9, 3], [9]), ([10], [10]), ([10], [10]), ([12, 10], [10, 12]), ([13, 10], [10, 13]), ([11, 14, 10], [10, 11, 14]), ([15, 10], [10, 15]), ([10, 16], [10, 16]), ([17, 10], [17]), ([18], [18]), ([18], [18]), ([20, 18], [18, 20]), ([19, 21, 18], [18, 19, 21]), ([22, 18, 18], [18, 22]), ([23, 18], [18, 23]), ([18, 24], [18, 24]), ([25, 23], [25]), ([26], [26]), ([26], [26]), ([26], [26]), ([29, 26], [26, 29]), ([30, 26], [26, 30]), ([28, 31, 26, 26], [26, 28, 31]), ([27, 32, 26], [26, 27, 32]), ([26], [26]), ([26], [26]), ([35, 26], [26, 35]), ([34, 36, 26], [26, 34, 36]), ([33, 37, 26], [26, 33, 37]), ([26, 38], [26, 38])])
def spec_l8Op.B18 : List Nat := [0, 1, 3, 7, 15, 31, 15, 79, 255, 511, 1023, 2047, 2047, 6143, 14335, 32767, 65535, 131071, 262143, 524287, 524287, 1572863, 4194303, 8388607, 16777215, 33554431, 67108863, 134217727, 134217727, 134217727, 671088639, 1744830463, 4160749567, 8589934591, 134217727, 134217727, 34493956095, 120393302015, 274877906943, 549755813887]
theorem spec_l8Op.tab18 : rtab .any (opsOf Try.f53 18) = spec_l8Op.T18 := by kernel_rfl
theorem spec_l8Op.bits18 : waitsOk spec_l8Op.T18.2 spec_l8Op.B18 = true := by kernel_rfl
def spec_l8Op.T26 : Bool × List (List Nat × List Nat) := (true, [([], []), ([0], [0]), ([1], [1]), ([], []), ([], []), ([4], [4]), ([], []), ([6], [6]), ([7], [7]), ([3, 5, 8], [3, 5, 8]), ([9], [9]), ([], []), ([], []), ([12], [12]), ([11, 13], [11, 13]), ([14], [14]), ([15], [15]), ([], []), ([], []), ([18], [18]), ([], []), ([19, 20], [19, 20]), ([21], [21]), ([22], [22]), ([2, 10, 16, 17, 23], [2, 10, 16, 17, 23]), ([24], [24]), ([25, 25, 0, 1, 2, 3, 4, 5, 6, 7, 8, 9, 10, 11, 12, 13, 14, 15, 16, 17, 18, 19, 20, 21, 22, 23, 24, 25], [25]), ([26, 0, 1, 2, 3, 4, 5, 6, 7, 8, 9, 10, 11, 12, 13, 14, 15, 16, 17, 18, 19, 20, 21, 22, 23, 24, 25, 26], [])])
def spec_l8Op.B26 : List Nat := [0, 1, 3, 0, 0, 16, 0, 64, 192, 504, 1016, 0, 0, 4096, 14336, 30720, 63488, 0, 0, 262144, 0, 1835008, 3932160, 8126464, 16777215, 33554431, 67108863, 134217727]
theorem spec_l8Op.tab26 : rtab .any (opsOf Try.f53 26) = spec_l8Op.T26 := by kernel_rfl
theorem spec_l8Op.bits26 : waitsOk spec_l8Op.T26.2 spec_l8Op.B26 = true := by kernel_rfl
def spec_l8Op.T30 : Bool × List (List Nat × List Nat) := (true, [([], []), ([], []), ([1], [1]), ([], []), ([3], [3]), ([4], [4]), ([], []), ([6], [6]), ([0, 2, 5, 7], [0, 2, 5, 7]), ([], []), ([9], [9]), ([], []), ([], []), ([12], [12]), ([], []), ([14], [14]), ([15], [15]), ([11, 13, 16], [11, 13, 16]), ([10, 17], [10, 17]), ([8, 8, 0, 1, 2, 3, 4, 5, 6, 7, 8], [8]), ([18, 19, 0, 1, 2, 3, 4, 5, 6, 7, 8, 9, 10, 11, 12, 13, 14, 15, 16, 17, 18, 19], [18])])
def spec_l8Op.B30 : List Nat := [0, 0, 2, 0, 8, 24, 0, 64, 255, 0, 512, 0, 0, 4096, 0, 16384, 49152, 129024, 261632, 511, 1048575]
theorem spec_l8Op.tab30 : rtab .any (opsOf Try.f53 30) = spec_l8Op.T30 := by kernel_rfl
theorem spec_l8Op.bits30 : waitsOk spec_l8Op.T30.2 spec_l8Op.B30 = true := by kernel_rfl
set_option maxHeartbeats 8000000 in
set_option maxRecDepth 100000 in
theorem spec_l8Op.callsF (k : Nat) (a0 : ByteArray) (a1_0 : Int) (a1_1 : Int) (a1_2 : Int) (a1_3 : ByteArray) (r1 : List (S61)) (r2 : Bool) (w : World) (HTR : Aside0 (spec_l1In.f a1_1 0 (a0.size : Int) = some false)) (h : spec_l8Op.f k a0 a1_0 a1_1 a1_2 a1_3 = some (r1, r2)) :
  Calls Try.prog 53 #[.string a0, .agg #[.int .i64 a1_0, .int .i64 a1_1, .int .i64 a1_2, .string a1_3]] w fun e w' => ∃ v0_ : Value, e = .returned (.tuple #[v0_, .bool r2]) ∧ Kd.R k61 61 w' w.heap.size (fun _ => True) v0_ r1 ∧ Below w.heap.size w w' := by
 have hu29 := Try.underlying29
 have hu61 := Try.underlying61
 have HB := aM (Below.refl w.heap.size w)
 have H : ((spec_l1In.f a1_1 0 (a0.size : Int)).bind fun dE => (if dE = true then (if a1_0 = 1 then ((spec_l3Splice.f k a0 a1_1 a1_1 a1_3).bind fun ei => (if a1_3.toList = ([] : List UInt8) then (some (ei, false)) else ((spec_GoodText.f k a1_3).bind fun gf => (some (ei, gf))))) else (if a1_0 = 2 then (spec_l8Op.j0 k a0 a1_0 (a1_0 == 2) a1_0 a1_1 a1_2 a1_3) else (spec_l8Op.j0 k a0 a1_0 (a1_0 == 3) a1_0 a1_1 a1_2 a1_3))) else (some (([] : List (S61)), false)))) = some (r1, r2) := h
 clear h
 obtain ⟨dE, A3, H⟩ := oA_ H
 try dsimp only at H
 by_cases c4 : dE = true
 ·exact absurd (A3.out.symm.trans HTR.out) (by rw [c4]; decide)
 ·replace c4 := Bool.eq_false_iff.mpr c4
  subst c4
  rw [if_neg nF_] at H
  simp only [Option.some.injEq, Prod.mk.injEq] at H
  obtain ⟨rfl, rfl⟩ := H
  go_enter Try.func53, Try.ntmps53
  go_wp2_with (first | ((with_reducible refine aw (N := 3) rfl ?_); (try (refine gate_guard (by rfl) ?_; dsimp only)); refine ax ?hg (N := 3) ?hd (cs := #[.int .i64 a1_0, .int .i64 a1_1, .int .i64 a1_2, .string a1_3]) (t := 29) ?hr ?_; (case hd => rfl); (case hg => rfl); (case hr => first | (go_simp; done) | (go_simp; rfl)); intro aT hg w115 hbox hb; have aH := aM (hbox); have km := aM ((by rw [hg]; exact (ap z14) : w.heap.size ≤ aT)); have kr := aM ((by rw [hg]; exact (ap z14) : w.heap.size ≤ aT)); replace HB := aM (ao z14 hb); clear hb hbox hg; obtain ⟨hcz116_0, hcz116_1, hcz116_2, hcz116_3, hfz116_0, hfz116_1, hfz116_2, hfz116_3⟩ := cc4 aH.out) | ((with_reducible refine av (f := 71) rfl ?_); refine ay (some 11) rfl rfl Try.func71 z0 rfl #[.int .i64 a1_1, .int .i64 0, .int .i64 (a0.size : Int)] rfl z15 ?_; (with_reducible refine (spec_l1In.calls a1_1 0 (a0.size : Int) false _ A3.out).mono ?_); rintro e w' ⟨rfl, ⟨nd, rfl⟩⟩; refine ⟨_, rfl, ?_⟩))
  go_ret2
  exact ⟨_, y4, y28, y25⟩
set_option maxHeartbeats 8000000 in
set_option maxRecDepth 100000 in
theorem spec_l8Op.calls1 (k : Nat) (a0 : ByteArray) (a1_0 : Int) (a1_1 : Int) (a1_2 : Int) (a1_3 : ByteArray) (r1 : List (S61)) (r2 : Bool) (w : World) (HTR : Aside0 (spec_l1In.f a1_1 0 (a0.size : Int) = some true)) (HKD : Aside0 (a1_0 = 1)) (h : spec_l8Op.f k a0 a1_0 a1_1 a1_2 a1_3 = some (r1, r2)) :
  Calls Try.prog 53 #[.string a0, .agg #[.int .i64 a1_0, .int .i64 a1_1, .int .i64 a1_2, .string a1_3]] w fun e w' => ∃ v0_ : Value, e = .returned (.tuple #[v0_, .bool r2]) ∧ Kd.R k61 61 w' w.heap.size (fun _ => True) v0_ r1 ∧ Below w.heap.size w w' := by
 have hu29 := Try.underlying29
 have hu61 := Try.underlying61
 have HB := aM (Below.refl w.heap.size w)
 have H : ((spec_l1In.f a1_1 0 (a0.size : Int)).bind fun dE => (if dE = true then (if a1_0 = 1 then ((spec_l3Splice.f k a0 a1_1 a1_1 a1_3).bind fun ei => (if a1_3.toList = ([] : List UInt8) then (some (ei, false)) else ((spec_GoodText.f k a1_3).bind fun gf => (some (ei, gf))))) else (if a1_0 = 2 then (spec_l8Op.j0 k a0 a1_0 (a1_0 == 2) a1_0 a1_1 a1_2 a1_3) else (spec_l8Op.j0 k a0 a1_0 (a1_0 == 3) a1_0 a1_1 a1_2 a1_3))) else (some (([] : List (S61)), false)))) = some (r1, r2) := h
 clear h
 obtain ⟨dE, A3, H⟩ := oA_ H
 try dsimp only at H
 by_cases c4 : dE = true
 ·subst c4
  rw [if_pos rfl] at H
  by_cases c5 : a1_0 = 1
  ·rw [if_pos c5] at H
   have c5b0 : (a1_0 == 1) = true := qT c5
   have c5b1 : (a1_0 != 1) = false := nF c5
   clear c5
   obtain ⟨ei, A6, H⟩ := oA_ H
   try dsimp only at H
   by_cases c7 : a1_3.toList = ([] : List UInt8)
   ·rw [if_pos c7] at H
    have c7b0 : (a1_3.toList == ([] : List UInt8)) = true := qT c7
    have c7b1 : (a1_3.toList != ([] : List UInt8)) = false := nF c7
    clear c7
    simp only [Option.some.injEq, Prod.mk.injEq] at H
    obtain ⟨rfl, rfl⟩ := H
    go_enter Try.func53, Try.ntmps53
    try go_wp2_with (first | ((with_reducible refine aw (N := 3) rfl ?_); (try (refine gate_guard (by rfl) ?_; dsimp only)); refine ax ?hg (N := 3) ?hd (cs := #[.int .i64 a1_0, .int .i64 a1_1, .int .i64 a1_2, .string a1_3]) (t := 29) ?hr ?_; (case hd => rfl); (case hg => rfl); (case hr => first | (go_simp; done) | (go_simp; rfl)); intro aT hg w8 hbox hb; have aH := aM (hbox); have km := aM ((by rw [hg]; exact (ap z14) : w.heap.size ≤ aT)); have kr := aM ((by rw [hg]; exact (ap z14) : w.heap.size ≤ aT)); replace HB := aM (ao z14 hb); clear hb hbox hg; obtain ⟨ca, b9, b8, em, ci, b5, b4, ek⟩ := cc4 aH.out) | ((with_reducible refine av (f := 71) rfl ?_); refine ay (some 11) rfl rfl Try.func71 z0 rfl #[.int .i64 a1_1, .int .i64 0, .int .i64 (a0.size : Int)] rfl z15 ?_; (with_reducible refine (spec_l1In.calls a1_1 0 (a0.size : Int) true _ A3.out).mono ?_); rintro e w' ⟨rfl, ⟨nd, rfl⟩⟩; refine ⟨_, rfl, ?_⟩))
    (try (rw [drewN_self w8]; generalize hq_ : World.drewN w8 _ = w8; have aE : Aside0 (w8.heap[aT]? = some (.cells #[.int .i64 a1_0, .int .i64 a1_1, .int .i64 a1_2, .string a1_3] 29 (0, 0))) := ⟨by rw [← hq_]; exact z7⟩; have aG : Aside0 (Below w.heap.size w w8) := ⟨by rw [← hq_]; exact z17⟩; clear aH HB hq_; have aH := aE; have HB := aG; clear aE aG))
    replace aH := aM (ai aH.out)
    replace HB := aM (bD HB.out)
    refine start_ (n := 18) (S := fun w' => w'.cell? ⟨aT, 0, none⟩ = some (.int .i64 a1_0) ∧ w'.cell? ⟨aT, 1, none⟩ = some (.int .i64 a1_1) ∧ w'.cell? ⟨aT, 2, none⟩ = some (.int .i64 a1_2) ∧ w'.cell? ⟨aT, 3, none⟩ = some (.string a1_3)) (ds := []) #[false, false, false, false, false, false, false, false, false, false, false, false, false, false, false, false, false, false] z0 rfl rfl ⟨(bC aH.out 0).trans rfl, (bC aH.out 1).trans rfl, (bC aH.out 2).trans rfl, (bC aH.out 3).trans rfl⟩ (fun hHeld => ?_); refine with_tabW spec_l8Op.tab5 spec_l8Op.bits5 (fun HT_ HW_ => ?_)
    generalize w8.drew = w10 at aH HB hHeld ⊢
    refine pA 0 17 ?_
    refine pA 1 18 ?_
    refine pA 3 20 ?_
    refine pA 5 22 ?_
    refine pA 8 25 ?_
    refine t4_ 2 19 ?_
    refine t4_ 4 21 ?_
    refine t4_ 6 23 ?_
    refine t4_ 9 26 ?_
    refine pA 10 27 ?_
    refine one_ (i := 7) (N := some 24) #[true, true, true, true, true, true, true, true, true, true, true, false, false, false, false, false, false, false] rfl rfl (one_of HT_.out z0) (by decide) (fun K hK => ?_)
    refine goes_ Try.func72 z0 rfl #[.string a0, .int .i64 a1_1, .int .i64 a1_1, .string a1_3] (by rfl) rfl rfl z15 ?_
    with_reducible refine (spec_l3Splice.calls k a0 a1_1 a1_1 a1_3 ei _ A6.out).mono ?_
    rintro e w11 ⟨v176, rfl, ho0, hb⟩
    refine ⟨_, rfl, ?_⟩
    have qJ := aM (az ho0 (ap z17))
    replace aH := aM (bK_ aH.out hb)
    replace HB := aM (ao z17 hb)
    (try clear hb)
    skip
    skip
    skip
    (try clear ho0)
    refine hK.out _ _ ⟨(bC aH.out 0).trans rfl, (bC aH.out 1).trans rfl, (bC aH.out 2).trans rfl, (bC aH.out 3).trans rfl⟩ (fun hHeld => ?_)
    clear hK K
    refine norm_ (a' := ?_) ?_ ?_
    rotate_left
    ·show Act.put _ (some 24) _ = _
     simp only [Act.put, sA, sB, sC, i64_w, i32_w]
     rfl
    refine pA 11 28 ?_
    refine pB 12 29 ?_
    refine pB 13 30 ?_
    refine pB 14 31 ?_
    refine pA 15 32 ?_
    refine pA 16 4 ?_
    refine pA 17 5 ?_
    refine done_ (done_of HT_.out z0) ?_
    try go_wp2
    go_ret2
    exact ⟨_, y4, by (with_reducible repeat (first | apply ac | apply ab | apply aa)); exact qJ.out, y25⟩
   ·rw [if_neg c7] at H
    have c7b0 : (a1_3.toList == ([] : List UInt8)) = false := qF c7
    have c7b1 : (a1_3.toList != ([] : List UInt8)) = true := nT c7
    obtain ⟨gf, rm, H⟩ := oA_ H
    try dsimp only at H
    simp only [Option.some.injEq, Prod.mk.injEq] at H
    obtain ⟨rfl, rfl⟩ := H
    go_enter Try.func53, Try.ntmps53
    try go_wp2_with (first | ((with_reducible refine aw (N := 3) rfl ?_); (try (refine gate_guard (by rfl) ?_; dsimp only)); refine ax ?hg (N := 3) ?hd (cs := #[.int .i64 a1_0, .int .i64 a1_1, .int .i64 a1_2, .string a1_3]) (t := 29) ?hr ?_; (case hd => rfl); (case hg => rfl); (case hr => first | (go_simp; done) | (go_simp; rfl)); intro aT hg w13 hbox hb; have aH := aM (hbox); have km := aM ((by rw [hg]; exact (ap z14) : w.heap.size ≤ aT)); have kr := aM ((by rw [hg]; exact (ap z14) : w.heap.size ≤ aT)); replace HB := aM (ao z14 hb); clear hb hbox hg; obtain ⟨cW, cV, cU, e9, cQ, cP, cO, eY⟩ := cc4 aH.out) | ((with_reducible refine av (f := 71) rfl ?_); refine ay (some 11) rfl rfl Try.func71 z0 rfl #[.int .i64 a1_1, .int .i64 0, .int .i64 (a0.size : Int)] rfl z15 ?_; (with_reducible refine (spec_l1In.calls a1_1 0 (a0.size : Int) true _ A3.out).mono ?_); rintro e w' ⟨rfl, ⟨nd, rfl⟩⟩; refine ⟨_, rfl, ?_⟩))
    (try (rw [drewN_self w13]; generalize hq_ : World.drewN w13 _ = w13; have aE : Aside0 (w13.heap[aT]? = some (.cells #[.int .i64 a1_0, .int .i64 a1_1, .int .i64 a1_2, .string a1_3] 29 (0, 0))) := ⟨by rw [← hq_]; exact z7⟩; have aG : Aside0 (Below w.heap.size w w13) := ⟨by rw [← hq_]; exact z17⟩; clear aH HB hq_; have aH := aE; have HB := aG; clear aE aG))
    replace aH := aM (ai aH.out)
    replace HB := aM (bD HB.out)
    refine start_ (n := 18) (S := fun w' => w'.cell? ⟨aT, 0, none⟩ = some (.int .i64 a1_0) ∧ w'.cell? ⟨aT, 1, none⟩ = some (.int .i64 a1_1) ∧ w'.cell? ⟨aT, 2, none⟩ = some (.int .i64 a1_2) ∧ w'.cell? ⟨aT, 3, none⟩ = some (.string a1_3)) (ds := []) #[false, false, false, false, false, false, false, false, false, false, false, false, false, false, false, false, false, false] z0 rfl rfl ⟨(bC aH.out 0).trans rfl, (bC aH.out 1).trans rfl, (bC aH.out 2).trans rfl, (bC aH.out 3).trans rfl⟩ (fun hHeld => ?_); refine with_tabW spec_l8Op.tab5 spec_l8Op.bits5 (fun HT_ HW_ => ?_)
    generalize w13.drew = w15 at aH HB hHeld ⊢
    refine pA 0 17 ?_
    refine pA 1 18 ?_
    refine pA 3 20 ?_
    refine pA 5 22 ?_
    refine pA 8 25 ?_
    refine t4_ 2 19 ?_
    refine t4_ 4 21 ?_
    refine t4_ 6 23 ?_
    refine t4_ 9 26 ?_
    refine pA 10 27 ?_
    refine one_ (i := 7) (N := some 24) #[true, true, true, true, true, true, true, true, true, true, true, false, false, false, false, false, false, false] rfl rfl (one_of HT_.out z0) (by decide) (fun K hK => ?_)
    refine goes_ Try.func72 z0 rfl #[.string a0, .int .i64 a1_1, .int .i64 a1_1, .string a1_3] (by rfl) rfl rfl z15 ?_
    with_reducible refine (spec_l3Splice.calls k a0 a1_1 a1_1 a1_3 ei _ A6.out).mono ?_
    rintro e w16 ⟨v176, rfl, ho0, hb⟩
    refine ⟨_, rfl, ?_⟩
    have qJ := aM (az ho0 (ap z17))
    replace aH := aM (bK_ aH.out hb)
    replace HB := aM (ao z17 hb)
    (try clear hb)
    skip
    skip
    skip
    (try clear ho0)
    refine hK.out _ _ ⟨(bC aH.out 0).trans rfl, (bC aH.out 1).trans rfl, (bC aH.out 2).trans rfl, (bC aH.out 3).trans rfl⟩ (fun hHeld => ?_)
    clear hK K
    refine norm_ (a' := ?_) ?_ ?_
    rotate_left
    ·show Act.put _ (some 24) _ = _
     simp only [Act.put, sA, sB, sC, i64_w, i32_w]
     rfl
    refine pA 11 28 ?_
    refine pA 12 29 ?_
    refine t4_ 13 30 ?_
    refine one_ (i := 14) (N := some 31) #[true, true, true, true, true, true, true, true, true, true, true, true, true, true, true, false, false, false] rfl rfl (one_of HT_.out z0) (by decide) (fun K hK => ?_)
    refine goes_ Try.func48 z0 rfl #[.string a1_3] (by rfl) rfl rfl z15 ?_
    with_reducible refine (spec_GoodText.calls k a1_3 gf _ rm.out).mono ?_
    rintro e w' ⟨rfl, ⟨nd, rfl⟩⟩
    refine ⟨_, rfl, ?_⟩
    refine hK.out _ _ ⟨(bC aH.out 0).trans rfl, (bC aH.out 1).trans rfl, (bC aH.out 2).trans rfl, (bC aH.out 3).trans rfl⟩ (fun hHeld => ?_)
    clear hK K
    refine norm_ (a' := ?_) ?_ ?_
    rotate_left
    ·show Act.put _ (some 31) _ = _
     simp only [Act.put, sA, sB, sC, i64_w, i32_w]
     rfl
    refine pA 15 32 ?_
    refine pA 16 4 ?_
    refine pA 17 5 ?_
    refine done_ (done_of HT_.out z0) ?_
    try go_wp2
    go_ret2
    exact ⟨_, y4, by (with_reducible repeat (first | apply ac | apply ab | apply aa)); exact qJ.out, y25⟩
  ·exact absurd HKD.out c5
 ·exact absurd (A3.out.symm.trans HTR.out) (fun e_ => c4 (sI e_))
set_option maxHeartbeats 8000000 in
set_option maxRecDepth 100000 in
theorem spec_l8Op.calls23 (k : Nat) (a0 : ByteArray) (a1_0 : Int) (a1_1 : Int) (a1_2 : Int) (a1_3 : ByteArray) (r1 : List (S61)) (r2 : Bool) (w : World) (HTR : Aside0 (spec_l1In.f a1_1 0 (a0.size : Int) = some true)) (HKD : Aside0 (a1_0 = 2 ∨ a1_0 = 3)) (h : spec_l8Op.f k a0 a1_0 a1_1 a1_2 a1_3 = some (r1, r2)) :
  Calls Try.prog 53 #[.string a0, .agg #[.int .i64 a1_0, .int .i64 a1_1, .int .i64 a1_2, .string a1_3]] w fun e w' => ∃ v0_ : Value, e = .returned (.tuple #[v0_, .bool r2]) ∧ Kd.R k61 61 w' w.heap.size (fun _ => True) v0_ r1 ∧ Below w.heap.size w w' := by
 have hu29 := Try.underlying29
 have hu61 := Try.underlying61
 have HB := aM (Below.refl w.heap.size w)
 have H : ((spec_l1In.f a1_1 0 (a0.size : Int)).bind fun dE => (if dE = true then (if a1_0 = 1 then ((spec_l3Splice.f k a0 a1_1 a1_1 a1_3).bind fun ei => (if a1_3.toList = ([] : List UInt8) then (some (ei, false)) else ((spec_GoodText.f k a1_3).bind fun gf => (some (ei, gf))))) else (if a1_0 = 2 then (spec_l8Op.j0 k a0 a1_0 (a1_0 == 2) a1_0 a1_1 a1_2 a1_3) else (spec_l8Op.j0 k a0 a1_0 (a1_0 == 3) a1_0 a1_1 a1_2 a1_3))) else (some (([] : List (S61)), false)))) = some (r1, r2) := h
 clear h
 obtain ⟨dE, A3, H⟩ := oA_ H
 try dsimp only at H
 by_cases c4 : dE = true
 ·subst c4
  rw [if_pos rfl] at H
  by_cases c5 : a1_0 = 1
  ·exact absurd c5 (by have := HKD.out; omega)
  ·rw [if_neg c5] at H
   have c5b0 : (a1_0 == 1) = false := qF c5
   have c5b1 : (a1_0 != 1) = true := nT c5
   have gm := aM H
   clear H
   go_enter Try.func53, Try.ntmps53
   go_upto_if 33 with (first | ((with_reducible refine aw (N := 3) rfl ?_); (try (refine gate_guard (by rfl) ?_; dsimp only)); refine ax ?hg (N := 3) ?hd (cs := #[.int .i64 a1_0, .int .i64 a1_1, .int .i64 a1_2, .string a1_3]) (t := 29) ?hr ?_; (case hd => rfl); (case hg => rfl); (case hr => first | (go_simp; done) | (go_simp; rfl)); intro aT hg w18 hbox hb; have aH := aM (hbox); have km := aM ((by rw [hg]; exact (ap z14) : w.heap.size ≤ aT)); have kr := aM ((by rw [hg]; exact (ap z14) : w.heap.size ≤ aT)); replace HB := aM (ao z14 hb); clear hb hbox hg; obtain ⟨eB, eA, ez, ey, ex, ew, ev, eu⟩ := cc4 aH.out) | ((with_reducible refine av (f := 71) rfl ?_); refine ay (some 11) rfl rfl Try.func71 z0 rfl #[.int .i64 a1_1, .int .i64 0, .int .i64 (a0.size : Int)] rfl z15 ?_; (with_reducible refine (spec_l1In.calls a1_1 0 (a0.size : Int) true _ A3.out).mono ?_); rintro e w' ⟨rfl, ⟨nd, rfl⟩⟩; refine ⟨_, rfl, ?_⟩))
   (try simp only [Act.put, sA, sB, sC])
   go_cut [33] (fun v33 wc => ∃ (kq : Nat) (x33_16 : Bool), v33 = .bool x33_16 ∧ Aside0 (x33_16 = true ↔ (a1_0 = 2 ∨ a1_0 = 3)) ∧ Aside0 (spec_l8Op.j0 kq a0 a1_0 x33_16 a1_0 a1_1 a1_2 a1_3 = some (r1, r2)) ∧ Aside0 (kq ≤ k) ∧ Aside0 (wc.heap[aT]? = some (.cells #[.int .i64 a1_0, .int .i64 a1_1, .int .i64 a1_2, .string a1_3] 29 (0, 0))) ∧ Aside0 (Below w.heap.size w wc))
   case first =>
    have H := gm.out
    clear gm
    by_cases cx : a1_0 = 2
    ·rw [if_pos cx] at H
     have c20b0 : (a1_0 == 2) = true := qT cx
     have c20b1 : (a1_0 != 2) = false := nF cx
     clear cx
     (first | rw [c20b0] | (simp only [i64_w, i32_w]; rw [c20b0]) | skip)
     have H' := aM H
     clear H
     go_wp2
     go_meet
     case rel => exact ⟨_, ((a1_0 == 2)), z1, ⟨⟨fun h_ => .inl (beq_iff_eq.mp h_), fun _ => c20b0⟩⟩, H', ⟨y0⟩, ⟨y16⟩, ⟨y25⟩⟩
    ·rw [if_neg cx] at H
     have c20b0 : (a1_0 == 2) = false := qF cx
     have c20b1 : (a1_0 != 2) = true := nT cx
     (first | rw [c20b0] | (simp only [i64_w, i32_w]; rw [c20b0]) | skip)
     have H' := aM H
     clear H
     go_wp2
     go_meet
     case rel => exact ⟨_, ((a1_0 == 3)), z1, ⟨⟨fun h_ => .inr (beq_iff_eq.mp h_), fun h_ => h_.elim (fun e_ => absurd (qT e_) (by rw [c20b0]; decide)) (fun e_ => qT e_)⟩⟩, H', ⟨y0⟩, ⟨y16⟩, ⟨y25⟩⟩
   case rest =>
    clear gm
    try clear c4
    try clear c5
    try clear c5b0
    try clear c5b1
    try clear eB
    try clear eA
    try clear ez
    try clear ey
    try clear ex
    try clear ew
    try clear ev
    try clear eu
    obtain ⟨kq, x33_16, rfl, HX33, HA, nf, aH, HB⟩ := hcut
    cases kq with
    | zero => exact absurd HA.out (by simp [spec_l8Op.j0])
    | succ kj16 =>
     have H := HA.out
     clear HA
     simp only [spec_l8Op.j0] at H
     by_cases ea : x33_16 = true
     ·subst ea
      rw [if_pos rfl] at H
      have tB := aM H
      clear H
      go_upto_region 8 with (fail)
      go_cut [53] (fun v53 wc => ∃ (kq : Nat) (x53_21 : Bool), v53 = .bool x53_21 ∧ Aside0 (spec_l8Op.j1 kq a0 x53_21 a1_0 a1_1 a1_2 a1_3 = some (r1, r2)) ∧ Aside0 (kq ≤ kj16) ∧ Aside0 (wc.heap[aT]? = some (.cells #[.int .i64 a1_0, .int .i64 a1_1, .int .i64 a1_2, .string a1_3] 29 (0, 0))) ∧ Aside0 (Below w.heap.size w wc))
      case first =>
       have H := tB.out
       clear tB
       obtain ⟨tc, tN, H⟩ := oA_ H
       try dsimp only at H
       by_cases f6 : tc = true
       ·subst f6
        rw [if_pos rfl] at H
        by_cases d7 : 0 ≤ a1_1
        ·rw [if_pos d7] at H
         have c25b0 := eq_true d7
         have c25b1 : decide (0 ≤ a1_1) = true := dT d7
         clear d7
         by_cases eJ : a1_1 ≤ a1_2
         ·rw [if_pos eJ] at H
          have c26b0 := eq_true eJ
          have c26b1 : decide (a1_1 ≤ a1_2) = true := dT eJ
          clear eJ
          by_cases nb : a1_2 ≤ (a0.size : Int)
          ·rw [if_pos nb] at H
           have c27b0 := eq_true nb
           have c27b1 : decide (a1_2 ≤ (a0.size : Int)) = true := dT nb
           clear nb
           obtain ⟨rF, wo, H⟩ := oA_ H
           try dsimp only at H
           have H' := aM H
           clear H
           obtain ⟨e4, e3, eZ, iI, eT, eS, eR, ir⟩ := cc4 aH.out
           go_wp2_with (first | ((with_reducible refine av (f := 71) rfl ?_); refine ay (some 42) rfl rfl Try.func71 z0 rfl #[.int .i64 a1_2, .int .i64 a1_1, .int .i64 (a0.size : Int)] rfl z15 ?_; (with_reducible refine (spec_l1In.calls a1_2 a1_1 (a0.size : Int) true _ tN.out).mono ?_); rintro e w' ⟨rfl, ⟨nd, rfl⟩⟩; refine ⟨_, rfl, ?_⟩) | (go_at_call 49; (with_reducible refine (spec_l1Balanced.calls kj16 (a0.extract (a1_1 : Int).toNat (a1_2 : Int).toNat) rF _ wo.out).mono ?_); rintro e w' ⟨rfl, ⟨nd, rfl⟩⟩))
           go_meet
           case rel => exact ⟨_, (!rF), z1, H', ⟨by have := nf.out; first | omega | exact Nat.le_refl _⟩, ⟨y16⟩, ⟨y25⟩⟩
          ·rw [if_neg nb] at H
           exact absurd H (by simp)
         ·rw [if_neg eJ] at H
          exact absurd H (by simp)
        ·rw [if_neg d7] at H
         exact absurd H (by simp)
       ·replace f6 := Bool.eq_false_iff.mpr f6
        subst f6
        rw [if_neg nF_] at H
        have H' := aM H
        clear H
        obtain ⟨oK, oJ, oI, hcz30_3, nU, nS, nR, hfz30_3⟩ := cc4 aH.out
        go_wp2_with (first | ((with_reducible refine av (f := 71) rfl ?_); refine ay (some 42) rfl rfl Try.func71 z0 rfl #[.int .i64 a1_2, .int .i64 a1_1, .int .i64 (a0.size : Int)] rfl z15 ?_; (with_reducible refine (spec_l1In.calls a1_2 a1_1 (a0.size : Int) false _ tN.out).mono ?_); rintro e w' ⟨rfl, ⟨nd, rfl⟩⟩; refine ⟨_, rfl, ?_⟩))
        go_meet
        case rel => exact ⟨_, (true), z1, H', ⟨by have := nf.out; first | omega | exact Nat.le_refl _⟩, ⟨y16⟩, ⟨y25⟩⟩
      case rest =>
       clear tB
       try clear c4
       try clear c5
       try clear c5b0
       try clear c5b1
       try clear ea
       try clear eB
       try clear eA
       try clear ez
       try clear ey
       try clear ex
       try clear ew
       try clear ev
       try clear eu
       obtain ⟨kq, x53_21, rfl, HA, HJ21, aH, HB⟩ := hcut
       cases kq with
       | zero => exact absurd HA.out (by simp [spec_l8Op.j1])
       | succ kj21 =>
        have H := HA.out
        clear HA
        simp only [spec_l8Op.j1] at H
        by_cases fo : x53_21 = true
        ·subst fo
         rw [if_pos rfl] at H
         simp only [Option.some.injEq, Prod.mk.injEq] at H
         obtain ⟨rfl, rfl⟩ := H
         go_wp2
         go_ret2
         exact ⟨_, y4, y28, y25⟩
        ·replace fo := Bool.eq_false_iff.mpr fo
         subst fo
         rw [if_neg nF_] at H
         by_cases hG : a1_0 = 2
         ·rw [if_pos hG] at H
          have c32b0 : (a1_0 == 2) = true := qT hG
          have c32b1 : (a1_0 != 2) = false := nF hG
          clear hG
          obtain ⟨tb, A33, H⟩ := oA_ H
          try dsimp only at H
          simp only [Option.some.injEq, Prod.mk.injEq] at H
          obtain ⟨rfl, rfl⟩ := H
          obtain ⟨hcz34_0, hcz34_1, hcz34_2, hcz34_3, hfz34_0, hfz34_1, hfz34_2, hfz34_3⟩ := cc4 aH.out
          try go_wp2
          replace aH := aM (ai aH.out)
          replace HB := aM (bD HB.out)
          refine start_ (n := 13) (S := fun w' => w'.cell? ⟨aT, 0, none⟩ = some (.int .i64 a1_0) ∧ w'.cell? ⟨aT, 1, none⟩ = some (.int .i64 a1_1) ∧ w'.cell? ⟨aT, 2, none⟩ = some (.int .i64 a1_2) ∧ w'.cell? ⟨aT, 3, none⟩ = some (.string a1_3)) (ds := []) #[false, false, false, false, false, false, false, false, false, false, false, false, false] z0 rfl rfl ⟨(bC aH.out 0).trans rfl, (bC aH.out 1).trans rfl, (bC aH.out 2).trans rfl, (bC aH.out 3).trans rfl⟩ (fun hHeld => ?_); refine with_tabW spec_l8Op.tab11 spec_l8Op.bits11 (fun HT_ HW_ => ?_)
          generalize wc.drew = w35 at aH HB hHeld ⊢
          refine pA 0 57 ?_
          refine pA 1 58 ?_
          refine pA 3 60 ?_
          refine pA 6 63 ?_
          refine pA 8 65 ?_
          refine t4_ 2 59 ?_
          refine t4_ 4 61 ?_
          refine t4_ 7 64 ?_
          refine t4_ 9 66 ?_
          refine pA 10 67 ?_
          refine one_ (i := 5) (N := some 62) #[true, true, true, true, true, true, true, true, true, true, true, false, false] rfl rfl (one_of HT_.out z0) (by decide) (fun K hK => ?_)
          refine goes_ Try.func72 z0 rfl #[.string a0, .int .i64 a1_1, .int .i64 a1_2, .string ⟨#[]⟩] (by rfl) rfl rfl z15 ?_
          with_reducible refine (spec_l3Splice.calls kj21 a0 a1_1 a1_2 (⟨#[]⟩ : ByteArray) tb _ A33.out).mono ?_
          rintro e w36 ⟨v182, rfl, ho0, hb⟩
          refine ⟨_, rfl, ?_⟩
          have HO183 := aM (az ho0 (ap z17))
          replace aH := aM (bK_ aH.out hb)
          replace HB := aM (ao z17 hb)
          (try clear hb)
          skip
          skip
          skip
          (try clear ho0)
          refine hK.out _ _ ⟨(bC aH.out 0).trans rfl, (bC aH.out 1).trans rfl, (bC aH.out 2).trans rfl, (bC aH.out 3).trans rfl⟩ (fun hHeld => ?_)
          clear hK K
          refine norm_ (a' := ?_) ?_ ?_
          rotate_left
          ·show Act.put _ (some 62) _ = _
           simp only [Act.put, sA, sB, sC, i64_w, i32_w]
           rfl
          refine pA 11 4 ?_
          refine pA 12 5 ?_
          refine done_ (done_of HT_.out z0) ?_
          try go_wp2
          go_ret2
          exact ⟨_, y4, by (with_reducible repeat (first | apply ac | apply ab | apply aa)); exact HO183.out, y25⟩
         ·rw [if_neg hG] at H
          have c32b0 : (a1_0 == 2) = false := qF hG
          have c32b1 : (a1_0 != 2) = true := nT hG
          obtain ⟨ta, wm, H⟩ := oA_ H
          try dsimp only at H
          by_cases f4 : ta = true
          ·subst f4
           rw [if_pos rfl] at H
           obtain ⟨y185, hy185⟩ : ∃ y_ : List (S61), y_ = (([(⟨a1_1, (⟨#[]⟩ : ByteArray), (⟨#[]⟩ : ByteArray)⟩ : S61), (⟨0, a1_3, (⟨#[]⟩ : ByteArray)⟩ : S61), (⟨wrap64 (a1_2 - a1_1), (⟨#[]⟩ : ByteArray), (⟨#[]⟩ : ByteArray)⟩ : S61), (⟨0, (⟨#[47]⟩ : ByteArray), (⟨#[]⟩ : ByteArray)⟩ : S61), (⟨wrap64 ((a0.size : Int) - a1_2), (⟨#[]⟩ : ByteArray), (⟨#[]⟩ : ByteArray)⟩ : S61)] : List (S61))) := ⟨_, rfl⟩
           replace H : ((spec_l3Normal.f kj21 y185).bind fun pW => (some (pW, true))) = some (r1, r2) := by first | (rw [hy185]; with_reducible exact H) | (have H2_ := (Option.bind_some _ _).symm.trans H; rw [hy185]; with_reducible exact H2_) | (have H2_ := (Option.bind_some _ _).symm.trans H; with_reducible exact H2_) | with_reducible exact H | (rw [hy185]; exact H) | exact H
           have Ny185 := aM hy185
           clear hy185
           obtain ⟨pW, A39, H⟩ := oA_ H
           try dsimp only at H
           simp only [Option.some.injEq, Prod.mk.injEq] at H
           obtain ⟨rfl, rfl⟩ := H
           obtain ⟨hcz40_0, hcz40_1, hcz40_2, hcz40_3, hfz40_0, hfz40_1, hfz40_2, hfz40_3⟩ := cc4 aH.out
           go_wp2_with (first | ((with_reducible refine av (f := 73) rfl ?_); refine ay (some 70) rfl rfl Try.func73 z0 rfl #[.string a1_3] rfl z15 ?_; (with_reducible refine (spec_l1Name.calls a1_3 true _ wm.out).mono ?_); rintro e w' ⟨rfl, ⟨nd, rfl⟩⟩; refine ⟨_, rfl, ?_⟩) | ((with_reducible refine aw (N := 91) rfl ?_); (try (refine gate_guard (by rfl) ?_; dsimp only)); refine Kd.R_lit k61 _ 61 ?hg (N := 91) ?hd (xs := ([(⟨a1_1, (⟨#[]⟩ : ByteArray), (⟨#[]⟩ : ByteArray)⟩ : S61), (⟨0, a1_3, (⟨#[]⟩ : ByteArray)⟩ : S61), (⟨wrap64 (a1_2 - a1_1), (⟨#[]⟩ : ByteArray), (⟨#[]⟩ : ByteArray)⟩ : S61), (⟨0, (⟨#[47]⟩ : ByteArray), (⟨#[]⟩ : ByteArray)⟩ : S61), (⟨wrap64 ((a0.size : Int) - a1_2), (⟨#[]⟩ : ByteArray), (⟨#[]⟩ : ByteArray)⟩ : S61)] : List (S61))) (inner := [.int .i64 a1_1, .string ⟨#[]⟩, .string ⟨#[]⟩, .int .i64 0, .string a1_3, .string ⟨#[]⟩, .int .i64 (wrap64 (a1_2 - a1_1)), .string ⟨#[]⟩, .string ⟨#[]⟩, .int .i64 0, .string (⟨#[47]⟩ : ByteArray), .string ⟨#[]⟩, .int .i64 (wrap64 ((a0.size : Int) - a1_2)), .string ⟨#[]⟩, .string ⟨#[]⟩]) (ok := fun _ => True) (okp := fun _ => True) ?hr ?hp (fun _ hk => hk) trivial (Below.refl _ _) (Nat.le_refl _) (by simp) ?_; (case hd => rfl); (case hg => rfl); (case hr => first | (go_simp; done) | (go_simp; rfl)); (case hp => exact (Reps.c3 (show Kd.M k61 _ _ _ (⟨a1_1, (⟨#[]⟩ : ByteArray), (⟨#[]⟩ : ByteArray)⟩ : S61) [.int .i64 a1_1, .string ⟨#[]⟩, .string ⟨#[]⟩] from (k61_mkM _ _ _ (⟨a1_1, (⟨#[]⟩ : ByteArray), (⟨#[]⟩ : ByteArray)⟩ : S61) )) (Reps.c3 (show Kd.M k61 _ _ _ (⟨0, a1_3, (⟨#[]⟩ : ByteArray)⟩ : S61) [.int .i64 0, .string a1_3, .string ⟨#[]⟩] from (k61_mkM _ _ _ (⟨0, a1_3, (⟨#[]⟩ : ByteArray)⟩ : S61) )) (Reps.c3 (show Kd.M k61 _ _ _ (⟨wrap64 (a1_2 - a1_1), (⟨#[]⟩ : ByteArray), (⟨#[]⟩ : ByteArray)⟩ : S61) [.int .i64 (wrap64 (a1_2 - a1_1)), .string ⟨#[]⟩, .string ⟨#[]⟩] from (k61_mkM _ _ _ (⟨wrap64 (a1_2 - a1_1), (⟨#[]⟩ : ByteArray), (⟨#[]⟩ : ByteArray)⟩ : S61) )) (Reps.c3 (show Kd.M k61 _ _ _ (⟨0, (⟨#[47]⟩ : ByteArray), (⟨#[]⟩ : ByteArray)⟩ : S61) [.int .i64 0, .string (⟨#[47]⟩ : ByteArray), .string ⟨#[]⟩] from (k61_mkM _ _ _ (⟨0, (⟨#[47]⟩ : ByteArray), (⟨#[]⟩ : ByteArray)⟩ : S61) )) (Reps.c3 (show Kd.M k61 _ _ _ (⟨wrap64 ((a0.size : Int) - a1_2), (⟨#[]⟩ : ByteArray), (⟨#[]⟩ : ByteArray)⟩ : S61) [.int .i64 (wrap64 ((a0.size : Int) - a1_2)), .string ⟨#[]⟩, .string ⟨#[]⟩] from (k61_mkM _ _ _ (⟨wrap64 ((a0.size : Int) - a1_2), (⟨#[]⟩ : ByteArray), (⟨#[]⟩ : ByteArray)⟩ : S61) )) (Reps.none _ _))))))); intro v186 w41 ho42 hb hg_ hnew_; clear hg_ hnew_; (first | rw [← Ny185.out] at ho42 | (simp only [Int.reduceToNat] at ho42; rw [← Ny185.out] at ho42)); have jE := aM (az ho42 (ap z17)); replace aH := aM (bK_ aH.out hb); replace HB := aM (ao z17 hb); clear hb ho42; obtain ⟨Ao43, co43, eo43⟩ := Kd.R_slice jE.out; subst eo43) | ((with_reducible refine av (f := 74) rfl ?_); refine ay (some 92) rfl rfl Try.func74 z0 rfl #[.slice Ao43 y185.length co43] rfl z15 ?_; (with_reducible refine (spec_l3Normal.calls kj21 _ _ y185 pW _ ?side1 ?side2 A39.out).mono ?_); (case side1 => repeat (first | exact (ah jE.out).2.2 | (with_reducible refine aq ?_ _) | (with_reducible refine ar ?_ _) | (with_reducible refine au ?_))); (case side2 => exact (ah jE.out).2.1); rintro e w44 ⟨v189, rfl, ho0, hb⟩; refine ⟨_, rfl, ?_⟩; have HO190 := aM (az (Kd.R_new' ho0 (Kd.R_lt (kR_ jE.out))) (ap z17)); replace jE := aM (Kd.R_elder' (kR_ jE.out) (Kd.R_base ho0) hb); replace aH := aM (bK_ aH.out hb); replace HB := aM (ao z17 hb); (try clear hb); (try clear ho0)))
           go_ret2
           exact ⟨_, y4, by (with_reducible repeat (first | apply ac | apply ab | apply aa)); exact ag HO190.out (fun _ hk => trivial), y25⟩
          ·replace f4 := Bool.eq_false_iff.mpr f4
           subst f4
           rw [if_neg nF_] at H
           simp only [Option.some.injEq, Prod.mk.injEq] at H
           obtain ⟨rfl, rfl⟩ := H
           obtain ⟨hcz45_0, hcz45_1, hcz45_2, hcz45_3, hfz45_0, hfz45_1, hfz45_2, hfz45_3⟩ := cc4 aH.out
           go_wp2_with (first | ((with_reducible refine av (f := 73) rfl ?_); refine ay (some 70) rfl rfl Try.func73 z0 rfl #[.string a1_3] rfl z15 ?_; (with_reducible refine (spec_l1Name.calls a1_3 false _ wm.out).mono ?_); rintro e w' ⟨rfl, ⟨nd, rfl⟩⟩; refine ⟨_, rfl, ?_⟩))
           go_ret2
           exact ⟨_, y4, y28, y25⟩
     ·exact absurd (HX33.out.mpr HKD.out) ea
 ·exact absurd (A3.out.symm.trans HTR.out) (fun e_ => c4 (sI e_))
set_option maxHeartbeats 8000000 in
set_option maxRecDepth 100000 in
theorem spec_l8Op.calls5 (k : Nat) (a0 : ByteArray) (a1_0 : Int) (a1_1 : Int) (a1_2 : Int) (a1_3 : ByteArray) (r1 : List (S61)) (r2 : Bool) (w : World) (HTR : Aside0 (spec_l1In.f a1_1 0 (a0.size : Int) = some true)) (HKD : Aside0 (a1_0 = 5)) (h : spec_l8Op.f k a0 a1_0 a1_1 a1_2 a1_3 = some (r1, r2)) :
  Calls Try.prog 53 #[.string a0, .agg #[.int .i64 a1_0, .int .i64 a1_1, .int .i64 a1_2, .string a1_3]] w fun e w' => ∃ v0_ : Value, e = .returned (.tuple #[v0_, .bool r2]) ∧ Kd.R k61 61 w' w.heap.size (fun _ => True) v0_ r1 ∧ Below w.heap.size w w' := by
 have hu29 := Try.underlying29
 have hu61 := Try.underlying61
 have HB := aM (Below.refl w.heap.size w)
 have H : ((spec_l1In.f a1_1 0 (a0.size : Int)).bind fun dE => (if dE = true then (if a1_0 = 1 then ((spec_l3Splice.f k a0 a1_1 a1_1 a1_3).bind fun ei => (if a1_3.toList = ([] : List UInt8) then (some (ei, false)) else ((spec_GoodText.f k a1_3).bind fun gf => (some (ei, gf))))) else (if a1_0 = 2 then (spec_l8Op.j0 k a0 a1_0 (a1_0 == 2) a1_0 a1_1 a1_2 a1_3) else (spec_l8Op.j0 k a0 a1_0 (a1_0 == 3) a1_0 a1_1 a1_2 a1_3))) else (some (([] : List (S61)), false)))) = some (r1, r2) := h
 clear h
 obtain ⟨dE, A3, H⟩ := oA_ H
 try dsimp only at H
 by_cases c4 : dE = true
 ·subst c4
  rw [if_pos rfl] at H
  by_cases c5 : a1_0 = 1
  ·exact absurd c5 (by have := HKD.out; omega)
  ·rw [if_neg c5] at H
   have c5b0 : (a1_0 == 1) = false := qF c5
   have c5b1 : (a1_0 != 1) = true := nT c5
   have gm := aM H
   clear H
   go_enter Try.func53, Try.ntmps53
   go_upto_if 33 with (first | ((with_reducible refine aw (N := 3) rfl ?_); (try (refine gate_guard (by rfl) ?_; dsimp only)); refine ax ?hg (N := 3) ?hd (cs := #[.int .i64 a1_0, .int .i64 a1_1, .int .i64 a1_2, .string a1_3]) (t := 29) ?hr ?_; (case hd => rfl); (case hg => rfl); (case hr => first | (go_simp; done) | (go_simp; rfl)); intro aT hg w18 hbox hb; have aH := aM (hbox); have km := aM ((by rw [hg]; exact (ap z14) : w.heap.size ≤ aT)); have kr := aM ((by rw [hg]; exact (ap z14) : w.heap.size ≤ aT)); replace HB := aM (ao z14 hb); clear hb hbox hg; obtain ⟨eB, eA, ez, ey, ex, ew, ev, eu⟩ := cc4 aH.out) | ((with_reducible refine av (f := 71) rfl ?_); refine ay (some 11) rfl rfl Try.func71 z0 rfl #[.int .i64 a1_1, .int .i64 0, .int .i64 (a0.size : Int)] rfl z15 ?_; (with_reducible refine (spec_l1In.calls a1_1 0 (a0.size : Int) true _ A3.out).mono ?_); rintro e w' ⟨rfl, ⟨nd, rfl⟩⟩; refine ⟨_, rfl, ?_⟩))
   (try simp only [Act.put, sA, sB, sC])
   go_cut [33] (fun v33 wc => ∃ (kq : Nat) (x33_16 : Bool), v33 = .bool x33_16 ∧ Aside0 (x33_16 = true ↔ (a1_0 = 2 ∨ a1_0 = 3)) ∧ Aside0 (spec_l8Op.j0 kq a0 a1_0 x33_16 a1_0 a1_1 a1_2 a1_3 = some (r1, r2)) ∧ Aside0 (kq ≤ k) ∧ Aside0 (wc.heap[aT]? = some (.cells #[.int .i64 a1_0, .int .i64 a1_1, .int .i64 a1_2, .string a1_3] 29 (0, 0))) ∧ Aside0 (Below w.heap.size w wc))
   case first =>
    have H := gm.out
    clear gm
    by_cases cx : a1_0 = 2
    ·rw [if_pos cx] at H
     have c20b0 : (a1_0 == 2) = true := qT cx
     have c20b1 : (a1_0 != 2) = false := nF cx
     clear cx
     (first | rw [c20b0] | (simp only [i64_w, i32_w]; rw [c20b0]) | skip)
     have H' := aM H
     clear H
     go_wp2
     go_meet
     case rel => exact ⟨_, ((a1_0 == 2)), z1, ⟨⟨fun h_ => .inl (beq_iff_eq.mp h_), fun _ => c20b0⟩⟩, H', ⟨y0⟩, ⟨y16⟩, ⟨y25⟩⟩
    ·rw [if_neg cx] at H
     have c20b0 : (a1_0 == 2) = false := qF cx
     have c20b1 : (a1_0 != 2) = true := nT cx
     (first | rw [c20b0] | (simp only [i64_w, i32_w]; rw [c20b0]) | skip)
     have H' := aM H
     clear H
     go_wp2
     go_meet
     case rel => exact ⟨_, ((a1_0 == 3)), z1, ⟨⟨fun h_ => .inr (beq_iff_eq.mp h_), fun h_ => h_.elim (fun e_ => absurd (qT e_) (by rw [c20b0]; decide)) (fun e_ => qT e_)⟩⟩, H', ⟨y0⟩, ⟨y16⟩, ⟨y25⟩⟩
   case rest =>
    clear gm
    try clear c4
    try clear c5
    try clear c5b0
    try clear c5b1
    try clear eB
    try clear eA
    try clear ez
    try clear ey
    try clear ex
    try clear ew
    try clear ev
    try clear eu
    obtain ⟨kq, x33_16, rfl, HX33, HA, nf, aH, HB⟩ := hcut
    cases kq with
    | zero => exact absurd HA.out (by simp [spec_l8Op.j0])
    | succ kj16 =>
     have H := HA.out
     clear HA
     simp only [spec_l8Op.j0] at H
     by_cases ea : x33_16 = true
     ·exact absurd (HX33.out.mp ea) (by have := HKD.out; omega)
     ·replace ea := Bool.eq_false_iff.mpr ea
      subst ea
      rw [if_neg nF_] at H
      by_cases eI : a1_0 = 5
      ·rw [if_pos eI] at H
       have c46b0 : (a1_0 == 5) = true := qT eI
       have c46b1 : (a1_0 != 5) = false := nF eI
       clear eI
       obtain ⟨⟨t191, t192⟩, A47, H⟩ := oA_ H
       try dsimp only at H
       simp only [Option.some.injEq, Prod.mk.injEq] at H
       obtain ⟨rfl, rfl⟩ := H
       obtain ⟨hcz48_0, hcz48_1, hcz48_2, hcz48_3, hfz48_0, hfz48_1, hfz48_2, hfz48_3⟩ := cc4 aH.out
       go_wp2_with (first | ((with_reducible refine av (f := 75) rfl ?_); refine ay (some 98) rfl rfl Try.func75 z0 rfl #[.string a0, .int .i64 a1_1] rfl z15 ?_; (with_reducible refine (spec_l8Split.calls kj16 a0 a1_1 t191 t192 _ A47.out).mono ?_); rintro e w49 ⟨v193, rfl, ho0, hb⟩; refine ⟨_, rfl, ?_⟩; have HO194 := aM (az ho0 (ap z17)); replace aH := aM (bK_ aH.out hb); replace HB := aM (ao z17 hb); (try clear hb); (try clear ho0)))
       go_ret2
       exact ⟨_, y4, by (with_reducible repeat (first | apply ac | apply ab | apply aa)); exact HO194.out, y25⟩
      ·exact absurd HKD.out eI
 ·exact absurd (A3.out.symm.trans HTR.out) (fun e_ => c4 (sI e_))
set_option maxHeartbeats 8000000 in
set_option maxRecDepth 100000 in
theorem spec_l8Op.calls6 (k : Nat) (a0 : ByteArray) (a1_0 : Int) (a1_1 : Int) (a1_2 : Int) (a1_3 : ByteArray) (r1 : List (S61)) (r2 : Bool) (w : World) (HTR : Aside0 (spec_l1In.f a1_1 0 (a0.size : Int) = some true)) (HKD : Aside0 (a1_0 = 6)) (h : spec_l8Op.f k a0 a1_0 a1_1 a1_2 a1_3 = some (r1, r2)) :
  Calls Try.prog 53 #[.string a0, .agg #[.int .i64 a1_0, .int .i64 a1_1, .int .i64 a1_2, .string a1_3]] w fun e w' => ∃ v0_ : Value, e = .returned (.tuple #[v0_, .bool r2]) ∧ Kd.R k61 61 w' w.heap.size (fun _ => True) v0_ r1 ∧ Below w.heap.size w w' := by
 have hu29 := Try.underlying29
 have hu61 := Try.underlying61
 have HB := aM (Below.refl w.heap.size w)
 have H : ((spec_l1In.f a1_1 0 (a0.size : Int)).bind fun dE => (if dE = true then (if a1_0 = 1 then ((spec_l3Splice.f k a0 a1_1 a1_1 a1_3).bind fun ei => (if a1_3.toList = ([] : List UInt8) then (some (ei, false)) else ((spec_GoodText.f k a1_3).bind fun gf => (some (ei, gf))))) else (if a1_0 = 2 then (spec_l8Op.j0 k a0 a1_0 (a1_0 == 2) a1_0 a1_1 a1_2 a1_3) else (spec_l8Op.j0 k a0 a1_0 (a1_0 == 3) a1_0 a1_1 a1_2 a1_3))) else (some (([] : List (S61)), false)))) = some (r1, r2) := h
 clear h
 obtain ⟨dE, A3, H⟩ := oA_ H
 try dsimp only at H
 by_cases c4 : dE = true
 ·subst c4
  rw [if_pos rfl] at H
  by_cases c5 : a1_0 = 1
  ·exact absurd c5 (by have := HKD.out; omega)
  ·rw [if_neg c5] at H
   have c5b0 : (a1_0 == 1) = false := qF c5
   have c5b1 : (a1_0 != 1) = true := nT c5
   have gm := aM H
   clear H
   go_enter Try.func53, Try.ntmps53
   go_upto_if 33 with (first | ((with_reducible refine aw (N := 3) rfl ?_); (try (refine gate_guard (by rfl) ?_; dsimp only)); refine ax ?hg (N := 3) ?hd (cs := #[.int .i64 a1_0, .int .i64 a1_1, .int .i64 a1_2, .string a1_3]) (t := 29) ?hr ?_; (case hd => rfl); (case hg => rfl); (case hr => first | (go_simp; done) | (go_simp; rfl)); intro aT hg w18 hbox hb; have aH := aM (hbox); have km := aM ((by rw [hg]; exact (ap z14) : w.heap.size ≤ aT)); have kr := aM ((by rw [hg]; exact (ap z14) : w.heap.size ≤ aT)); replace HB := aM (ao z14 hb); clear hb hbox hg; obtain ⟨eB, eA, ez, ey, ex, ew, ev, eu⟩ := cc4 aH.out) | ((with_reducible refine av (f := 71) rfl ?_); refine ay (some 11) rfl rfl Try.func71 z0 rfl #[.int .i64 a1_1, .int .i64 0, .int .i64 (a0.size : Int)] rfl z15 ?_; (with_reducible refine (spec_l1In.calls a1_1 0 (a0.size : Int) true _ A3.out).mono ?_); rintro e w' ⟨rfl, ⟨nd, rfl⟩⟩; refine ⟨_, rfl, ?_⟩))
   (try simp only [Act.put, sA, sB, sC])
   go_cut [33] (fun v33 wc => ∃ (kq : Nat) (x33_16 : Bool), v33 = .bool x33_16 ∧ Aside0 (x33_16 = true ↔ (a1_0 = 2 ∨ a1_0 = 3)) ∧ Aside0 (spec_l8Op.j0 kq a0 a1_0 x33_16 a1_0 a1_1 a1_2 a1_3 = some (r1, r2)) ∧ Aside0 (kq ≤ k) ∧ Aside0 (wc.heap[aT]? = some (.cells #[.int .i64 a1_0, .int .i64 a1_1, .int .i64 a1_2, .string a1_3] 29 (0, 0))) ∧ Aside0 (Below w.heap.size w wc))
   case first =>
    have H := gm.out
    clear gm
    by_cases cx : a1_0 = 2
    ·rw [if_pos cx] at H
     have c20b0 : (a1_0 == 2) = true := qT cx
     have c20b1 : (a1_0 != 2) = false := nF cx
     clear cx
     (first | rw [c20b0] | (simp only [i64_w, i32_w]; rw [c20b0]) | skip)
     have H' := aM H
     clear H
     go_wp2
     go_meet
     case rel => exact ⟨_, ((a1_0 == 2)), z1, ⟨⟨fun h_ => .inl (beq_iff_eq.mp h_), fun _ => c20b0⟩⟩, H', ⟨y0⟩, ⟨y16⟩, ⟨y25⟩⟩
    ·rw [if_neg cx] at H
     have c20b0 : (a1_0 == 2) = false := qF cx
     have c20b1 : (a1_0 != 2) = true := nT cx
     (first | rw [c20b0] | (simp only [i64_w, i32_w]; rw [c20b0]) | skip)
     have H' := aM H
     clear H
     go_wp2
     go_meet
     case rel => exact ⟨_, ((a1_0 == 3)), z1, ⟨⟨fun h_ => .inr (beq_iff_eq.mp h_), fun h_ => h_.elim (fun e_ => absurd (qT e_) (by rw [c20b0]; decide)) (fun e_ => qT e_)⟩⟩, H', ⟨y0⟩, ⟨y16⟩, ⟨y25⟩⟩
   case rest =>
    clear gm
    try clear c4
    try clear c5
    try clear c5b0
    try clear c5b1
    try clear eB
    try clear eA
    try clear ez
    try clear ey
    try clear ex
    try clear ew
    try clear ev
    try clear eu
    obtain ⟨kq, x33_16, rfl, HX33, HA, nf, aH, HB⟩ := hcut
    cases kq with
    | zero => exact absurd HA.out (by simp [spec_l8Op.j0])
    | succ kj16 =>
     have H := HA.out
     clear HA
     simp only [spec_l8Op.j0] at H
     by_cases ea : x33_16 = true
     ·exact absurd (HX33.out.mp ea) (by have := HKD.out; omega)
     ·replace ea := Bool.eq_false_iff.mpr ea
      subst ea
      rw [if_neg nF_] at H
      by_cases eI : a1_0 = 5
      ·exact absurd eI (by have := HKD.out; omega)
      ·rw [if_neg eI] at H
       have c46b0 : (a1_0 == 5) = false := qF eI
       have c46b1 : (a1_0 != 5) = true := nT eI
       by_cases pd : a1_0 = 6
       ·rw [if_pos pd] at H
        have c50b0 : (a1_0 == 6) = true := qT pd
        have c50b1 : (a1_0 != 6) = false := nF pd
        clear pd
        by_cases oV : a1_1 = 0
        ·rw [if_pos oV] at H
         have c51b0 : (a1_1 == 0) = true := qT oV
         have c51b1 : (a1_1 != 0) = false := nF oV
         clear oV
         simp only [Option.some.injEq, Prod.mk.injEq] at H
         obtain ⟨rfl, rfl⟩ := H
         try go_wp2
         replace aH := aM (ai aH.out)
         replace HB := aM (bD HB.out)
         refine start_ (n := 40) (S := fun w' => w'.cell? ⟨aT, 0, none⟩ = some (.int .i64 a1_0) ∧ w'.cell? ⟨aT, 1, none⟩ = some (.int .i64 a1_1) ∧ w'.cell? ⟨aT, 2, none⟩ = some (.int .i64 a1_2) ∧ w'.cell? ⟨aT, 3, none⟩ = some (.string a1_3)) (ds := []) #[false, false, false, false, false, false, false, false, false, false, false, false, false, false, false, false, false, false, false, false, false, false, false, false, false, false, false, false, false, false, false, false, false, false, false, false, false, false, false, false] z0 rfl rfl ⟨(bC aH.out 0).trans rfl, (bC aH.out 1).trans rfl, (bC aH.out 2).trans rfl, (bC aH.out 3).trans rfl⟩ (fun hHeld => ?_); refine with_tabW spec_l8Op.tab18 spec_l8Op.bits18 (fun HT_ HW_ => ?_)
         generalize wc.drew = w52 at aH HB hHeld ⊢
         refine pA 0 103 ?_
         refine t4_ 1 104 ?_
         refine pA 2 105 ?_
         refine pA 3 106 ?_
         refine pB 4 107 ?_
         refine pB 5 108 ?_
         refine pB 6 109 ?_
         refine pB 7 110 ?_
         refine pB 8 111 ?_
         refine pA 9 112 ?_
         refine pA 10 113 ?_
         refine pB 11 114 ?_
         refine pB 12 115 ?_
         refine pB 13 116 ?_
         refine pB 14 117 ?_
         refine pB 15 118 ?_
         refine pB 16 119 ?_
         refine pA 17 120 ?_
         refine pA 18 121 ?_
         refine pB 19 122 ?_
         refine pB 20 123 ?_
         refine pB 21 124 ?_
         refine pB 22 125 ?_
         refine pB 23 126 ?_
         refine pB 24 127 ?_
         refine pA 25 128 ?_
         refine pA 26 129 ?_
         refine pB 27 130 ?_
         refine pB 28 131 ?_
         refine pB 29 132 ?_
         refine pB 30 133 ?_
         refine pB 31 134 ?_
         refine pB 32 135 ?_
         refine pB 33 136 ?_
         refine pB 34 137 ?_
         refine pB 35 138 ?_
         refine pB 36 139 ?_
         refine pB 37 140 ?_
         refine pB 38 141 ?_
         refine pA 39 142 ?_
         refine done_ (done_of HT_.out z0) ?_
         try go_wp2
         go_ret2
         exact ⟨_, y4, y28, y25⟩
        ·rw [if_neg oV] at H
         have c51b0 : (a1_1 == 0) = false := qF oV
         have c51b1 : (a1_1 != 0) = true := nT oV
         by_cases fm : a1_1 = (a0.size : Int)
         ·rw [if_pos fm] at H
          have c53b0 : (a1_1 == (a0.size : Int)) = true := qT fm
          have c53b1 : (a1_1 != (a0.size : Int)) = false := nF fm
          clear fm
          simp only [Option.some.injEq, Prod.mk.injEq] at H
          obtain ⟨rfl, rfl⟩ := H
          try go_wp2
          replace aH := aM (ai aH.out)
          replace HB := aM (bD HB.out)
          refine start_ (n := 40) (S := fun w' => w'.cell? ⟨aT, 0, none⟩ = some (.int .i64 a1_0) ∧ w'.cell? ⟨aT, 1, none⟩ = some (.int .i64 a1_1) ∧ w'.cell? ⟨aT, 2, none⟩ = some (.int .i64 a1_2) ∧ w'.cell? ⟨aT, 3, none⟩ = some (.string a1_3)) (ds := []) #[false, false, false, false, false, false, false, false, false, false, false, false, false, false, false, false, false, false, false, false, false, false, false, false, false, false, false, false, false, false, false, false, false, false, false, false, false, false, false, false] z0 rfl rfl ⟨(bC aH.out 0).trans rfl, (bC aH.out 1).trans rfl, (bC aH.out 2).trans rfl, (bC aH.out 3).trans rfl⟩ (fun hHeld => ?_); refine with_tabW spec_l8Op.tab18 spec_l8Op.bits18 (fun HT_ HW_ => ?_)
          generalize wc.drew = w54 at aH HB hHeld ⊢
          refine pA 0 103 ?_
          refine t4_ 1 104 ?_
          refine pA 2 105 ?_
          refine pA 3 106 ?_
          refine pA 4 107 ?_
          refine pA 6 109 ?_
          refine pA 7 110 ?_
          refine t4_ 5 108 ?_
          refine pA 8 111 ?_
          refine pA 9 112 ?_
          refine pA 10 113 ?_
          refine pB 11 114 ?_
          refine pB 12 115 ?_
          refine pB 13 116 ?_
          refine pB 14 117 ?_
          refine pB 15 118 ?_
          refine pB 16 119 ?_
          refine pA 17 120 ?_
          refine pA 18 121 ?_
          refine pB 19 122 ?_
          refine pB 20 123 ?_
          refine pB 21 124 ?_
          refine pB 22 125 ?_
          refine pB 23 126 ?_
          refine pB 24 127 ?_
          refine pA 25 128 ?_
          refine pA 26 129 ?_
          refine pB 27 130 ?_
          refine pB 28 131 ?_
          refine pB 29 132 ?_
          refine pB 30 133 ?_
          refine pB 31 134 ?_
          refine pB 32 135 ?_
          refine pB 33 136 ?_
          refine pB 34 137 ?_
          refine pB 35 138 ?_
          refine pB 36 139 ?_
          refine pB 37 140 ?_
          refine pB 38 141 ?_
          refine pA 39 142 ?_
          refine done_ (done_of HT_.out z0) ?_
          try go_wp2
          go_ret2
          exact ⟨_, y4, y28, y25⟩
         ·rw [if_neg fm] at H
          have c53b0 : (a1_1 == (a0.size : Int)) = false := qF fm
          have c53b1 : (a1_1 != (a0.size : Int)) = true := nT fm
          obtain ⟨cE, j8⟩ : ∃ j_ : Int, (wrap64 (a1_1 - 1)) = j_ := ⟨_, rfl⟩
          replace H : (if 0 ≤ (cE) then (if (cE) < (a0.size : Int) then (if (bt a0 (cE)) = 47 then (if 0 ≤ a1_1 then (if a1_1 < (a0.size : Int) then ((spec_l1Open.f (bt a0 a1_1)).bind fun pV => (if pV = true then ((spec_l1Match.f kj16 a0 (cE)).bind fun dD => (if 0 ≤ dD then (if dD < (a0.size : Int) then (if (bt a0 dD) = (bt a0 a1_1) then ((spec_l3Splice.f kj16 a0 (cE) (wrap64 (a1_1 + 1)) (⟨#[]⟩ : ByteArray)).bind fun pU => (some (pU, true))) else (some (([] : List (S61)), false))) else (none)) else (none))) else (some (([] : List (S61)), false)))) else (none)) else (none)) else (some (([] : List (S61)), false))) else (none)) else (none)) = some (r1, r2) := by first | (rw [j8] at H; exact H) | (simp only [j8] at H ⊢; exact H)
          have hji55w : (IntKind.i64.wrap (a1_1 - 1)) = cE := (i64_w _).trans j8
          by_cases i4 : 0 ≤ (cE)
          ·rw [if_pos i4] at H
           have c56b0 : decide (0 ≤ (cE)) = true := dT i4
           clear i4
           by_cases hX : (cE) < (a0.size : Int)
           ·rw [if_pos hX] at H
            have c57b0 : decide ((cE) < (a0.size : Int)) = true := dT hX
            clear hX
            by_cases k4 : (bt a0 (cE)) = 47
            ·rw [if_pos k4] at H
             have c59b0 : ((bt a0 (cE)) == 47) = true := qT k4
             have c59b1 : ((bt a0 (cE)) != 47) = false := nF k4
             clear k4
             by_cases ie : 0 ≤ a1_1
             ·rw [if_pos ie] at H
              have c60b0 : decide (0 ≤ a1_1) = true := dT ie
              clear ie
              by_cases k0 : a1_1 < (a0.size : Int)
              ·rw [if_pos k0] at H
               have c61b0 : decide (a1_1 < (a0.size : Int)) = true := dT k0
               clear k0
               obtain ⟨pV, tM, H⟩ := oA_ H
               try dsimp only at H
               by_cases pg : pV = true
               ·subst pg
                rw [if_pos rfl] at H
                obtain ⟨dD, wl, H⟩ := oA_ H
                try dsimp only at H
                by_cases qi : 0 ≤ dD
                ·rw [if_pos qi] at H
                 have c66b0 : decide (0 ≤ dD) = true := dT qi
                 clear qi
                 by_cases pc : dD < (a0.size : Int)
                 ·rw [if_pos pc] at H
                  have c67b0 : decide (dD < (a0.size : Int)) = true := dT pc
                  clear pc
                  by_cases rp : (bt a0 dD) = (bt a0 a1_1)
                  ·rw [if_pos rp] at H
                   have c70b0 : ((bt a0 dD) == (bt a0 a1_1)) = true := qT rp
                   have c70b1 : ((bt a0 dD) != (bt a0 a1_1)) = false := nF rp
                   clear rp
                   obtain ⟨pU, A71, H⟩ := oA_ H
                   try dsimp only at H
                   simp only [Option.some.injEq, Prod.mk.injEq] at H
                   obtain ⟨rfl, rfl⟩ := H
                   try go_wp2
                   replace aH := aM (ai aH.out)
                   replace HB := aM (bD HB.out)
                   have p58 : 0 ≤ ((cE) : Int) := oD z2
                   have q58 : (cE) < (a0.size : Int) := oD z2
                   have hx58 := bt_at a0 (cE)
                   replace p58 := eq_true p58
                   replace q58 := eq_true q58
                   have p62 : 0 ≤ (a1_1 : Int) := oD z2
                   have q62 : a1_1 < (a0.size : Int) := oD z2
                   have hx62 := bt_at a0 a1_1
                   replace p62 := eq_true p62
                   replace q62 := eq_true q62
                   refine start_ (n := 40) (S := fun w' => w'.cell? ⟨aT, 0, none⟩ = some (.int .i64 a1_0) ∧ w'.cell? ⟨aT, 1, none⟩ = some (.int .i64 a1_1) ∧ w'.cell? ⟨aT, 2, none⟩ = some (.int .i64 a1_2) ∧ w'.cell? ⟨aT, 3, none⟩ = some (.string a1_3)) (ds := []) #[false, false, false, false, false, false, false, false, false, false, false, false, false, false, false, false, false, false, false, false, false, false, false, false, false, false, false, false, false, false, false, false, false, false, false, false, false, false, false, false] z0 rfl rfl ⟨(bC aH.out 0).trans rfl, (bC aH.out 1).trans rfl, (bC aH.out 2).trans rfl, (bC aH.out 3).trans rfl⟩ (fun hHeld => ?_); refine with_tabW spec_l8Op.tab18 spec_l8Op.bits18 (fun HT_ HW_ => ?_)
                   generalize wc.drew = w72 at aH HB hHeld ⊢
                   refine pA 0 103 ?_
                   refine t4_ 1 104 ?_
                   refine pA 2 105 ?_
                   refine pA 3 106 ?_
                   refine pA 4 107 ?_
                   refine pA 6 109 ?_
                   refine pA 7 110 ?_
                   refine t4_ 5 108 ?_
                   refine pA 8 111 ?_
                   refine pA 9 112 ?_
                   refine pA 10 113 ?_
                   refine pA 11 114 ?_
                   refine pA 12 115 ?_
                   refine t4_ 13 116 ?_
                   refine pA 14 117 ?_
                   refine t4_ 15 118 ?_
                   refine pA 16 119 ?_
                   refine pA 17 120 ?_
                   refine pA 18 121 ?_
                   refine pA 19 122 ?_
                   refine pA 20 123 ?_
                   refine t4_ 21 124 ?_
                   refine t4_ 22 125 ?_
                   refine one_ (i := 23) (N := some 126) #[true, true, true, true, true, true, true, true, true, true, true, true, true, true, true, true, true, true, true, true, true, true, true, true, false, false, false, false, false, false, false, false, false, false, false, false, false, false, false, false] rfl rfl (one_of HT_.out z0) (by decide) (fun K hK => ?_)
                   refine goes_ Try.func29 z0 rfl #[.int .u8 (bt a0 a1_1)] (by rfl) rfl rfl z15 ?_
                   with_reducible refine (spec_l1Open.calls (bt a0 a1_1) true _ tM.out).mono ?_
                   rintro e w' ⟨rfl, ⟨nd, rfl⟩⟩
                   refine ⟨_, rfl, ?_⟩
                   refine hK.out _ _ ⟨(bC aH.out 0).trans rfl, (bC aH.out 1).trans rfl, (bC aH.out 2).trans rfl, (bC aH.out 3).trans rfl⟩ (fun hHeld => ?_)
                   clear hK K
                   refine norm_ (a' := ?_) ?_ ?_
                   rotate_left
                   ·show Act.put _ (some 126) _ = _
                    simp only [Act.put, sA, sB, sC, i64_w, i32_w]
                    rfl
                   refine pA 24 127 ?_
                   refine pA 25 128 ?_
                   refine pA 26 129 ?_
                   refine pA 27 130 ?_
                   refine pA 28 131 ?_
                   refine pA 29 132 ?_
                   refine pA 34 137 ?_
                   refine pA 35 138 ?_
                   refine t4_ 30 133 ?_
                   refine pA 31 134 ?_
                   refine t4_ 36 139 ?_
                   refine t4_ 37 140 ?_
                   refine one_ (i := 32) (N := some 135) #[true, true, true, true, true, true, true, true, true, true, true, true, true, true, true, true, true, true, true, true, true, true, true, true, true, true, true, true, true, true, true, true, true, false, true, true, true, true, false, false] rfl rfl (one_of HT_.out z0) (by decide) (fun K hK => ?_)
                   refine goes_ Try.func31 z0 rfl #[.string a0, .int .i64 cE] (by rfl) rfl rfl (by (try simp only [List.map_toArray, List.map_cons, List.map_nil]); first | done | (simp only [j8]; rfl) | rfl | (simp only [List.length_drop, List.length_take]; rfl)) ?_
                   with_reducible refine (spec_l1Match.calls kj16 a0 cE dD _ wl.out).mono ?_
                   rintro e w' ⟨rfl, ⟨nd, rfl⟩⟩
                   refine ⟨_, rfl, ?_⟩
                   have p68 : 0 ≤ (dD : Int) := oD z2
                   have q68 : dD < (a0.size : Int) := oD z2
                   have hx68 := bt_at a0 dD
                   replace p68 := eq_true p68
                   replace q68 := eq_true q68
                   have p69 : 0 ≤ (a1_1 : Int) := oD z2
                   have q69 : a1_1 < (a0.size : Int) := oD z2
                   have hx69 := bt_at a0 a1_1
                   replace p69 := eq_true p69
                   replace q69 := eq_true q69
                   refine hK.out _ _ ⟨(bC aH.out 0).trans rfl, (bC aH.out 1).trans rfl, (bC aH.out 2).trans rfl, (bC aH.out 3).trans rfl⟩ (fun hHeld => ?_)
                   clear hK K
                   refine norm_ (a' := ?_) ?_ ?_
                   rotate_left
                   ·show Act.put _ (some 135) _ = _
                    simp only [Act.put, sA, sB, sC, i64_w, i32_w]
                    rfl
                   refine t4_ 33 136 ?_
                   refine pA 38 141 ?_
                   refine pA 39 142 ?_
                   refine done_ (done_of HT_.out z0) ?_
                   obtain ⟨hcz73_0, hcz73_1, hcz73_2, hcz73_3, hfz73_0, hfz73_1, hfz73_2, hfz73_3⟩ := cc4 aH.out
                   try go_wp2_with (first | ((with_reducible refine av (f := 72) rfl ?_); refine ay (some 150) rfl rfl Try.func72 z0 rfl #[.string a0, .int .i64 cE, .int .i64 (wrap64 (a1_1 + 1)), .string ⟨#[]⟩] rfl (by (try simp only [List.map_toArray, List.map_cons, List.map_nil]); first | done | (simp only [j8]; rfl) | rfl | (simp only [List.length_drop, List.length_take]; rfl)) ?_; (with_reducible refine (spec_l3Splice.calls kj16 a0 cE (wrap64 (a1_1 + 1)) (⟨#[]⟩ : ByteArray) pU _ A71.out).mono ?_); rintro e w74 ⟨v198, rfl, ho0, hb⟩; refine ⟨_, rfl, ?_⟩; have HO199 := aM (az ho0 (ap z17)); replace aH := aM (bK_ aH.out hb); replace HB := aM (ao z17 hb); (try clear hb); (try clear ho0)))
                   go_ret2
                   exact ⟨_, y33, by (with_reducible repeat (first | apply ac | apply ab | apply aa)); exact HO199.out, y25⟩
                  ·rw [if_neg rp] at H
                   have c70b0 : ((bt a0 dD) == (bt a0 a1_1)) = false := qF rp
                   have c70b1 : ((bt a0 dD) != (bt a0 a1_1)) = true := nT rp
                   simp only [Option.some.injEq, Prod.mk.injEq] at H
                   obtain ⟨rfl, rfl⟩ := H
                   try go_wp2
                   replace aH := aM (ai aH.out)
                   replace HB := aM (bD HB.out)
                   have p58 : 0 ≤ ((cE) : Int) := oD z2
                   have q58 : (cE) < (a0.size : Int) := oD z2
                   have hx58 := bt_at a0 (cE)
                   replace p58 := eq_true p58
                   replace q58 := eq_true q58
                   have p62 : 0 ≤ (a1_1 : Int) := oD z2
                   have q62 : a1_1 < (a0.size : Int) := oD z2
                   have hx62 := bt_at a0 a1_1
                   replace p62 := eq_true p62
                   replace q62 := eq_true q62
                   refine start_ (n := 40) (S := fun w' => w'.cell? ⟨aT, 0, none⟩ = some (.int .i64 a1_0) ∧ w'.cell? ⟨aT, 1, none⟩ = some (.int .i64 a1_1) ∧ w'.cell? ⟨aT, 2, none⟩ = some (.int .i64 a1_2) ∧ w'.cell? ⟨aT, 3, none⟩ = some (.string a1_3)) (ds := []) #[false, false, false, false, false, false, false, false, false, false, false, false, false, false, false, false, false, false, false, false, false, false, false, false, false, false, false, false, false, false, false, false, false, false, false, false, false, false, false, false] z0 rfl rfl ⟨(bC aH.out 0).trans rfl, (bC aH.out 1).trans rfl, (bC aH.out 2).trans rfl, (bC aH.out 3).trans rfl⟩ (fun hHeld => ?_); refine with_tabW spec_l8Op.tab18 spec_l8Op.bits18 (fun HT_ HW_ => ?_)
                   generalize wc.drew = w75 at aH HB hHeld ⊢
                   refine pA 0 103 ?_
                   refine t4_ 1 104 ?_
                   refine pA 2 105 ?_
                   refine pA 3 106 ?_
                   refine pA 4 107 ?_
                   refine pA 6 109 ?_
                   refine pA 7 110 ?_
                   refine t4_ 5 108 ?_
                   refine pA 8 111 ?_
                   refine pA 9 112 ?_
                   refine pA 10 113 ?_
                   refine pA 11 114 ?_
                   refine pA 12 115 ?_
                   refine t4_ 13 116 ?_
                   refine pA 14 117 ?_
                   refine t4_ 15 118 ?_
                   refine pA 16 119 ?_
                   refine pA 17 120 ?_
                   refine pA 18 121 ?_
                   refine pA 19 122 ?_
                   refine pA 20 123 ?_
                   refine t4_ 21 124 ?_
                   refine t4_ 22 125 ?_
                   refine one_ (i := 23) (N := some 126) #[true, true, true, true, true, true, true, true, true, true, true, true, true, true, true, true, true, true, true, true, true, true, true, true, false, false, false, false, false, false, false, false, false, false, false, false, false, false, false, false] rfl rfl (one_of HT_.out z0) (by decide) (fun K hK => ?_)
                   refine goes_ Try.func29 z0 rfl #[.int .u8 (bt a0 a1_1)] (by rfl) rfl rfl z15 ?_
                   with_reducible refine (spec_l1Open.calls (bt a0 a1_1) true _ tM.out).mono ?_
                   rintro e w' ⟨rfl, ⟨nd, rfl⟩⟩
                   refine ⟨_, rfl, ?_⟩
                   refine hK.out _ _ ⟨(bC aH.out 0).trans rfl, (bC aH.out 1).trans rfl, (bC aH.out 2).trans rfl, (bC aH.out 3).trans rfl⟩ (fun hHeld => ?_)
                   clear hK K
                   refine norm_ (a' := ?_) ?_ ?_
                   rotate_left
                   ·show Act.put _ (some 126) _ = _
                    simp only [Act.put, sA, sB, sC, i64_w, i32_w]
                    rfl
                   refine pA 24 127 ?_
                   refine pA 25 128 ?_
                   refine pA 26 129 ?_
                   refine pA 27 130 ?_
                   refine pA 28 131 ?_
                   refine pA 29 132 ?_
                   refine pA 34 137 ?_
                   refine pA 35 138 ?_
                   refine t4_ 30 133 ?_
                   refine pA 31 134 ?_
                   refine t4_ 36 139 ?_
                   refine t4_ 37 140 ?_
                   refine one_ (i := 32) (N := some 135) #[true, true, true, true, true, true, true, true, true, true, true, true, true, true, true, true, true, true, true, true, true, true, true, true, true, true, true, true, true, true, true, true, true, false, true, true, true, true, false, false] rfl rfl (one_of HT_.out z0) (by decide) (fun K hK => ?_)
                   refine goes_ Try.func31 z0 rfl #[.string a0, .int .i64 cE] (by rfl) rfl rfl (by (try simp only [List.map_toArray, List.map_cons, List.map_nil]); first | done | (simp only [j8]; rfl) | rfl | (simp only [List.length_drop, List.length_take]; rfl)) ?_
                   with_reducible refine (spec_l1Match.calls kj16 a0 cE dD _ wl.out).mono ?_
                   rintro e w' ⟨rfl, ⟨nd, rfl⟩⟩
                   refine ⟨_, rfl, ?_⟩
                   have p68 : 0 ≤ (dD : Int) := oD z2
                   have q68 : dD < (a0.size : Int) := oD z2
                   have hx68 := bt_at a0 dD
                   replace p68 := eq_true p68
                   replace q68 := eq_true q68
                   have p69 : 0 ≤ (a1_1 : Int) := oD z2
                   have q69 : a1_1 < (a0.size : Int) := oD z2
                   have hx69 := bt_at a0 a1_1
                   replace p69 := eq_true p69
                   replace q69 := eq_true q69
                   refine hK.out _ _ ⟨(bC aH.out 0).trans rfl, (bC aH.out 1).trans rfl, (bC aH.out 2).trans rfl, (bC aH.out 3).trans rfl⟩ (fun hHeld => ?_)
                   clear hK K
                   refine norm_ (a' := ?_) ?_ ?_
                   rotate_left
                   ·show Act.put _ (some 135) _ = _
                    simp only [Act.put, sA, sB, sC, i64_w, i32_w]
                    rfl
                   refine t4_ 33 136 ?_
                   refine pA 38 141 ?_
                   refine pA 39 142 ?_
                   refine done_ (done_of HT_.out z0) ?_
                   try go_wp2
                   go_ret2
                   exact ⟨_, y33, y28, y25⟩
                 ·rw [if_neg pc] at H
                  exact absurd H (by simp)
                ·rw [if_neg qi] at H
                 exact absurd H (by simp)
               ·replace pg := Bool.eq_false_iff.mpr pg
                subst pg
                rw [if_neg nF_] at H
                simp only [Option.some.injEq, Prod.mk.injEq] at H
                obtain ⟨rfl, rfl⟩ := H
                try go_wp2
                replace aH := aM (ai aH.out)
                replace HB := aM (bD HB.out)
                have p58 : 0 ≤ ((cE) : Int) := oD z2
                have q58 : (cE) < (a0.size : Int) := oD z2
                have hx58 := bt_at a0 (cE)
                replace p58 := eq_true p58
                replace q58 := eq_true q58
                have p62 : 0 ≤ (a1_1 : Int) := oD z2
                have q62 : a1_1 < (a0.size : Int) := oD z2
                have hx62 := bt_at a0 a1_1
                replace p62 := eq_true p62
                replace q62 := eq_true q62
                refine start_ (n := 40) (S := fun w' => w'.cell? ⟨aT, 0, none⟩ = some (.int .i64 a1_0) ∧ w'.cell? ⟨aT, 1, none⟩ = some (.int .i64 a1_1) ∧ w'.cell? ⟨aT, 2, none⟩ = some (.int .i64 a1_2) ∧ w'.cell? ⟨aT, 3, none⟩ = some (.string a1_3)) (ds := []) #[false, false, false, false, false, false, false, false, false, false, false, false, false, false, false, false, false, false, false, false, false, false, false, false, false, false, false, false, false, false, false, false, false, false, false, false, false, false, false, false] z0 rfl rfl ⟨(bC aH.out 0).trans rfl, (bC aH.out 1).trans rfl, (bC aH.out 2).trans rfl, (bC aH.out 3).trans rfl⟩ (fun hHeld => ?_); refine with_tabW spec_l8Op.tab18 spec_l8Op.bits18 (fun HT_ HW_ => ?_)
                generalize wc.drew = w76 at aH HB hHeld ⊢
                refine pA 0 103 ?_
                refine t4_ 1 104 ?_
                refine pA 2 105 ?_
                refine pA 3 106 ?_
                refine pA 4 107 ?_
                refine pA 6 109 ?_
                refine pA 7 110 ?_
                refine t4_ 5 108 ?_
                refine pA 8 111 ?_
                refine pA 9 112 ?_
                refine pA 10 113 ?_
                refine pA 11 114 ?_
                refine pA 12 115 ?_
                refine t4_ 13 116 ?_
                refine pA 14 117 ?_
                refine t4_ 15 118 ?_
                refine pA 16 119 ?_
                refine pA 17 120 ?_
                refine pA 18 121 ?_
                refine pA 19 122 ?_
                refine pA 20 123 ?_
                refine t4_ 21 124 ?_
                refine t4_ 22 125 ?_
                refine one_ (i := 23) (N := some 126) #[true, true, true, true, true, true, true, true, true, true, true, true, true, true, true, true, true, true, true, true, true, true, true, true, false, false, false, false, false, false, false, false, false, false, false, false, false, false, false, false] rfl rfl (one_of HT_.out z0) (by decide) (fun K hK => ?_)
                refine goes_ Try.func29 z0 rfl #[.int .u8 (bt a0 a1_1)] (by rfl) rfl rfl z15 ?_
                with_reducible refine (spec_l1Open.calls (bt a0 a1_1) false _ tM.out).mono ?_
                rintro e w' ⟨rfl, ⟨nd, rfl⟩⟩
                refine ⟨_, rfl, ?_⟩
                refine hK.out _ _ ⟨(bC aH.out 0).trans rfl, (bC aH.out 1).trans rfl, (bC aH.out 2).trans rfl, (bC aH.out 3).trans rfl⟩ (fun hHeld => ?_)
                clear hK K
                refine norm_ (a' := ?_) ?_ ?_
                rotate_left
                ·show Act.put _ (some 126) _ = _
                 simp only [Act.put, sA, sB, sC, i64_w, i32_w]
                 rfl
                refine pA 24 127 ?_
                refine pA 25 128 ?_
                refine pA 26 129 ?_
                refine pB 27 130 ?_
                refine pB 28 131 ?_
                refine pB 29 132 ?_
                refine pB 30 133 ?_
                refine pB 31 134 ?_
                refine pB 32 135 ?_
                refine pB 33 136 ?_
                refine pB 34 137 ?_
                refine pB 35 138 ?_
                refine pB 36 139 ?_
                refine pB 37 140 ?_
                refine pB 38 141 ?_
                refine pA 39 142 ?_
                refine done_ (done_of HT_.out z0) ?_
                try go_wp2
                go_ret2
                exact ⟨_, y33, y28, y25⟩
              ·rw [if_neg k0] at H
               exact absurd H (by simp)
             ·rw [if_neg ie] at H
              exact absurd H (by simp)
            ·rw [if_neg k4] at H
             have c59b0 : ((bt a0 (cE)) == 47) = false := qF k4
             have c59b1 : ((bt a0 (cE)) != 47) = true := nT k4
             simp only [Option.some.injEq, Prod.mk.injEq] at H
             obtain ⟨rfl, rfl⟩ := H
             try go_wp2
             replace aH := aM (ai aH.out)
             replace HB := aM (bD HB.out)
             have p58 : 0 ≤ ((cE) : Int) := oD z2
             have q58 : (cE) < (a0.size : Int) := oD z2
             have hx58 := bt_at a0 (cE)
             replace p58 := eq_true p58
             replace q58 := eq_true q58
             refine start_ (n := 40) (S := fun w' => w'.cell? ⟨aT, 0, none⟩ = some (.int .i64 a1_0) ∧ w'.cell? ⟨aT, 1, none⟩ = some (.int .i64 a1_1) ∧ w'.cell? ⟨aT, 2, none⟩ = some (.int .i64 a1_2) ∧ w'.cell? ⟨aT, 3, none⟩ = some (.string a1_3)) (ds := []) #[false, false, false, false, false, false, false, false, false, false, false, false, false, false, false, false, false, false, false, false, false, false, false, false, false, false, false, false, false, false, false, false, false, false, false, false, false, false, false, false] z0 rfl rfl ⟨(bC aH.out 0).trans rfl, (bC aH.out 1).trans rfl, (bC aH.out 2).trans rfl, (bC aH.out 3).trans rfl⟩ (fun hHeld => ?_); refine with_tabW spec_l8Op.tab18 spec_l8Op.bits18 (fun HT_ HW_ => ?_)
             generalize wc.drew = w77 at aH HB hHeld ⊢
             refine pA 0 103 ?_
             refine t4_ 1 104 ?_
             refine pA 2 105 ?_
             refine pA 3 106 ?_
             refine pA 4 107 ?_
             refine pA 6 109 ?_
             refine pA 7 110 ?_
             refine t4_ 5 108 ?_
             refine pA 8 111 ?_
             refine pA 9 112 ?_
             refine pA 10 113 ?_
             refine pA 11 114 ?_
             refine pA 12 115 ?_
             refine t4_ 13 116 ?_
             refine pA 14 117 ?_
             refine t4_ 15 118 ?_
             refine pA 16 119 ?_
             refine pA 17 120 ?_
             refine pA 18 121 ?_
             refine pB 19 122 ?_
             refine pB 20 123 ?_
             refine pB 21 124 ?_
             refine pB 22 125 ?_
             refine pB 23 126 ?_
             refine pB 24 127 ?_
             refine pA 25 128 ?_
             refine pA 26 129 ?_
             refine pB 27 130 ?_
             refine pB 28 131 ?_
             refine pB 29 132 ?_
             refine pB 30 133 ?_
             refine pB 31 134 ?_
             refine pB 32 135 ?_
             refine pB 33 136 ?_
             refine pB 34 137 ?_
             refine pB 35 138 ?_
             refine pB 36 139 ?_
             refine pB 37 140 ?_
             refine pB 38 141 ?_
             refine pA 39 142 ?_
             refine done_ (done_of HT_.out z0) ?_
             try go_wp2
             go_ret2
             exact ⟨_, y33, y28, y25⟩
           ·rw [if_neg hX] at H
            exact absurd H (by simp)
          ·rw [if_neg i4] at H
           exact absurd H (by simp)
       ·exact absurd HKD.out pd
 ·exact absurd (A3.out.symm.trans HTR.out) (fun e_ => c4 (sI e_))
set_option maxHeartbeats 8000000 in
set_option maxRecDepth 100000 in
theorem spec_l8Op.callsO (k : Nat) (a0 : ByteArray) (a1_0 : Int) (a1_1 : Int) (a1_2 : Int) (a1_3 : ByteArray) (r1 : List (S61)) (r2 : Bool) (w : World) (HTR : Aside0 (spec_l1In.f a1_1 0 (a0.size : Int) = some true)) (HKD : Aside0 (a1_0 ≠ 1 ∧ a1_0 ≠ 2 ∧ a1_0 ≠ 3 ∧ a1_0 ≠ 5 ∧ a1_0 ≠ 6)) (h : spec_l8Op.f k a0 a1_0 a1_1 a1_2 a1_3 = some (r1, r2)) :
  Calls Try.prog 53 #[.string a0, .agg #[.int .i64 a1_0, .int .i64 a1_1, .int .i64 a1_2, .string a1_3]] w fun e w' => ∃ v0_ : Value, e = .returned (.tuple #[v0_, .bool r2]) ∧ Kd.R k61 61 w' w.heap.size (fun _ => True) v0_ r1 ∧ Below w.heap.size w w' := by
 have hu29 := Try.underlying29
 have hu61 := Try.underlying61
 have HB := aM (Below.refl w.heap.size w)
 have H : ((spec_l1In.f a1_1 0 (a0.size : Int)).bind fun dE => (if dE = true then (if a1_0 = 1 then ((spec_l3Splice.f k a0 a1_1 a1_1 a1_3).bind fun ei => (if a1_3.toList = ([] : List UInt8) then (some (ei, false)) else ((spec_GoodText.f k a1_3).bind fun gf => (some (ei, gf))))) else (if a1_0 = 2 then (spec_l8Op.j0 k a0 a1_0 (a1_0 == 2) a1_0 a1_1 a1_2 a1_3) else (spec_l8Op.j0 k a0 a1_0 (a1_0 == 3) a1_0 a1_1 a1_2 a1_3))) else (some (([] : List (S61)), false)))) = some (r1, r2) := h
 clear h
 obtain ⟨dE, A3, H⟩ := oA_ H
 try dsimp only at H
 by_cases c4 : dE = true
 ·subst c4
  rw [if_pos rfl] at H
  by_cases c5 : a1_0 = 1
  ·exact absurd c5 (by have := HKD.out; omega)
  ·rw [if_neg c5] at H
   have c5b0 : (a1_0 == 1) = false := qF c5
   have c5b1 : (a1_0 != 1) = true := nT c5
   have gm := aM H
   clear H
   go_enter Try.func53, Try.ntmps53
   go_upto_if 33 with (first | ((with_reducible refine aw (N := 3) rfl ?_); (try (refine gate_guard (by rfl) ?_; dsimp only)); refine ax ?hg (N := 3) ?hd (cs := #[.int .i64 a1_0, .int .i64 a1_1, .int .i64 a1_2, .string a1_3]) (t := 29) ?hr ?_; (case hd => rfl); (case hg => rfl); (case hr => first | (go_simp; done) | (go_simp; rfl)); intro aT hg w18 hbox hb; have aH := aM (hbox); have km := aM ((by rw [hg]; exact (ap z14) : w.heap.size ≤ aT)); have kr := aM ((by rw [hg]; exact (ap z14) : w.heap.size ≤ aT)); replace HB := aM (ao z14 hb); clear hb hbox hg; obtain ⟨eB, eA, ez, ey, ex, ew, ev, eu⟩ := cc4 aH.out) | ((with_reducible refine av (f := 71) rfl ?_); refine ay (some 11) rfl rfl Try.func71 z0 rfl #[.int .i64 a1_1, .int .i64 0, .int .i64 (a0.size : Int)] rfl z15 ?_; (with_reducible refine (spec_l1In.calls a1_1 0 (a0.size : Int) true _ A3.out).mono ?_); rintro e w' ⟨rfl, ⟨nd, rfl⟩⟩; refine ⟨_, rfl, ?_⟩))
   (try simp only [Act.put, sA, sB, sC])
   go_cut [33] (fun v33 wc => ∃ (kq : Nat) (x33_16 : Bool), v33 = .bool x33_16 ∧ Aside0 (x33_16 = true ↔ (a1_0 = 2 ∨ a1_0 = 3)) ∧ Aside0 (spec_l8Op.j0 kq a0 a1_0 x33_16 a1_0 a1_1 a1_2 a1_3 = some (r1, r2)) ∧ Aside0 (kq ≤ k) ∧ Aside0 (wc.heap[aT]? = some (.cells #[.int .i64 a1_0, .int .i64 a1_1, .int .i64 a1_2, .string a1_3] 29 (0, 0))) ∧ Aside0 (Below w.heap.size w wc))
   case first =>
    have H := gm.out
    clear gm
    by_cases cx : a1_0 = 2
    ·rw [if_pos cx] at H
     have c20b0 : (a1_0 == 2) = true := qT cx
     have c20b1 : (a1_0 != 2) = false := nF cx
     clear cx
     (first | rw [c20b0] | (simp only [i64_w, i32_w]; rw [c20b0]) | skip)
     have H' := aM H
     clear H
     go_wp2
     go_meet
     case rel => exact ⟨_, ((a1_0 == 2)), z1, ⟨⟨fun h_ => .inl (beq_iff_eq.mp h_), fun _ => c20b0⟩⟩, H', ⟨y0⟩, ⟨y16⟩, ⟨y25⟩⟩
    ·rw [if_neg cx] at H
     have c20b0 : (a1_0 == 2) = false := qF cx
     have c20b1 : (a1_0 != 2) = true := nT cx
     (first | rw [c20b0] | (simp only [i64_w, i32_w]; rw [c20b0]) | skip)
     have H' := aM H
     clear H
     go_wp2
     go_meet
     case rel => exact ⟨_, ((a1_0 == 3)), z1, ⟨⟨fun h_ => .inr (beq_iff_eq.mp h_), fun h_ => h_.elim (fun e_ => absurd (qT e_) (by rw [c20b0]; decide)) (fun e_ => qT e_)⟩⟩, H', ⟨y0⟩, ⟨y16⟩, ⟨y25⟩⟩
   case rest =>
    clear gm
    try clear c4
    try clear c5
    try clear c5b0
    try clear c5b1
    try clear eB
    try clear eA
    try clear ez
    try clear ey
    try clear ex
    try clear ew
    try clear ev
    try clear eu
    obtain ⟨kq, x33_16, rfl, HX33, HA, nf, aH, HB⟩ := hcut
    cases kq with
    | zero => exact absurd HA.out (by simp [spec_l8Op.j0])
    | succ kj16 =>
     have H := HA.out
     clear HA
     simp only [spec_l8Op.j0] at H
     by_cases ea : x33_16 = true
     ·exact absurd (HX33.out.mp ea) (by have := HKD.out; omega)
     ·replace ea := Bool.eq_false_iff.mpr ea
      subst ea
      rw [if_neg nF_] at H
      by_cases eI : a1_0 = 5
      ·exact absurd eI (by have := HKD.out; omega)
      ·rw [if_neg eI] at H
       have c46b0 : (a1_0 == 5) = false := qF eI
       have c46b1 : (a1_0 != 5) = true := nT eI
       by_cases pd : a1_0 = 6
       ·exact absurd pd (by have := HKD.out; omega)
       ·rw [if_neg pd] at H
        have c50b0 : (a1_0 == 6) = false := qF pd
        have c50b1 : (a1_0 != 6) = true := nT pd
        have tq := aM H
        clear H
        go_upto_region 21 with (fail)
        go_cut [163] (fun v163 wc => ∃ (kq : Nat) (x163_77 : Bool), v163 = .bool x163_77 ∧ Aside0 (spec_l8Op.j2 kq a0 x163_77 a1_0 a1_1 a1_2 a1_3 = some (r1, r2)) ∧ Aside0 (kq ≤ kj16) ∧ Aside0 (wc.heap[aT]? = some (.cells #[.int .i64 a1_0, .int .i64 a1_1, .int .i64 a1_2, .string a1_3] 29 (0, 0))) ∧ Aside0 (Below w.heap.size w wc))
        case first =>
         have H := tq.out
         clear tq
         by_cases rJ : a1_1 = (a0.size : Int)
         ·rw [if_pos rJ] at H
          have c79b0 : (a1_1 == (a0.size : Int)) = true := qT rJ
          have c79b1 : (a1_1 != (a0.size : Int)) = false := nF rJ
          clear rJ
          (first | rw [c79b0] | (simp only [i64_w, i32_w]; rw [c79b0]) | skip)
          have H' := aM H
          clear H
          obtain ⟨hcz80_0, hcz80_1, hcz80_2, hcz80_3, hfz80_0, hfz80_1, hfz80_2, hfz80_3⟩ := cc4 aH.out
          go_wp2
          go_meet
          case rel => exact ⟨_, (true), z1, H', ⟨by have := nf.out; first | omega | exact Nat.le_refl _⟩, ⟨y16⟩, ⟨y25⟩⟩
         ·rw [if_neg rJ] at H
          have c79b0 : (a1_1 == (a0.size : Int)) = false := qF rJ
          have c79b1 : (a1_1 != (a0.size : Int)) = true := nT rJ
          (first | rw [c79b0] | (simp only [i64_w, i32_w]; rw [c79b0]) | skip)
          by_cases kY : 0 ≤ a1_1
          ·rw [if_pos kY] at H
           have c81b0 : decide (0 ≤ a1_1) = true := dT kY
           clear kY
           by_cases pb : a1_1 < (a0.size : Int)
           ·rw [if_pos pb] at H
            have c82b0 : decide (a1_1 < (a0.size : Int)) = true := dT pb
            clear pb
            obtain ⟨rE, A84, H⟩ := oA_ H
            try dsimp only at H
            have H' := aM H
            clear H
            obtain ⟨oa, n9, n8, hcz85_3, nt, nr, nq, hfz85_3⟩ := cc4 aH.out
            have p83 : 0 ≤ (a1_1 : Int) := oD z2
            have q83 : a1_1 < (a0.size : Int) := oD z2
            have hx83 := bt_at a0 a1_1
            replace p83 := eq_true p83
            replace q83 := eq_true q83
            go_wp2_with (first | (go_at_call 29; (with_reducible refine (spec_l1Open.calls (bt a0 a1_1) rE _ A84.out).mono ?_); rintro e w' ⟨rfl, ⟨nd, rfl⟩⟩))
            go_meet
            case rel => exact ⟨_, (!rE), z1, H', ⟨by have := nf.out; first | omega | exact Nat.le_refl _⟩, ⟨y16⟩, ⟨y25⟩⟩
           ·rw [if_neg pb] at H
            exact absurd H (by simp)
          ·rw [if_neg kY] at H
           exact absurd H (by simp)
        case rest =>
         clear tq
         try clear c5
         try clear pd
         try clear c50b0
         try clear c50b1
         obtain ⟨kq, x163_77, rfl, HA, HJ77, aH, HB⟩ := hcut
         cases kq with
         | zero => exact absurd HA.out (by simp [spec_l8Op.j2])
         | succ kj77 =>
          have H := HA.out
          clear HA
          simp only [spec_l8Op.j2] at H
          by_cases kW : x163_77 = true
          ·subst kW
           rw [if_pos rfl] at H
           simp only [Option.some.injEq, Prod.mk.injEq] at H
           obtain ⟨rfl, rfl⟩ := H
           go_wp2
           go_ret2
           exact ⟨_, y4, y28, y25⟩
          ·replace kW := Bool.eq_false_iff.mpr kW
           subst kW
           rw [if_neg nF_] at H
           obtain ⟨eh, tL, H⟩ := oA_ H
           try dsimp only at H
           by_cases tl : a1_0 = 4
           ·rw [if_pos tl] at H
            have c88b0 : (a1_0 == 4) = true := qT tl
            have c88b1 : (a1_0 != 4) = false := nF tl
            clear tl
            by_cases u9 : 0 ≤ a1_1
            ·rw [if_pos u9] at H
             have c89b0 := eq_true u9
             have c89b1 : decide (0 ≤ a1_1) = true := dT u9
             clear u9
             by_cases ro : a1_1 ≤ (wrap64 (a1_1 + 1))
             ·rw [if_pos ro] at H
              have c90b0 := eq_true ro
              have c90b1 : decide (a1_1 ≤ (wrap64 (a1_1 + 1))) = true := dT ro
              by_cases rn : (wrap64 (a1_1 + 1)) ≤ (a0.size : Int)
              ·rw [if_pos rn] at H
               have c91b0 := eq_true rn
               have c91b1 : decide ((wrap64 (a1_1 + 1)) ≤ (a0.size : Int)) = true := dT rn
               obtain ⟨y202, hy202⟩ : ∃ y_ : List (S61), y_ = (([(⟨a1_1, (⟨#[]⟩ : ByteArray), (⟨#[]⟩ : ByteArray)⟩ : S61), (⟨0, (⟨#[]⟩ : ByteArray), a0.extract (a1_1 : Int).toNat ((wrap64 (a1_1 + 1)) : Int).toNat⟩ : S61), (⟨wrap64 ((wrap64 (eh - a1_1)) - 1), (⟨#[]⟩ : ByteArray), (⟨#[]⟩ : ByteArray)⟩ : S61), (⟨0, (⟨#[]⟩ : ByteArray), (⟨#[47]⟩ : ByteArray)⟩ : S61), (⟨wrap64 ((wrap64 ((a0.size : Int) - eh)) - 1), (⟨#[]⟩ : ByteArray), (⟨#[]⟩ : ByteArray)⟩ : S61)] : List (S61))) := ⟨_, rfl⟩
               replace H : ((spec_l3Normal.f kj77 y202).bind fun pT => (some (pT, true))) = some (r1, r2) := by first | (rw [hy202]; with_reducible exact H) | (have H2_ := (Option.bind_some _ _).symm.trans H; rw [hy202]; with_reducible exact H2_) | (have H2_ := (Option.bind_some _ _).symm.trans H; with_reducible exact H2_) | with_reducible exact H | (rw [hy202]; exact H) | exact H
               have Ny202 := aM hy202
               clear hy202
               obtain ⟨pT, wz, H⟩ := oA_ H
               try dsimp only at H
               simp only [Option.some.injEq, Prod.mk.injEq] at H
               obtain ⟨rfl, rfl⟩ := H
               obtain ⟨hcz93_0, hcz93_1, hcz93_2, hcz93_3, hfz93_0, hfz93_1, hfz93_2, hfz93_3⟩ := cc4 aH.out
               try go_wp2_with (first | ((with_reducible refine av (f := 31) rfl ?_); refine ay (some 167) rfl rfl Try.func31 z0 rfl #[.string a0, .int .i64 a1_1] rfl z15 ?_; (with_reducible refine (spec_l1Match.calls kj77 a0 a1_1 eh _ tL.out).mono ?_); rintro e w' ⟨rfl, ⟨nd, rfl⟩⟩; refine ⟨_, rfl, ?_⟩))
               (try (rw [drewN_self wc]; generalize hq_ : World.drewN wc _ = wc; have aE : Aside0 (wc.heap[aT]? = some (.cells #[.int .i64 a1_0, .int .i64 a1_1, .int .i64 a1_2, .string a1_3] 29 (0, 0))) := ⟨by rw [← hq_]; exact z7⟩; have aG : Aside0 (Below w.heap.size w wc) := ⟨by rw [← hq_]; exact z17⟩; clear aH HB hq_; have aH := aE; have HB := aG; clear aE aG))
               replace aH := aM (ai aH.out)
               replace HB := aM (bD HB.out)
               refine start_ (n := 28) (S := fun w' => w'.cell? ⟨aT, 0, none⟩ = some (.int .i64 a1_0) ∧ w'.cell? ⟨aT, 1, none⟩ = some (.int .i64 a1_1) ∧ w'.cell? ⟨aT, 2, none⟩ = some (.int .i64 a1_2) ∧ w'.cell? ⟨aT, 3, none⟩ = some (.string a1_3)) (ds := []) #[false, false, false, false, false, false, false, false, false, false, false, false, false, false, false, false, false, false, false, false, false, false, false, false, false, false, false, false] z0 rfl rfl ⟨(bC aH.out 0).trans rfl, (bC aH.out 1).trans rfl, (bC aH.out 2).trans rfl, (bC aH.out 3).trans rfl⟩ (fun hHeld => ?_); refine with_tabW spec_l8Op.tab26 spec_l8Op.bits26 (fun HT_ HW_ => ?_)
               generalize wc.drew = w94 at aH HB hHeld ⊢
               refine pA 0 172 ?_
               refine pA 3 175 ?_
               refine pA 4 176 ?_
               refine pA 6 178 ?_
               refine pA 11 183 ?_
               refine pA 12 184 ?_
               refine pA 17 189 ?_
               refine pA 18 190 ?_
               refine pA 19 191 ?_
               refine pA 20 192 ?_
               refine pA 21 193 ?_
               refine pA 22 194 ?_
               refine pA 23 195 ?_
               refine t4_ 1 173 ?_
               refine pA 2 174 ?_
               refine t4_ 5 177 ?_
               refine t4_ 7 179 ?_
               refine pA 8 180 ?_
               refine pA 9 181 ?_
               refine pA 10 182 ?_
               refine t4_ 13 185 ?_
               refine pA 14 186 ?_
               refine pA 15 187 ?_
               refine pA 16 188 ?_
               refine one_ (i := 24) (N := some 196) #[true, true, true, true, true, true, true, true, true, true, true, true, true, true, true, true, true, true, true, true, true, true, true, true, true, false, false, false] rfl rfl (one_of HT_.out z0) (by decide) (fun K hK => ?_)
               refine Kd.R_lit_step k61 _ 61 ?hg (N := 196) ?hd (xs := ([(⟨a1_1, (⟨#[]⟩ : ByteArray), (⟨#[]⟩ : ByteArray)⟩ : S61), (⟨0, (⟨#[]⟩ : ByteArray), a0.extract (a1_1 : Int).toNat ((wrap64 (a1_1 + 1)) : Int).toNat⟩ : S61), (⟨wrap64 ((wrap64 (eh - a1_1)) - 1), (⟨#[]⟩ : ByteArray), (⟨#[]⟩ : ByteArray)⟩ : S61), (⟨0, (⟨#[]⟩ : ByteArray), (⟨#[47]⟩ : ByteArray)⟩ : S61), (⟨wrap64 ((wrap64 ((a0.size : Int) - eh)) - 1), (⟨#[]⟩ : ByteArray), (⟨#[]⟩ : ByteArray)⟩ : S61)] : List (S61))) (inner := [.int .i64 a1_1, .string ⟨#[]⟩, .string ⟨#[]⟩, .int .i64 0, .string ⟨#[]⟩, .string (a0.extract (a1_1 : Int).toNat ((wrap64 (a1_1 + 1)) : Int).toNat), .int .i64 (wrap64 ((wrap64 (eh - a1_1)) - 1)), .string ⟨#[]⟩, .string ⟨#[]⟩, .int .i64 0, .string ⟨#[]⟩, .string (⟨#[47]⟩ : ByteArray), .int .i64 (wrap64 ((wrap64 ((a0.size : Int) - eh)) - 1)), .string ⟨#[]⟩, .string ⟨#[]⟩]) (ok := fun _ => True) (okp := fun _ => True) ?hr ?hp (fun _ hk => hk) trivial (Below.refl _ _) (Nat.le_refl _) (by simp) ?_; (case hd => rfl); (case hg => rfl); (case hr => first | (go_simp; done) | (go_simp; rfl)); (case hp => exact (Reps.c3 (show Kd.M k61 _ _ _ (⟨a1_1, (⟨#[]⟩ : ByteArray), (⟨#[]⟩ : ByteArray)⟩ : S61) [.int .i64 a1_1, .string ⟨#[]⟩, .string ⟨#[]⟩] from (k61_mkM _ _ _ (⟨a1_1, (⟨#[]⟩ : ByteArray), (⟨#[]⟩ : ByteArray)⟩ : S61) )) (Reps.c3 (show Kd.M k61 _ _ _ (⟨0, (⟨#[]⟩ : ByteArray), a0.extract (a1_1 : Int).toNat ((wrap64 (a1_1 + 1)) : Int).toNat⟩ : S61) [.int .i64 0, .string ⟨#[]⟩, .string (a0.extract (a1_1 : Int).toNat ((wrap64 (a1_1 + 1)) : Int).toNat)] from (k61_mkM _ _ _ (⟨0, (⟨#[]⟩ : ByteArray), a0.extract (a1_1 : Int).toNat ((wrap64 (a1_1 + 1)) : Int).toNat⟩ : S61) )) (Reps.c3 (show Kd.M k61 _ _ _ (⟨wrap64 ((wrap64 (eh - a1_1)) - 1), (⟨#[]⟩ : ByteArray), (⟨#[]⟩ : ByteArray)⟩ : S61) [.int .i64 (wrap64 ((wrap64 (eh - a1_1)) - 1)), .string ⟨#[]⟩, .string ⟨#[]⟩] from (k61_mkM _ _ _ (⟨wrap64 ((wrap64 (eh - a1_1)) - 1), (⟨#[]⟩ : ByteArray), (⟨#[]⟩ : ByteArray)⟩ : S61) )) (Reps.c3 (show Kd.M k61 _ _ _ (⟨0, (⟨#[]⟩ : ByteArray), (⟨#[47]⟩ : ByteArray)⟩ : S61) [.int .i64 0, .string ⟨#[]⟩, .string (⟨#[47]⟩ : ByteArray)] from (k61_mkM _ _ _ (⟨0, (⟨#[]⟩ : ByteArray), (⟨#[47]⟩ : ByteArray)⟩ : S61) )) (Reps.c3 (show Kd.M k61 _ _ _ (⟨wrap64 ((wrap64 ((a0.size : Int) - eh)) - 1), (⟨#[]⟩ : ByteArray), (⟨#[]⟩ : ByteArray)⟩ : S61) [.int .i64 (wrap64 ((wrap64 ((a0.size : Int) - eh)) - 1)), .string ⟨#[]⟩, .string ⟨#[]⟩] from (k61_mkM _ _ _ (⟨wrap64 ((wrap64 ((a0.size : Int) - eh)) - 1), (⟨#[]⟩ : ByteArray), (⟨#[]⟩ : ByteArray)⟩ : S61) )) (Reps.none _ _)))))))
               intro v203 w95 ho96 hb hg_ hnew_
               clear hg_ hnew_
               (first | rw [← Ny202.out] at ho96 | (simp only [Int.reduceToNat] at ho96; rw [← Ny202.out] at ho96))
               have jD := aM (az ho96 (ap z17))
               replace aH := aM (bK_ aH.out hb)
               replace HB := aM (ao z17 hb)
               clear hb ho96
               obtain ⟨Ao97, uV, eo97⟩ := Kd.R_slice jD.out
               (first | subst eo97 | (injection eo97 with f1_ f2_ f3_; have f4_ := f1_.symm; have f5_ := f3_.symm; clear f1_ f2_ f3_; subst f4_; subst f5_))
               refine hK.out _ _ ⟨(bC aH.out 0).trans rfl, (bC aH.out 1).trans rfl, (bC aH.out 2).trans rfl, (bC aH.out 3).trans rfl⟩ (fun hHeld => ?_)
               clear hK K
               refine norm_ (a' := ?_) ?_ ?_
               rotate_left
               ·show Act.put _ (some 196) _ = _
                simp only [Act.put, sA, sB, sC, i64_w, i32_w]
                rfl
               refine one_ (i := 25) (N := some 197) #[true, true, true, true, true, true, true, true, true, true, true, true, true, true, true, true, true, true, true, true, true, true, true, true, true, true, false, false] rfl rfl (one_of HT_.out z0) (by decide) (fun K hK => ?_)
               refine goes_ Try.func74 z0 rfl #[.slice Ao97 y202.length uV] (by rfl) rfl rfl z15 ?_
               with_reducible refine (spec_l3Normal.calls kj77 _ _ y202 pT _ ?side1 ?side2 wz.out).mono ?_
               (case side1 => repeat (first | exact (ah jD.out).2.2 | (with_reducible refine aq ?_ _) | (with_reducible refine ar ?_ _) | (with_reducible refine au ?_)))
               (case side2 => exact (ah jD.out).2.1)
               rintro e w98 ⟨v206, rfl, ho0, hb⟩
               refine ⟨_, rfl, ?_⟩
               have HO207 := aM (az (Kd.R_new' ho0 (Kd.R_lt (kR_ jD.out))) (ap z17))
               replace jD := aM (Kd.R_elder' (kR_ jD.out) (Kd.R_base ho0) hb)
               replace aH := aM (bK_ aH.out hb)
               replace HB := aM (ao z17 hb)
               (try clear hb)
               skip
               skip
               skip
               (try clear ho0)
               refine hK.out _ _ ⟨(bC aH.out 0).trans rfl, (bC aH.out 1).trans rfl, (bC aH.out 2).trans rfl, (bC aH.out 3).trans rfl⟩ (fun hHeld => ?_)
               clear hK K
               refine norm_ (a' := ?_) ?_ ?_
               rotate_left
               ·show Act.put _ (some 197) _ = _
                simp only [Act.put, sA, sB, sC, i64_w, i32_w]
                rfl
               refine pA 26 4 ?_
               refine pA 27 5 ?_
               refine done_ (done_of HT_.out z0) ?_
               try go_wp2
               go_ret2
               exact ⟨_, y4, by (with_reducible repeat (first | apply ac | apply ab | apply aa)); exact ag HO207.out (fun _ hk => trivial), y25⟩
              ·rw [if_neg rn] at H
               exact absurd H (by simp)
             ·rw [if_neg ro] at H
              exact absurd H (by simp)
            ·rw [if_neg u9] at H
             exact absurd H (by simp)
           ·rw [if_neg tl] at H
            have c88b0 : (a1_0 == 4) = false := qF tl
            have c88b1 : (a1_0 != 4) = true := nT tl
            by_cases lI : a1_0 = 8
            ·rw [if_pos lI] at H
             have c99b0 : (a1_0 == 8) = true := qT lI
             have c99b1 : (a1_0 != 8) = false := nF lI
             clear lI
             obtain ⟨s9, fI, H⟩ := oA_ H
             try dsimp only at H
             by_cases rT : s9 = true
             ·subst rT
              rw [if_pos rfl] at H
              obtain ⟨s8, A102, H⟩ := oA_ H
              try dsimp only at H
              by_cases qo : 0 ≤ a1_1
              ·rw [if_pos qo] at H
               have c103b0 := eq_true qo
               have c103b1 : decide (0 ≤ a1_1) = true := dT qo
               clear qo
               by_cases hO : a1_1 ≤ (wrap64 (a1_1 + 1))
               ·rw [if_pos hO] at H
                have c104b0 := eq_true hO
                have c104b1 : decide (a1_1 ≤ (wrap64 (a1_1 + 1))) = true := dT hO
                by_cases fa : (wrap64 (a1_1 + 1)) ≤ (a0.size : Int)
                ·rw [if_pos fa] at H
                 have c105b0 := eq_true fa
                 have c105b1 : decide ((wrap64 (a1_1 + 1)) ≤ (a0.size : Int)) = true := dT fa
                 simp only [Option.some.injEq, Prod.mk.injEq] at H
                 obtain ⟨rfl, rfl⟩ := H
                 obtain ⟨hcz106_0, hcz106_1, hcz106_2, hcz106_3, hfz106_0, hfz106_1, hfz106_2, hfz106_3⟩ := cc4 aH.out
                 try go_wp2_with (first | ((with_reducible refine av (f := 31) rfl ?_); refine ay (some 167) rfl rfl Try.func31 z0 rfl #[.string a0, .int .i64 a1_1] rfl z15 ?_; (with_reducible refine (spec_l1Match.calls kj77 a0 a1_1 eh _ tL.out).mono ?_); rintro e w' ⟨rfl, ⟨nd, rfl⟩⟩; refine ⟨_, rfl, ?_⟩) | ((with_reducible refine av (f := 73) rfl ?_); refine ay (some 202) rfl rfl Try.func73 z0 rfl #[.string a1_3] rfl z15 ?_; (with_reducible refine (spec_l1Name.calls a1_3 true _ fI.out).mono ?_); rintro e w' ⟨rfl, ⟨nd, rfl⟩⟩; refine ⟨_, rfl, ?_⟩))
                 (try (rw [drewN_self wc]; generalize hq_ : World.drewN wc _ = wc; have aE : Aside0 (wc.heap[aT]? = some (.cells #[.int .i64 a1_0, .int .i64 a1_1, .int .i64 a1_2, .string a1_3] 29 (0, 0))) := ⟨by rw [← hq_]; exact z7⟩; have aG : Aside0 (Below w.heap.size w wc) := ⟨by rw [← hq_]; exact z17⟩; clear aH HB hq_; have aH := aE; have HB := aG; clear aE aG))
                 replace aH := aM (ai aH.out)
                 replace HB := aM (bD HB.out)
                 refine start_ (n := 21) (S := fun w' => w'.cell? ⟨aT, 0, none⟩ = some (.int .i64 a1_0) ∧ w'.cell? ⟨aT, 1, none⟩ = some (.int .i64 a1_1) ∧ w'.cell? ⟨aT, 2, none⟩ = some (.int .i64 a1_2) ∧ w'.cell? ⟨aT, 3, none⟩ = some (.string a1_3)) (ds := []) #[false, false, false, false, false, false, false, false, false, false, false, false, false, false, false, false, false, false, false, false, false] z0 rfl rfl ⟨(bC aH.out 0).trans rfl, (bC aH.out 1).trans rfl, (bC aH.out 2).trans rfl, (bC aH.out 3).trans rfl⟩ (fun hHeld => ?_); refine with_tabW spec_l8Op.tab30 spec_l8Op.bits30 (fun HT_ HW_ => ?_)
                 generalize wc.drew = w107 at aH HB hHeld ⊢
                 refine pA 0 204 ?_
                 refine pA 1 205 ?_
                 refine pA 3 207 ?_
                 refine pA 6 210 ?_
                 refine pA 9 213 ?_
                 refine pA 11 215 ?_
                 refine pA 12 216 ?_
                 refine pA 14 218 ?_
                 refine t4_ 2 206 ?_
                 refine t4_ 4 208 ?_
                 refine pA 5 209 ?_
                 refine t4_ 7 211 ?_
                 refine t4_ 10 214 ?_
                 refine t4_ 13 217 ?_
                 refine t4_ 15 219 ?_
                 refine pA 16 220 ?_
                 refine pA 17 221 ?_
                 refine pA 18 222 ?_
                 refine one_ (i := 8) (N := some 212) #[true, true, true, true, true, true, true, true, true, true, true, true, true, true, true, true, true, true, true, false, false] rfl rfl (one_of HT_.out z0) (by decide) (fun K hK => ?_)
                 refine goes_ Try.func72 z0 rfl #[.string a0, .int .i64 a1_1, .int .i64 (wrap64 (a1_1 + 1)), .string a1_3] (by rfl) rfl rfl z15 ?_
                 with_reducible refine (spec_l3Splice.calls kj77 a0 a1_1 (wrap64 (a1_1 + 1)) a1_3 s8 _ A102.out).mono ?_
                 rintro e w108 ⟨v210, rfl, ho0, hb⟩
                 refine ⟨_, rfl, ?_⟩
                 have HO211 := aM (az ho0 (ap z17))
                 replace aH := aM (bK_ aH.out hb)
                 replace HB := aM (ao z17 hb)
                 (try clear hb)
                 skip
                 skip
                 skip
                 (try clear ho0)
                 refine hK.out _ _ ⟨(bC aH.out 0).trans rfl, (bC aH.out 1).trans rfl, (bC aH.out 2).trans rfl, (bC aH.out 3).trans rfl⟩ (fun hHeld => ?_)
                 clear hK K
                 refine norm_ (a' := ?_) ?_ ?_
                 rotate_left
                 ·show Act.put _ (some 212) _ = _
                  simp only [Act.put, sA, sB, sC, i64_w, i32_w]
                  rfl
                 refine pA 19 4 ?_
                 refine pA 20 5 ?_
                 refine done_ (done_of HT_.out z0) ?_
                 try go_wp2
                 go_ret2
                 exact ⟨_, y4, by (with_reducible repeat (first | apply ac | apply ab | apply aa)); exact HO211.out, y25⟩
                ·rw [if_neg fa] at H
                 exact absurd H (by simp)
               ·rw [if_neg hO] at H
                exact absurd H (by simp)
              ·rw [if_neg qo] at H
               exact absurd H (by simp)
             ·replace rT := Bool.eq_false_iff.mpr rT
              subst rT
              rw [if_neg nF_] at H
              simp only [Option.some.injEq, Prod.mk.injEq] at H
              obtain ⟨rfl, rfl⟩ := H
              obtain ⟨hcz109_0, hcz109_1, hcz109_2, hcz109_3, hfz109_0, hfz109_1, hfz109_2, hfz109_3⟩ := cc4 aH.out
              go_wp2_with (first | ((with_reducible refine av (f := 31) rfl ?_); refine ay (some 167) rfl rfl Try.func31 z0 rfl #[.string a0, .int .i64 a1_1] rfl z15 ?_; (with_reducible refine (spec_l1Match.calls kj77 a0 a1_1 eh _ tL.out).mono ?_); rintro e w' ⟨rfl, ⟨nd, rfl⟩⟩; refine ⟨_, rfl, ?_⟩) | ((with_reducible refine av (f := 73) rfl ?_); refine ay (some 202) rfl rfl Try.func73 z0 rfl #[.string a1_3] rfl z15 ?_; (with_reducible refine (spec_l1Name.calls a1_3 false _ fI.out).mono ?_); rintro e w' ⟨rfl, ⟨nd, rfl⟩⟩; refine ⟨_, rfl, ?_⟩))
              go_ret2
              exact ⟨_, y4, y28, y25⟩
            ·rw [if_neg lI] at H
             have c99b0 : (a1_0 == 8) = false := qF lI
             have c99b1 : (a1_0 != 8) = true := nT lI
             by_cases f3 : a1_0 = 7
             ·rw [if_pos f3] at H
              have c110b0 : (a1_0 == 7) = true := qT f3
              have c110b1 : (a1_0 != 7) = false := nF f3
              clear f3
              obtain ⟨⟨t212, t213⟩, tP, H⟩ := oA_ H
              try dsimp only at H
              simp only [Option.some.injEq, Prod.mk.injEq] at H
              obtain ⟨rfl, rfl⟩ := H
              obtain ⟨hcz112_0, hcz112_1, hcz112_2, hcz112_3, hfz112_0, hfz112_1, hfz112_2, hfz112_3⟩ := cc4 aH.out
              go_wp2_with (first | ((with_reducible refine av (f := 31) rfl ?_); refine ay (some 167) rfl rfl Try.func31 z0 rfl #[.string a0, .int .i64 a1_1] rfl z15 ?_; (with_reducible refine (spec_l1Match.calls kj77 a0 a1_1 eh _ tL.out).mono ?_); rintro e w' ⟨rfl, ⟨nd, rfl⟩⟩; refine ⟨_, rfl, ?_⟩) | ((with_reducible refine av (f := 76) rfl ?_); refine ay (some 232) rfl rfl Try.func76 z0 rfl #[.string a0, .int .i64 a1_1, .int .i64 (wrap64 (eh + 1)), .int .i64 a1_2] rfl z15 ?_; (with_reducible refine (spec_l8Move.calls kj77 a0 a1_1 (wrap64 (eh + 1)) a1_2 t212 t213 _ tP.out).mono ?_); rintro e w113 ⟨v214, rfl, ho0, hb⟩; refine ⟨_, rfl, ?_⟩; have HO215 := aM (az ho0 (ap z17)); replace aH := aM (bK_ aH.out hb); replace HB := aM (ao z17 hb); (try clear hb); (try clear ho0)))
              go_ret2
              exact ⟨_, y4, by (with_reducible repeat (first | apply ac | apply ab | apply aa)); exact HO215.out, y25⟩
             ·rw [if_neg f3] at H
              have c110b0 : (a1_0 == 7) = false := qF f3
              have c110b1 : (a1_0 != 7) = true := nT f3
              simp only [Option.some.injEq, Prod.mk.injEq] at H
              obtain ⟨rfl, rfl⟩ := H
              obtain ⟨hcz114_0, hcz114_1, hcz114_2, hcz114_3, hfz114_0, hfz114_1, hfz114_2, hfz114_3⟩ := cc4 aH.out
              go_wp2_with (first | ((with_reducible refine av (f := 31) rfl ?_); refine ay (some 167) rfl rfl Try.func31 z0 rfl #[.string a0, .int .i64 a1_1] rfl z15 ?_; (with_reducible refine (spec_l1Match.calls kj77 a0 a1_1 eh _ tL.out).mono ?_); rintro e w' ⟨rfl, ⟨nd, rfl⟩⟩; refine ⟨_, rfl, ?_⟩))
              go_ret2
              exact ⟨_, y4, y28, y25⟩
 ·exact absurd (A3.out.symm.trans HTR.out) (fun e_ => c4 (sI e_))
theorem spec_l8Op.calls (k : Nat) (a0 : ByteArray) (a1_0 : Int) (a1_1 : Int) (a1_2 : Int) (a1_3 : ByteArray) (r1 : List (S61)) (r2 : Bool) (w : World) (h : spec_l8Op.f k a0 a1_0 a1_1 a1_2 a1_3 = some (r1, r2)) :
  Calls Try.prog 53 #[.string a0, .agg #[.int .i64 a1_0, .int .i64 a1_1, .int .i64 a1_2, .string a1_3]] w fun e w' => ∃ v0_ : Value, e = .returned (.tuple #[v0_, .bool r2]) ∧ Kd.R k61 61 w' w.heap.size (fun _ => True) v0_ r1 ∧ Below w.heap.size w w' := by
 obtain ⟨t, ht, -⟩ := oB h
 have HT := aM ht
 clear ht
 cases t with
 | false => exact spec_l8Op.callsF k a0 a1_0 a1_1 a1_2 a1_3 r1 r2 w HT h
 | true =>
  by_cases c1 : a1_0 = 1
  · exact spec_l8Op.calls1 k a0 a1_0 a1_1 a1_2 a1_3 r1 r2 w HT ⟨c1⟩ h
  · by_cases c2 : a1_0 = 2 ∨ a1_0 = 3
    · exact spec_l8Op.calls23 k a0 a1_0 a1_1 a1_2 a1_3 r1 r2 w HT ⟨c2⟩ h
    · by_cases c5 : a1_0 = 5
      · exact spec_l8Op.calls5 k a0 a1_0 a1_1 a1_2 a1_3 r1 r2 w HT ⟨c5⟩ h
      · by_cases c6 : a1_0 = 6
        · exact spec_l8Op.calls6 k a0 a1_0 a1_1 a1_2 a1_3 r1 r2 w HT ⟨c6⟩ h
        · exact spec_l8Op.callsO k a0 a1_0 a1_1 a1_2 a1_3 r1 r2 w HT ⟨⟨c1, fun h_ => c2 (.inl h_), fun h_ => c2 (.inr h_), c5, c6⟩⟩ h

end Go.Proofs.Ytmigfgcpdelnfaa.AFnCommands
