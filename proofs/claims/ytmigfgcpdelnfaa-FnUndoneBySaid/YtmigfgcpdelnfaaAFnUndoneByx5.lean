-- this session's own text: written by wip/tools/ownprint.py over the kit's print
import Derived.Test.YtmigfgcpdelnfaaAFnUndoneByx0
import Derived.Test.YtmigfgcpdelnfaaAFnUndoneByx1
import Derived.Test.YtmigfgcpdelnfaaAFnUndoneByx2
import Derived.Test.YtmigfgcpdelnfaaAFnUndoneByx4
namespace Go.Proofs.Ytmigfgcpdelnfaa.AFnUndoneBy
open Go.RowKit Go.Proofs.YtmigfgcpdelnfaaW.PrintWords Go.Proofs.YtmigfgcpdelnfaaW.PrintLast Go.Proofs.YtmigfgcpdelnfaaW.PrintMore
attribute [local go_sem] max2_int min2_int max_two min_two max_three min_three max_four min_four   -- for this text's walks alone
set_option linter.unusedVariables false
set_option linter.unusedSimpArgs false

/-! ### spec_l8Op: function 53 -/
mutual
def spec_l8Op.j0 : Nat → ByteArray → Int → Bool → Int → Int → Int → ByteArray → Option ((List (S61)) × Bool)
 | 0, _, _, _, _, _, _, _ => none
 | k + 1, x0, x14, x33, x174000, x174001, x174002, x174003 => if x33 = true then ((spec_l1In.f x174002 x174001 (x0.size : Int)).bind fun rc => (if rc = true then (if 0 ≤ x174001 then (if x174001 ≤ x174002 then (if x174002 ≤ (x0.size : Int) then ((spec_l1Balanced.f k (x0.extract (x174001 : Int).toNat (x174002 : Int).toNat)).bind fun pG => (spec_l8Op.j1 k x0 (!pG) x174000 x174001 x174002 x174003)) else (none)) else (none)) else (none)) else (spec_l8Op.j1 k x0 true x174000 x174001 x174002 x174003))) else (if x14 = 5 then ((spec_l8Split.f k x0 x174001).bind fun qg => (some (qg.1, qg.2))) else (if x14 = 6 then (if x174001 = 0 then (some (([] : List (S61)), false)) else (if x174001 = (x0.size : Int) then (some (([] : List (S61)), false)) else (if 0 ≤ (wrap64 (x174001 - 1)) then (if (wrap64 (x174001 - 1)) < (x0.size : Int) then (if (bt x0 (wrap64 (x174001 - 1))) = 47 then (if 0 ≤ x174001 then (if x174001 < (x0.size : Int) then ((spec_l1Open.f (bt x0 x174001)).bind fun nX => (if nX = true then ((spec_l1Match.f k x0 (wrap64 (x174001 - 1))).bind fun dh => (if 0 ≤ dh then (if dh < (x0.size : Int) then (if (bt x0 dh) = (bt x0 x174001) then ((spec_l3Splice.f k x0 (wrap64 (x174001 - 1)) (wrap64 (x174001 + 1)) (⟨#[]⟩ : ByteArray)).bind fun nW => (some (nW, true))) else (some (([] : List (S61)), false))) else (none)) else (none))) else (some (([] : List (S61)), false)))) else (none)) else (none)) else (some (([] : List (S61)), false))) else (none)) else (none)))) else (if x174001 = (x0.size : Int) then (spec_l8Op.j2 k x0 true x174000 x174001 x174002 x174003) else (if 0 ≤ x174001 then (if x174001 < (x0.size : Int) then ((spec_l1Open.f (bt x0 x174001)).bind fun pF => (spec_l8Op.j2 k x0 (!pF) x174000 x174001 x174002 x174003)) else (none)) else (none)))))
def spec_l8Op.j1 : Nat → ByteArray → Bool → Int → Int → Int → ByteArray → Option ((List (S61)) × Bool)
 | 0, _, _, _, _, _, _ => none
 | k + 1, x0, x53, x174000, x174001, x174002, x174003 => if x53 = true then (some (([] : List (S61)), false)) else (if x174000 = 2 then ((spec_l3Splice.f k x0 x174001 x174002 (⟨#[]⟩ : ByteArray)).bind fun rb => (some (rb, decide (x174001 < x174002)))) else ((spec_l1Name.f x174003).bind fun ra => (if ra = true then ((spec_l3Normal.f k (([(⟨x174001, (⟨#[]⟩ : ByteArray), (⟨#[]⟩ : ByteArray)⟩ : S61), (⟨0, x174003, (⟨#[]⟩ : ByteArray)⟩ : S61), (⟨wrap64 (x174002 - x174001), (⟨#[]⟩ : ByteArray), (⟨#[]⟩ : ByteArray)⟩ : S61), (⟨0, (⟨#[47]⟩ : ByteArray), (⟨#[]⟩ : ByteArray)⟩ : S61), (⟨wrap64 ((x0.size : Int) - x174002), (⟨#[]⟩ : ByteArray), (⟨#[]⟩ : ByteArray)⟩ : S61)] : List (S61)))).bind fun nY => (some (nY, true))) else (some (([] : List (S61)), false)))))
def spec_l8Op.j2 : Nat → ByteArray → Bool → Int → Int → Int → ByteArray → Option ((List (S61)) × Bool)
 | 0, _, _, _, _, _, _ => none
 | k + 1, x0, x163, x174000, x174001, x174002, x174003 => if x163 = true then (some (([] : List (S61)), false)) else ((spec_l1Match.f k x0 x174001).bind fun dO => (if x174000 = 4 then (if 0 ≤ x174001 then (if x174001 ≤ (wrap64 (x174001 + 1)) then (if (wrap64 (x174001 + 1)) ≤ (x0.size : Int) then ((spec_l3Normal.f k (([(⟨x174001, (⟨#[]⟩ : ByteArray), (⟨#[]⟩ : ByteArray)⟩ : S61), (⟨0, (⟨#[]⟩ : ByteArray), x0.extract (x174001 : Int).toNat ((wrap64 (x174001 + 1)) : Int).toNat⟩ : S61), (⟨wrap64 ((wrap64 (dO - x174001)) - 1), (⟨#[]⟩ : ByteArray), (⟨#[]⟩ : ByteArray)⟩ : S61), (⟨0, (⟨#[]⟩ : ByteArray), (⟨#[47]⟩ : ByteArray)⟩ : S61), (⟨wrap64 ((wrap64 ((x0.size : Int) - dO)) - 1), (⟨#[]⟩ : ByteArray), (⟨#[]⟩ : ByteArray)⟩ : S61)] : List (S61)))).bind fun nV => (some (nV, true))) else (none)) else (none)) else (none)) else (if x174000 = 8 then ((spec_l1Name.f x174003).bind fun q9 => (if q9 = true then ((spec_l3Splice.f k x0 x174001 (wrap64 (x174001 + 1)) x174003).bind fun q0 => (if 0 ≤ x174001 then (if x174001 ≤ (wrap64 (x174001 + 1)) then (if (wrap64 (x174001 + 1)) ≤ (x0.size : Int) then (some (q0, (x174003.toList != (x0.extract (x174001 : Int).toNat ((wrap64 (x174001 + 1)) : Int).toNat).toList))) else (none)) else (none)) else (none))) else (some (([] : List (S61)), false)))) else (if x174000 = 7 then ((spec_l8Move.f k x0 x174001 (wrap64 (dO + 1)) x174002).bind fun qf => (some (qf.1, qf.2))) else (some (([] : List (S61)), false))))))
end
def spec_l8Op.f (k : Nat) (a0 : ByteArray) (a1_0 : Int) (a1_1 : Int) (a1_2 : Int) (a1_3 : ByteArray) : Option ((List (S61)) × Bool) := (spec_l1In.f a1_1 0 (a0.size : Int)).bind fun di => (if di = true then (if a1_0 = 1 then ((spec_l3Splice.f k a0 a1_1 a1_1 a1_3).bind fun dP => (if a1_3.toList = ([] : List UInt8) then (some (dP, false)) else ((spec_GoodText.f k a1_3).bind fun eY => (some (dP, eY))))) else (if a1_0 = 2 then (spec_l8Op.j0 k a0 a1_0 (a1_0 == 2) a1_0 a1_1 a1_2 a1_3) else (spec_l8Op.j0 k a0 a1_0 (a1_0 == 3) a1_0 a1_1 a1_2 a1_3))) else (some (([] : List (S61)), false)))
theorem spec_l8Op.mono_l : ∀ k, (∀ y0 y1 y2 y3 y4 y5 y6, LeO (spec_l8Op.j0 k y0 y1 y2 y3 y4 y5 y6) (spec_l8Op.j0 (k + 1) y0 y1 y2 y3 y4 y5 y6)) ∧ (∀ y0 y1 y2 y3 y4 y5, LeO (spec_l8Op.j1 k y0 y1 y2 y3 y4 y5) (spec_l8Op.j1 (k + 1) y0 y1 y2 y3 y4 y5)) ∧ (∀ y0 y1 y2 y3 y4 y5, LeO (spec_l8Op.j2 k y0 y1 y2 y3 y4 y5) (spec_l8Op.j2 (k + 1) y0 y1 y2 y3 y4 y5))
 | 0 => ⟨fun _ _ _ _ _ _ _ r h => by simp [spec_l8Op.j0] at h, fun _ _ _ _ _ _ r h => by simp [spec_l8Op.j1] at h, fun _ _ _ _ _ _ r h => by simp [spec_l8Op.j2] at h⟩
 | k + 1 => by
  obtain ⟨ih0, ih1, ih2⟩ := spec_l8Op.mono_l k
  refine ⟨?_, ?_, ?_⟩
  ·intro y0 y1 y2 y3 y4 y5 y6
   unfold spec_l8Op.j0
   repeat' first
   | (with_reducible exact ih0 _ _ _ _ _ _ _)
   | (with_reducible exact ih1 _ _ _ _ _ _)
   | (with_reducible exact ih2 _ _ _ _ _ _)
   | (with_reducible exact spec_GoodText.mono _ _)
   | (with_reducible exact spec_l1Balanced.mono _ _)
   | (with_reducible exact spec_l1Match.mono _ _ _)
   | (with_reducible exact spec_l3Normal.mono _ _)
   | (with_reducible exact spec_l3Splice.mono _ _ _ _ _)
   | (with_reducible exact spec_l8Move.mono _ _ _ _ _)
   | (with_reducible exact spec_l8Split.mono _ _ _)
   | (with_reducible exact LeO.refl _)
   | (with_reducible exact LeO.none _)
   | (with_reducible refine LeO.ite ?_ ?_)
   | (with_reducible refine LeO.bind ?_ (fun _ => ?_))
  ·intro y0 y1 y2 y3 y4 y5
   unfold spec_l8Op.j1
   repeat' first
   | (with_reducible exact ih0 _ _ _ _ _ _ _)
   | (with_reducible exact ih1 _ _ _ _ _ _)
   | (with_reducible exact ih2 _ _ _ _ _ _)
   | (with_reducible exact spec_GoodText.mono _ _)
   | (with_reducible exact spec_l1Balanced.mono _ _)
   | (with_reducible exact spec_l1Match.mono _ _ _)
   | (with_reducible exact spec_l3Normal.mono _ _)
   | (with_reducible exact spec_l3Splice.mono _ _ _ _ _)
   | (with_reducible exact spec_l8Move.mono _ _ _ _ _)
   | (with_reducible exact spec_l8Split.mono _ _ _)
   | (with_reducible exact LeO.refl _)
   | (with_reducible exact LeO.none _)
   | (with_reducible refine LeO.ite ?_ ?_)
   | (with_reducible refine LeO.bind ?_ (fun _ => ?_))
  ·intro y0 y1 y2 y3 y4 y5
   unfold spec_l8Op.j2
   repeat' first
   | (with_reducible exact ih0 _ _ _ _ _ _ _)
   | (with_reducible exact ih1 _ _ _ _ _ _)
   | (with_reducible exact ih2 _ _ _ _ _ _)
   | (with_reducible exact spec_GoodText.mono _ _)
   | (with_reducible exact spec_l1Balanced.mono _ _)
   | (with_reducible exact spec_l1Match.mono _ _ _)
   | (with_reducible exact spec_l3Normal.mono _ _)
   | (with_reducible exact spec_l3Splice.mono _ _ _ _ _)
   | (with_reducible exact spec_l8Move.mono _ _ _ _ _)
   | (with_reducible exact spec_l8Split.mono _ _ _)
   | (with_reducible exact LeO.refl _)
   | (with_reducible exact LeO.none _)
   | (with_reducible refine LeO.ite ?_ ?_)
   | (with_reducible refine LeO.bind ?_ (fun _ => ?_))
theorem spec_l8Op.mono : ∀ a0 a1 a2 a3 a4 k, LeO (spec_l8Op.f k a0 a1 a2 a3 a4) (spec_l8Op.f (k + 1) a0 a1 a2 a3 a4) := by
 intro a0 a1 a2 a3 a4 k
 obtain ⟨ih0, ih1, ih2⟩ := spec_l8Op.mono_l k
 unfold spec_l8Op.f
 repeat' first
   | (with_reducible exact ih0 _ _ _ _ _ _ _)
   | (with_reducible exact ih1 _ _ _ _ _ _)
   | (with_reducible exact ih2 _ _ _ _ _ _)
   | (with_reducible exact spec_GoodText.mono _ _)
   | (with_reducible exact spec_l1Balanced.mono _ _)
   | (with_reducible exact spec_l1Match.mono _ _ _)
   | (with_reducible exact spec_l3Normal.mono _ _)
   | (with_reducible exact spec_l3Splice.mono _ _ _ _ _)
   | (with_reducible exact spec_l8Move.mono _ _ _ _ _)
   | (with_reducible exact spec_l8Split.mono _ _ _)
   | (with_reducible exact LeO.refl _)
   | (with_reducible exact LeO.none _)
   | (with_reducible refine LeO.ite ?_ ?_)
   | (with_reducible refine LeO.bind ?_ (fun _ => ?_))
def spec_l8Op.T5 : Bool × List (List Nat × List Nat) := (true, [([], []), ([], []), ([1], [1]), ([], []), ([3], [3]), ([], []), ([5], [5]), ([0, 2, 4, 6], [0, 2, 4, 6]), ([], []), ([8], [8]), ([9], [9]), ([10, 7], [10]), ([11], [11]), ([12, 11], [11, 12]), ([13, 11, 11], [11, 13]), ([11, 14], [11, 14]), ([7, 14, 0, 1, 2, 3, 4, 5, 6, 7], [7]), ([15, 16, 0, 1, 2, 3, 4, 5, 6, 7, 8, 9, 10, 11, 12, 13, 14, 15, 16], [15])])
def spec_l8Op.B5 : List Nat := [0, 0, 2, 0, 8, 0, 32, 127, 0, 256, 768, 2047, 4095, 8191, 16383, 32767, 32767, 131071]
theorem spec_l8Op.tab5 : rtab .any (opsOf Try.f53 5) = spec_l8Op.T5 := by kernel_rfl
theorem spec_l8Op.bits5 : waitsOk spec_l8Op.T5.2 spec_l8Op.B5 = true := by kernel_rfl
def spec_l8Op.T11 : Bool × List (List Nat × List Nat) := (true, [([], []), ([], []), ([1], [1]), ([], []), ([3], [3]), ([0, 2, 4], [0, 2, 4]), ([], []), ([6], [6]), ([], []), ([8], [8]), ([7, 9], [7, 9]), ([5, 5, 0, 1, 2, 3, 4, 5], [5]), ([10, 11, 0, 1, 2, 3, 4, 5, 6, 7, 8, 9, 10, 11], [10])])
def spec_l8Op.B11 : List Nat := [0, 0, 2, 0, 8, 31, 0, 64, 0, 256, 960, 63, 4095]
theorem spec_l8Op.tab11 : rtab .any (opsOf Try.f53 11) = spec_l8Op.T11 := by kernel_rfl
theorem spec_l8Op.bits11 : waitsOk spec_l8Op.T11.2 spec_l8Op.B11 = true := by kernel_rfl
def spec_l8Op.T18 : Bool × List (List Nat × List Nat) := (true, [([], []), ([0], [0]), ([1], [1]), ([2], [2]), ([3], [3]), ([4, 3], [3, 4]), ([3], [3]), ([6, 3], [3, 6]), ([5, 7, 3], [3, 5, 7]), ([3, 8], [3, 8]), ([9, 3], [9]), ([10], [10]), ([10], [10]), ([12, 10], [10, 12]), ([13, 10], [10, 13]), ([11, 14, 10], [10, 11, 14]), ([15, 10], [10, 15]), ([10, 16], [10, 16]), ([17, 10], [17]), ([18], [18]), ([18], [18]), ([20, 18], [18, 20]), ([19, 21, 18], [18, 19, 21]), ([22, 18, 18], [18, 22]), ([23, 18], [18, 23]), ([18, 24], [18, 24]), ([25, 23], [25]), ([26], [26]), ([26], [26]), ([26], [26]), ([29, 26], [26, 29]), ([30, 26], [26, 30]), ([28, 31, 26, 26], [26, 28, 31]), ([27, 32, 26], [26, 27, 32]), ([26], [26]), ([26], [26]), ([35, 26], [26, 35]), ([34, 36, 26], [26, 34, 36]), ([33, 37, 26], [26, 33, 37]), ([26, 38], [26, 38])])
def spec_l8Op.B18 : List Nat := [0, 1, 3, 7, 15, 31, 15, 79, 255, 511, 1023, 2047, 2047, 6143, 14335, 32767, 65535, 131071, 262143, 524287, 524287, 1572863, 4194303, 8388607, 16777215, 33554431, 67108863, 134217727, 134217727, 134217727, 671088639, 1744830463, 4160749567, 8589934591, 134217727, 134217727, 34493956095, 120393302015, 274877906943, 549755813887]
theorem spec_l8Op.tab18 : rtab .any (opsOf Try.f53 18) = spec_l8Op.T18 := by kernel_rfl
theorem spec_l8Op.bits18 : waitsOk spec_l8Op.T18.2 spec_l8Op.B18 = true := by kernel_rfl
def spec_l8Op.T26 : Bool × List (List Nat × List Nat) := (true, [([], []), ([0], [0]), ([1], [1]), ([], []), ([], []), ([4], [4]), ([], []), ([6], [6]), ([7], [7]), ([3, 5, 8], [3, 5, 8]), ([9], [9]), ([], []), ([], []), ([12], [12]), ([11, 13], [11, 13]), ([14], [14]), ([15], [15]), ([], []), ([], []), ([18], [18]), ([], []), ([19, 20], [19, 20]), ([21], [21]), ([22], [22]), ([2, 10, 16, 17, 23], [2, 10, 16, 17, 23]), ([24], [24]), ([25, 25, 0, 1, 2, 3, 4, 5, 6, 7, 8, 9, 10, 11, 12, 13, 14, 15, 16, 17, 18, 19, 20, 21, 22, 23, 24, 25], [25]), ([26, 0, 1, 2, 3, 4, 5, 6, 7, 8, 9, 10, 11, 12, 13, 14, 15, 16, 17, 18, 19, 20, 21, 22, 23, 24, 25, 26], [])])
def spec_l8Op.B26 : List Nat := [0, 1, 3, 0, 0, 16, 0, 64, 192, 504, 1016, 0, 0, 4096, 14336, 30720, 63488, 0, 0, 262144, 0, 1835008, 3932160, 8126464, 16777215, 33554431, 67108863, 134217727]
theorem spec_l8Op.tab26 : rtab .any (opsOf Try.f53 26) = spec_l8Op.T26 := by kernel_rfl
theorem spec_l8Op.bits26 : waitsOk spec_l8Op.T26.2 spec_l8Op.B26 = true := by kernel_rfl
def spec_l8Op.T30 : Bool × List (List Nat × List Nat) := (true, [([], []), ([], []), ([1], [1]), ([], []), ([3], [3]), ([4], [4]), ([], []), ([6], [6]), ([0, 2, 5, 7], [0, 2, 5, 7]), ([], []), ([9], [9]), ([], []), ([], []), ([12], [12]), ([], []), ([14], [14]), ([15], [15]), ([11, 13, 16], [11, 13, 16]), ([10, 17], [10, 17]), ([8, 8, 0, 1, 2, 3, 4, 5, 6, 7, 8], [8]), ([18, 19, 0, 1, 2, 3, 4, 5, 6, 7, 8, 9, 10, 11, 12, 13, 14, 15, 16, 17, 18, 19], [18])])
def spec_l8Op.B30 : List Nat := [0, 0, 2, 0, 8, 24, 0, 64, 255, 0, 512, 0, 0, 4096, 0, 16384, 49152, 129024, 261632, 511, 1048575]
theorem spec_l8Op.tab30 : rtab .any (opsOf Try.f53 30) = spec_l8Op.T30 := by kernel_rfl
theorem spec_l8Op.bits30 : waitsOk spec_l8Op.T30.2 spec_l8Op.B30 = true := by kernel_rfl
set_option maxHeartbeats 8000000 in
set_option maxRecDepth 100000 in
theorem spec_l8Op.callsF (k : Nat) (a0 : ByteArray) (a1_0 : Int) (a1_1 : Int) (a1_2 : Int) (a1_3 : ByteArray) (r1 : List (S61)) (r2 : Bool) (w : World) (HTR : Aside0 (spec_l1In.f a1_1 0 (a0.size : Int) = some false)) (h : spec_l8Op.f k a0 a1_0 a1_1 a1_2 a1_3 = some (r1, r2)) :
  Calls Try.prog 53 #[.string a0, .agg #[.int .i64 a1_0, .int .i64 a1_1, .int .i64 a1_2, .string a1_3]] w fun e w' => ∃ v0_ : Value, e = .returned (.tuple #[v0_, .bool r2]) ∧ Kd.R k61 61 w' w.heap.size (fun _ => True) v0_ r1 ∧ Below w.heap.size w w' := by
 have hu29 := Try.underlying29
 have hu61 := Try.underlying61
 have HB := aM (Below.refl w.heap.size w)
 have H : ((spec_l1In.f a1_1 0 (a0.size : Int)).bind fun di => (if di = true then (if a1_0 = 1 then ((spec_l3Splice.f k a0 a1_1 a1_1 a1_3).bind fun dP => (if a1_3.toList = ([] : List UInt8) then (some (dP, false)) else ((spec_GoodText.f k a1_3).bind fun eY => (some (dP, eY))))) else (if a1_0 = 2 then (spec_l8Op.j0 k a0 a1_0 (a1_0 == 2) a1_0 a1_1 a1_2 a1_3) else (spec_l8Op.j0 k a0 a1_0 (a1_0 == 3) a1_0 a1_1 a1_2 a1_3))) else (some (([] : List (S61)), false)))) = some (r1, r2) := h
 clear h
 obtain ⟨di, A3, H⟩ := oA_ H
 try dsimp only at H
 by_cases c4 : di = true
 ·exact absurd (A3.out.symm.trans HTR.out) (by rw [c4]; decide)
 ·replace c4 := Bool.eq_false_iff.mpr c4
  subst c4
  rw [if_neg nF_] at H
  simp only [Option.some.injEq, Prod.mk.injEq] at H
  obtain ⟨rfl, rfl⟩ := H
  go_enter Try.func53, Try.ntmps53
  go_wp2_with (first | ((with_reducible refine aw (N := 3) rfl ?_); (try (refine gate_guard (by rfl) ?_; dsimp only)); refine ax ?hg (N := 3) ?hd (cs := #[.int .i64 a1_0, .int .i64 a1_1, .int .i64 a1_2, .string a1_3]) (t := 29) ?hr ?_; (case hd => rfl); (case hg => rfl); (case hr => first | (go_simp; done) | (go_simp; rfl)); intro aT hg w115 hbox hb; have aE := aM (hbox); have jc := aM ((by rw [hg]; exact (aq z13) : w.heap.size ≤ aT)); have jf := aM ((by rw [hg]; exact (aq z13) : w.heap.size ≤ aT)); replace HB := aM (ap z13 hb); clear hb hbox hg; obtain ⟨hcz116_0, hcz116_1, hcz116_2, hcz116_3, hfz116_0, hfz116_1, hfz116_2, hfz116_3⟩ := cc4 aE.out) | ((with_reducible refine av (f := 71) rfl ?_); refine ay (some 11) rfl rfl Try.func71 z0 rfl #[.int .i64 a1_1, .int .i64 0, .int .i64 (a0.size : Int)] rfl z14 ?_; (with_reducible refine (spec_l1In.calls a1_1 0 (a0.size : Int) false _ A3.out).mono ?_); rintro e w' ⟨rfl, ⟨nd, rfl⟩⟩; refine ⟨_, rfl, ?_⟩))
  go_ret2
  exact ⟨_, y4, y20, y17⟩
set_option maxHeartbeats 8000000 in
set_option maxRecDepth 100000 in
theorem spec_l8Op.calls1 (k : Nat) (a0 : ByteArray) (a1_0 : Int) (a1_1 : Int) (a1_2 : Int) (a1_3 : ByteArray) (r1 : List (S61)) (r2 : Bool) (w : World) (HTR : Aside0 (spec_l1In.f a1_1 0 (a0.size : Int) = some true)) (HKD : Aside0 (a1_0 = 1)) (h : spec_l8Op.f k a0 a1_0 a1_1 a1_2 a1_3 = some (r1, r2)) :
  Calls Try.prog 53 #[.string a0, .agg #[.int .i64 a1_0, .int .i64 a1_1, .int .i64 a1_2, .string a1_3]] w fun e w' => ∃ v0_ : Value, e = .returned (.tuple #[v0_, .bool r2]) ∧ Kd.R k61 61 w' w.heap.size (fun _ => True) v0_ r1 ∧ Below w.heap.size w w' := by
 have hu29 := Try.underlying29
 have hu61 := Try.underlying61
 have HB := aM (Below.refl w.heap.size w)
 have H : ((spec_l1In.f a1_1 0 (a0.size : Int)).bind fun di => (if di = true then (if a1_0 = 1 then ((spec_l3Splice.f k a0 a1_1 a1_1 a1_3).bind fun dP => (if a1_3.toList = ([] : List UInt8) then (some (dP, false)) else ((spec_GoodText.f k a1_3).bind fun eY => (some (dP, eY))))) else (if a1_0 = 2 then (spec_l8Op.j0 k a0 a1_0 (a1_0 == 2) a1_0 a1_1 a1_2 a1_3) else (spec_l8Op.j0 k a0 a1_0 (a1_0 == 3) a1_0 a1_1 a1_2 a1_3))) else (some (([] : List (S61)), false)))) = some (r1, r2) := h
 clear h
 obtain ⟨di, A3, H⟩ := oA_ H
 try dsimp only at H
 by_cases c4 : di = true
 ·subst c4
  rw [if_pos rfl] at H
  by_cases c5 : a1_0 = 1
  ·rw [if_pos c5] at H
   have c5b0 : (a1_0 == 1) = true := qT c5
   have c5b1 : (a1_0 != 1) = false := nF c5
   clear c5
   obtain ⟨dP, A6, H⟩ := oA_ H
   try dsimp only at H
   by_cases c7 : a1_3.toList = ([] : List UInt8)
   ·rw [if_pos c7] at H
    have c7b0 : (a1_3.toList == ([] : List UInt8)) = true := qT c7
    have c7b1 : (a1_3.toList != ([] : List UInt8)) = false := nF c7
    clear c7
    simp only [Option.some.injEq, Prod.mk.injEq] at H
    obtain ⟨rfl, rfl⟩ := H
    go_enter Try.func53, Try.ntmps53
    try go_wp2_with (first | ((with_reducible refine aw (N := 3) rfl ?_); (try (refine gate_guard (by rfl) ?_; dsimp only)); refine ax ?hg (N := 3) ?hd (cs := #[.int .i64 a1_0, .int .i64 a1_1, .int .i64 a1_2, .string a1_3]) (t := 29) ?hr ?_; (case hd => rfl); (case hg => rfl); (case hr => first | (go_simp; done) | (go_simp; rfl)); intro aT hg w8 hbox hb; have aE := aM (hbox); have jc := aM ((by rw [hg]; exact (aq z13) : w.heap.size ≤ aT)); have jf := aM ((by rw [hg]; exact (aq z13) : w.heap.size ≤ aT)); replace HB := aM (ap z13 hb); clear hb hbox hg; obtain ⟨b4, b3, bZ, cR, b6, bY, bX, cQ⟩ := cc4 aE.out) | ((with_reducible refine av (f := 71) rfl ?_); refine ay (some 11) rfl rfl Try.func71 z0 rfl #[.int .i64 a1_1, .int .i64 0, .int .i64 (a0.size : Int)] rfl z14 ?_; (with_reducible refine (spec_l1In.calls a1_1 0 (a0.size : Int) true _ A3.out).mono ?_); rintro e w' ⟨rfl, ⟨nd, rfl⟩⟩; refine ⟨_, rfl, ?_⟩))
    (try (rw [drewN_self w8]; generalize hq_ : World.drewN w8 _ = w8; have aG : Aside0 (w8.heap[aT]? = some (.cells #[.int .i64 a1_0, .int .i64 a1_1, .int .i64 a1_2, .string a1_3] 29 (0, 0))) := ⟨by rw [← hq_]; exact z6⟩; have aH : Aside0 (Below w.heap.size w w8) := ⟨by rw [← hq_]; exact z16⟩; clear aE HB hq_; have aE := aG; have HB := aH; clear aG aH))
    replace aE := aM (ai aE.out)
    replace HB := aM (bD HB.out)
    refine start_ (n := 18) (S := fun w' => w'.cell? ⟨aT, 0, none⟩ = some (.int .i64 a1_0) ∧ w'.cell? ⟨aT, 1, none⟩ = some (.int .i64 a1_1) ∧ w'.cell? ⟨aT, 2, none⟩ = some (.int .i64 a1_2) ∧ w'.cell? ⟨aT, 3, none⟩ = some (.string a1_3)) (ds := []) #[false, false, false, false, false, false, false, false, false, false, false, false, false, false, false, false, false, false] z0 rfl rfl ⟨(bC aE.out 0).trans rfl, (bC aE.out 1).trans rfl, (bC aE.out 2).trans rfl, (bC aE.out 3).trans rfl⟩ (fun hHeld => ?_); refine with_tabW spec_l8Op.tab5 spec_l8Op.bits5 (fun HT_ HW_ => ?_)
    generalize w8.drew = w10 at aE HB hHeld ⊢
    refine pA 0 17 ?_
    refine pA 1 18 ?_
    refine pA 3 20 ?_
    refine pA 5 22 ?_
    refine pA 8 25 ?_
    refine t4_ 2 19 ?_
    refine t4_ 4 21 ?_
    refine t4_ 6 23 ?_
    refine t4_ 9 26 ?_
    refine pA 10 27 ?_
    refine one_ (i := 7) (N := some 24) #[true, true, true, true, true, true, true, true, true, true, true, false, false, false, false, false, false, false] rfl rfl (one_of HT_.out z0) (by decide) (fun K hK => ?_)
    refine goes_ Try.func72 z0 rfl #[.string a0, .int .i64 a1_1, .int .i64 a1_1, .string a1_3] (by rfl) rfl rfl z14 ?_
    with_reducible refine (spec_l3Splice.calls k a0 a1_1 a1_1 a1_3 dP _ A6.out).mono ?_
    rintro e w11 ⟨v176, rfl, ho0, hb⟩
    refine ⟨_, rfl, ?_⟩
    have oS := aM (az ho0 (aq z16))
    replace aE := aM (bK_ aE.out hb)
    replace HB := aM (ap z16 hb)
    (try clear hb)
    skip
    skip
    skip
    (try clear ho0)
    refine hK.out _ _ ⟨(bC aE.out 0).trans rfl, (bC aE.out 1).trans rfl, (bC aE.out 2).trans rfl, (bC aE.out 3).trans rfl⟩ (fun hHeld => ?_)
    clear hK K
    refine norm_ (a' := ?_) ?_ ?_
    rotate_left
    ·show Act.put _ (some 24) _ = _
     simp only [Act.put, sA, sB, sC, i64_w, i32_w]
     rfl
    refine pA 11 28 ?_
    refine pB 12 29 ?_
    refine pB 13 30 ?_
    refine pB 14 31 ?_
    refine pA 15 32 ?_
    refine pA 16 4 ?_
    refine pA 17 5 ?_
    refine done_ (done_of HT_.out z0) ?_
    try go_wp2
    go_ret2
    exact ⟨_, y4, by (with_reducible repeat (first | apply ac | apply ab | apply aa)); exact oS.out, y17⟩
   ·rw [if_neg c7] at H
    have c7b0 : (a1_3.toList == ([] : List UInt8)) = false := qF c7
    have c7b1 : (a1_3.toList != ([] : List UInt8)) = true := nT c7
    obtain ⟨eY, pj, H⟩ := oA_ H
    try dsimp only at H
    simp only [Option.some.injEq, Prod.mk.injEq] at H
    obtain ⟨rfl, rfl⟩ := H
    go_enter Try.func53, Try.ntmps53
    try go_wp2_with (first | ((with_reducible refine aw (N := 3) rfl ?_); (try (refine gate_guard (by rfl) ?_; dsimp only)); refine ax ?hg (N := 3) ?hd (cs := #[.int .i64 a1_0, .int .i64 a1_1, .int .i64 a1_2, .string a1_3]) (t := 29) ?hr ?_; (case hd => rfl); (case hg => rfl); (case hr => first | (go_simp; done) | (go_simp; rfl)); intro aT hg w13 hbox hb; have aE := aM (hbox); have jc := aM ((by rw [hg]; exact (aq z13) : w.heap.size ≤ aT)); have jf := aM ((by rw [hg]; exact (aq z13) : w.heap.size ≤ aT)); replace HB := aM (ap z13 hb); clear hb hbox hg; obtain ⟨dd, dc, db, f7, cX, cW, cV, fF⟩ := cc4 aE.out) | ((with_reducible refine av (f := 71) rfl ?_); refine ay (some 11) rfl rfl Try.func71 z0 rfl #[.int .i64 a1_1, .int .i64 0, .int .i64 (a0.size : Int)] rfl z14 ?_; (with_reducible refine (spec_l1In.calls a1_1 0 (a0.size : Int) true _ A3.out).mono ?_); rintro e w' ⟨rfl, ⟨nd, rfl⟩⟩; refine ⟨_, rfl, ?_⟩))
    (try (rw [drewN_self w13]; generalize hq_ : World.drewN w13 _ = w13; have aG : Aside0 (w13.heap[aT]? = some (.cells #[.int .i64 a1_0, .int .i64 a1_1, .int .i64 a1_2, .string a1_3] 29 (0, 0))) := ⟨by rw [← hq_]; exact z6⟩; have aH : Aside0 (Below w.heap.size w w13) := ⟨by rw [← hq_]; exact z16⟩; clear aE HB hq_; have aE := aG; have HB := aH; clear aG aH))
    replace aE := aM (ai aE.out)
    replace HB := aM (bD HB.out)
    refine start_ (n := 18) (S := fun w' => w'.cell? ⟨aT, 0, none⟩ = some (.int .i64 a1_0) ∧ w'.cell? ⟨aT, 1, none⟩ = some (.int .i64 a1_1) ∧ w'.cell? ⟨aT, 2, none⟩ = some (.int .i64 a1_2) ∧ w'.cell? ⟨aT, 3, none⟩ = some (.string a1_3)) (ds := []) #[false, false, false, false, false, false, false, false, false, false, false, false, false, false, false, false, false, false] z0 rfl rfl ⟨(bC aE.out 0).trans rfl, (bC aE.out 1).trans rfl, (bC aE.out 2).trans rfl, (bC aE.out 3).trans rfl⟩ (fun hHeld => ?_); refine with_tabW spec_l8Op.tab5 spec_l8Op.bits5 (fun HT_ HW_ => ?_)
    generalize w13.drew = w15 at aE HB hHeld ⊢
    refine pA 0 17 ?_
    refine pA 1 18 ?_
    refine pA 3 20 ?_
    refine pA 5 22 ?_
    refine pA 8 25 ?_
    refine t4_ 2 19 ?_
    refine t4_ 4 21 ?_
    refine t4_ 6 23 ?_
    refine t4_ 9 26 ?_
    refine pA 10 27 ?_
    refine one_ (i := 7) (N := some 24) #[true, true, true, true, true, true, true, true, true, true, true, false, false, false, false, false, false, false] rfl rfl (one_of HT_.out z0) (by decide) (fun K hK => ?_)
    refine goes_ Try.func72 z0 rfl #[.string a0, .int .i64 a1_1, .int .i64 a1_1, .string a1_3] (by rfl) rfl rfl z14 ?_
    with_reducible refine (spec_l3Splice.calls k a0 a1_1 a1_1 a1_3 dP _ A6.out).mono ?_
    rintro e w16 ⟨v176, rfl, ho0, hb⟩
    refine ⟨_, rfl, ?_⟩
    have oS := aM (az ho0 (aq z16))
    replace aE := aM (bK_ aE.out hb)
    replace HB := aM (ap z16 hb)
    (try clear hb)
    skip
    skip
    skip
    (try clear ho0)
    refine hK.out _ _ ⟨(bC aE.out 0).trans rfl, (bC aE.out 1).trans rfl, (bC aE.out 2).trans rfl, (bC aE.out 3).trans rfl⟩ (fun hHeld => ?_)
    clear hK K
    refine norm_ (a' := ?_) ?_ ?_
    rotate_left
    ·show Act.put _ (some 24) _ = _
     simp only [Act.put, sA, sB, sC, i64_w, i32_w]
     rfl
    refine pA 11 28 ?_
    refine pA 12 29 ?_
    refine t4_ 13 30 ?_
    refine one_ (i := 14) (N := some 31) #[true, true, true, true, true, true, true, true, true, true, true, true, true, true, true, false, false, false] rfl rfl (one_of HT_.out z0) (by decide) (fun K hK => ?_)
    refine goes_ Try.func48 z0 rfl #[.string a1_3] (by rfl) rfl rfl z14 ?_
    with_reducible refine (spec_GoodText.calls k a1_3 eY _ pj.out).mono ?_
    rintro e w' ⟨rfl, ⟨nd, rfl⟩⟩
    refine ⟨_, rfl, ?_⟩
    refine hK.out _ _ ⟨(bC aE.out 0).trans rfl, (bC aE.out 1).trans rfl, (bC aE.out 2).trans rfl, (bC aE.out 3).trans rfl⟩ (fun hHeld => ?_)
    clear hK K
    refine norm_ (a' := ?_) ?_ ?_
    rotate_left
    ·show Act.put _ (some 31) _ = _
     simp only [Act.put, sA, sB, sC, i64_w, i32_w]
     rfl
    refine pA 15 32 ?_
    refine pA 16 4 ?_
    refine pA 17 5 ?_
    refine done_ (done_of HT_.out z0) ?_
    try go_wp2
    go_ret2
    exact ⟨_, y4, by (with_reducible repeat (first | apply ac | apply ab | apply aa)); exact oS.out, y17⟩
  ·exact absurd HKD.out c5
 ·exact absurd (A3.out.symm.trans HTR.out) (fun e_ => c4 (sI e_))
set_option maxHeartbeats 8000000 in
set_option maxRecDepth 100000 in
theorem spec_l8Op.calls23 (k : Nat) (a0 : ByteArray) (a1_0 : Int) (a1_1 : Int) (a1_2 : Int) (a1_3 : ByteArray) (r1 : List (S61)) (r2 : Bool) (w : World) (HTR : Aside0 (spec_l1In.f a1_1 0 (a0.size : Int) = some true)) (HKD : Aside0 (a1_0 = 2 ∨ a1_0 = 3)) (h : spec_l8Op.f k a0 a1_0 a1_1 a1_2 a1_3 = some (r1, r2)) :
  Calls Try.prog 53 #[.string a0, .agg #[.int .i64 a1_0, .int .i64 a1_1, .int .i64 a1_2, .string a1_3]] w fun e w' => ∃ v0_ : Value, e = .returned (.tuple #[v0_, .bool r2]) ∧ Kd.R k61 61 w' w.heap.size (fun _ => True) v0_ r1 ∧ Below w.heap.size w w' := by
 have hu29 := Try.underlying29
 have hu61 := Try.underlying61
 have HB := aM (Below.refl w.heap.size w)
 have H : ((spec_l1In.f a1_1 0 (a0.size : Int)).bind fun di => (if di = true then (if a1_0 = 1 then ((spec_l3Splice.f k a0 a1_1 a1_1 a1_3).bind fun dP => (if a1_3.toList = ([] : List UInt8) then (some (dP, false)) else ((spec_GoodText.f k a1_3).bind fun eY => (some (dP, eY))))) else (if a1_0 = 2 then (spec_l8Op.j0 k a0 a1_0 (a1_0 == 2) a1_0 a1_1 a1_2 a1_3) else (spec_l8Op.j0 k a0 a1_0 (a1_0 == 3) a1_0 a1_1 a1_2 a1_3))) else (some (([] : List (S61)), false)))) = some (r1, r2) := h
 clear h
 obtain ⟨di, A3, H⟩ := oA_ H
 try dsimp only at H
 by_cases c4 : di = true
 ·subst c4
  rw [if_pos rfl] at H
  by_cases c5 : a1_0 = 1
  ·exact absurd c5 (by have := HKD.out; omega)
  ·rw [if_neg c5] at H
   have c5b0 : (a1_0 == 1) = false := qF c5
   have c5b1 : (a1_0 != 1) = true := nT c5
   have e6 := aM H
   clear H
   go_enter Try.func53, Try.ntmps53
   go_upto_if 33 with (first | ((with_reducible refine aw (N := 3) rfl ?_); (try (refine gate_guard (by rfl) ?_; dsimp only)); refine ax ?hg (N := 3) ?hd (cs := #[.int .i64 a1_0, .int .i64 a1_1, .int .i64 a1_2, .string a1_3]) (t := 29) ?hr ?_; (case hd => rfl); (case hg => rfl); (case hr => first | (go_simp; done) | (go_simp; rfl)); intro aT hg w18 hbox hb; have aE := aM (hbox); have jc := aM ((by rw [hg]; exact (aq z13) : w.heap.size ≤ aT)); have jf := aM ((by rw [hg]; exact (aq z13) : w.heap.size ≤ aT)); replace HB := aM (ap z13 hb); clear hb hbox hg; obtain ⟨dH, dG, dE, dD, dz, dy, dx, dw⟩ := cc4 aE.out) | ((with_reducible refine av (f := 71) rfl ?_); refine ay (some 11) rfl rfl Try.func71 z0 rfl #[.int .i64 a1_1, .int .i64 0, .int .i64 (a0.size : Int)] rfl z14 ?_; (with_reducible refine (spec_l1In.calls a1_1 0 (a0.size : Int) true _ A3.out).mono ?_); rintro e w' ⟨rfl, ⟨nd, rfl⟩⟩; refine ⟨_, rfl, ?_⟩))
   (try simp only [Act.put, sA, sB, sC])
   go_cut [33] (fun v33 wc => ∃ (kq : Nat) (x33_16 : Bool), v33 = .bool x33_16 ∧ Aside0 (x33_16 = true ↔ (a1_0 = 2 ∨ a1_0 = 3)) ∧ Aside0 (spec_l8Op.j0 kq a0 a1_0 x33_16 a1_0 a1_1 a1_2 a1_3 = some (r1, r2)) ∧ Aside0 (kq ≤ k) ∧ Aside0 (wc.heap[aT]? = some (.cells #[.int .i64 a1_0, .int .i64 a1_1, .int .i64 a1_2, .string a1_3] 29 (0, 0))) ∧ Aside0 (Below w.heap.size w wc))
   case first =>
    have H := e6.out
    clear e6
    by_cases cE : a1_0 = 2
    ·rw [if_pos cE] at H
     have c20b0 : (a1_0 == 2) = true := qT cE
     have c20b1 : (a1_0 != 2) = false := nF cE
     clear cE
     (first | rw [c20b0] | (simp only [i64_w, i32_w]; rw [c20b0]) | skip)
     have H' := aM H
     clear H
     go_wp2
     go_meet
     case rel => exact ⟨_, ((a1_0 == 2)), z1, ⟨⟨fun h_ => .inl (beq_iff_eq.mp h_), fun _ => c20b0⟩⟩, H', ⟨y0⟩, ⟨y13⟩, ⟨y17⟩⟩
    ·rw [if_neg cE] at H
     have c20b0 : (a1_0 == 2) = false := qF cE
     have c20b1 : (a1_0 != 2) = true := nT cE
     (first | rw [c20b0] | (simp only [i64_w, i32_w]; rw [c20b0]) | skip)
     have H' := aM H
     clear H
     go_wp2
     go_meet
     case rel => exact ⟨_, ((a1_0 == 3)), z1, ⟨⟨fun h_ => .inr (beq_iff_eq.mp h_), fun h_ => h_.elim (fun e_ => absurd (qT e_) (by rw [c20b0]; decide)) (fun e_ => qT e_)⟩⟩, H', ⟨y0⟩, ⟨y13⟩, ⟨y17⟩⟩
   case rest =>
    clear e6
    try clear c4
    try clear c5
    try clear c5b0
    try clear c5b1
    try clear dH
    try clear dG
    try clear dE
    try clear dD
    try clear dz
    try clear dy
    try clear dx
    try clear dw
    obtain ⟨kq, x33_16, rfl, HX33, HA, mg, aE, HB⟩ := hcut
    cases kq with
    | zero => exact absurd HA.out (by simp [spec_l8Op.j0])
    | succ kj16 =>
     have H := HA.out
     clear HA
     simp only [spec_l8Op.j0] at H
     by_cases dX : x33_16 = true
     ·subst dX
      rw [if_pos rfl] at H
      have rB := aM H
      clear H
      go_upto_region 8 with (fail)
      go_cut [53] (fun v53 wc => ∃ (kq : Nat) (x53_21 : Bool), v53 = .bool x53_21 ∧ Aside0 (spec_l8Op.j1 kq a0 x53_21 a1_0 a1_1 a1_2 a1_3 = some (r1, r2)) ∧ Aside0 (kq ≤ kj16) ∧ Aside0 (wc.heap[aT]? = some (.cells #[.int .i64 a1_0, .int .i64 a1_1, .int .i64 a1_2, .string a1_3] 29 (0, 0))) ∧ Aside0 (Below w.heap.size w wc))
      case first =>
       have H := rB.out
       clear rB
       obtain ⟨rc, uw, H⟩ := oA_ H
       try dsimp only at H
       by_cases mc : rc = true
       ·subst mc
        rw [if_pos rfl] at H
        by_cases e7 : 0 ≤ a1_1
        ·rw [if_pos e7] at H
         have c25b0 := eq_true e7
         have c25b1 : decide (0 ≤ a1_1) = true := dT e7
         clear e7
         by_cases eR : a1_1 ≤ a1_2
         ·rw [if_pos eR] at H
          have c26b0 := eq_true eR
          have c26b1 : decide (a1_1 ≤ a1_2) = true := dT eR
          clear eR
          by_cases mb : a1_2 ≤ (a0.size : Int)
          ·rw [if_pos mb] at H
           have c27b0 := eq_true mb
           have c27b1 : decide (a1_2 ≤ (a0.size : Int)) = true := dT mb
           clear mb
           obtain ⟨pG, ue, H⟩ := oA_ H
           try dsimp only at H
           have H' := aM H
           clear H
           obtain ⟨fZ, fY, fX, fW, fA, fz, fy, fx⟩ := cc4 aE.out
           go_wp2_with (first | ((with_reducible refine av (f := 71) rfl ?_); refine ay (some 42) rfl rfl Try.func71 z0 rfl #[.int .i64 a1_2, .int .i64 a1_1, .int .i64 (a0.size : Int)] rfl z14 ?_; (with_reducible refine (spec_l1In.calls a1_2 a1_1 (a0.size : Int) true _ uw.out).mono ?_); rintro e w' ⟨rfl, ⟨nd, rfl⟩⟩; refine ⟨_, rfl, ?_⟩) | (go_at_call 49; (with_reducible refine (spec_l1Balanced.calls kj16 (a0.extract (a1_1 : Int).toNat (a1_2 : Int).toNat) pG _ ue.out).mono ?_); rintro e w' ⟨rfl, ⟨nd, rfl⟩⟩))
           go_meet
           case rel => exact ⟨_, (!pG), z1, H', ⟨by have := mg.out; first | omega | exact Nat.le_refl _⟩, ⟨y13⟩, ⟨y17⟩⟩
          ·rw [if_neg mb] at H
           exact absurd H (by simp)
         ·rw [if_neg eR] at H
          exact absurd H (by simp)
        ·rw [if_neg e7] at H
         exact absurd H (by simp)
       ·replace mc := Bool.eq_false_iff.mpr mc
        subst mc
        rw [if_neg nF_] at H
        have H' := aM H
        clear H
        obtain ⟨nl, nk, nj, hcz30_3, mR, mQ, mP, hfz30_3⟩ := cc4 aE.out
        go_wp2_with (first | ((with_reducible refine av (f := 71) rfl ?_); refine ay (some 42) rfl rfl Try.func71 z0 rfl #[.int .i64 a1_2, .int .i64 a1_1, .int .i64 (a0.size : Int)] rfl z14 ?_; (with_reducible refine (spec_l1In.calls a1_2 a1_1 (a0.size : Int) false _ uw.out).mono ?_); rintro e w' ⟨rfl, ⟨nd, rfl⟩⟩; refine ⟨_, rfl, ?_⟩))
        go_meet
        case rel => exact ⟨_, (true), z1, H', ⟨by have := mg.out; first | omega | exact Nat.le_refl _⟩, ⟨y13⟩, ⟨y17⟩⟩
      case rest =>
       clear rB
       try clear c4
       try clear c5
       try clear c5b0
       try clear c5b1
       try clear dX
       try clear dH
       try clear dG
       try clear dE
       try clear dD
       try clear dz
       try clear dy
       try clear dx
       try clear dw
       obtain ⟨kq, x53_21, rfl, HA, HJ21, aE, HB⟩ := hcut
       cases kq with
       | zero => exact absurd HA.out (by simp [spec_l8Op.j1])
       | succ kj21 =>
        have H := HA.out
        clear HA
        simp only [spec_l8Op.j1] at H
        by_cases dS : x53_21 = true
        ·subst dS
         rw [if_pos rfl] at H
         simp only [Option.some.injEq, Prod.mk.injEq] at H
         obtain ⟨rfl, rfl⟩ := H
         go_wp2
         go_ret2
         exact ⟨_, y4, y20, y17⟩
        ·replace dS := Bool.eq_false_iff.mpr dS
         subst dS
         rw [if_neg nF_] at H
         by_cases gn : a1_0 = 2
         ·rw [if_pos gn] at H
          have c32b0 : (a1_0 == 2) = true := qT gn
          have c32b1 : (a1_0 != 2) = false := nF gn
          clear gn
          obtain ⟨rb, A33, H⟩ := oA_ H
          try dsimp only at H
          simp only [Option.some.injEq, Prod.mk.injEq] at H
          obtain ⟨rfl, rfl⟩ := H
          obtain ⟨hcz34_0, hcz34_1, hcz34_2, hcz34_3, hfz34_0, hfz34_1, hfz34_2, hfz34_3⟩ := cc4 aE.out
          try go_wp2
          replace aE := aM (ai aE.out)
          replace HB := aM (bD HB.out)
          refine start_ (n := 13) (S := fun w' => w'.cell? ⟨aT, 0, none⟩ = some (.int .i64 a1_0) ∧ w'.cell? ⟨aT, 1, none⟩ = some (.int .i64 a1_1) ∧ w'.cell? ⟨aT, 2, none⟩ = some (.int .i64 a1_2) ∧ w'.cell? ⟨aT, 3, none⟩ = some (.string a1_3)) (ds := []) #[false, false, false, false, false, false, false, false, false, false, false, false, false] z0 rfl rfl ⟨(bC aE.out 0).trans rfl, (bC aE.out 1).trans rfl, (bC aE.out 2).trans rfl, (bC aE.out 3).trans rfl⟩ (fun hHeld => ?_); refine with_tabW spec_l8Op.tab11 spec_l8Op.bits11 (fun HT_ HW_ => ?_)
          generalize wc.drew = w35 at aE HB hHeld ⊢
          refine pA 0 57 ?_
          refine pA 1 58 ?_
          refine pA 3 60 ?_
          refine pA 6 63 ?_
          refine pA 8 65 ?_
          refine t4_ 2 59 ?_
          refine t4_ 4 61 ?_
          refine t4_ 7 64 ?_
          refine t4_ 9 66 ?_
          refine pA 10 67 ?_
          refine one_ (i := 5) (N := some 62) #[true, true, true, true, true, true, true, true, true, true, true, false, false] rfl rfl (one_of HT_.out z0) (by decide) (fun K hK => ?_)
          refine goes_ Try.func72 z0 rfl #[.string a0, .int .i64 a1_1, .int .i64 a1_2, .string ⟨#[]⟩] (by rfl) rfl rfl z14 ?_
          with_reducible refine (spec_l3Splice.calls kj21 a0 a1_1 a1_2 (⟨#[]⟩ : ByteArray) rb _ A33.out).mono ?_
          rintro e w36 ⟨v182, rfl, ho0, hb⟩
          refine ⟨_, rfl, ?_⟩
          have HO183 := aM (az ho0 (aq z16))
          replace aE := aM (bK_ aE.out hb)
          replace HB := aM (ap z16 hb)
          (try clear hb)
          skip
          skip
          skip
          (try clear ho0)
          refine hK.out _ _ ⟨(bC aE.out 0).trans rfl, (bC aE.out 1).trans rfl, (bC aE.out 2).trans rfl, (bC aE.out 3).trans rfl⟩ (fun hHeld => ?_)
          clear hK K
          refine norm_ (a' := ?_) ?_ ?_
          rotate_left
          ·show Act.put _ (some 62) _ = _
           simp only [Act.put, sA, sB, sC, i64_w, i32_w]
           rfl
          refine pA 11 4 ?_
          refine pA 12 5 ?_
          refine done_ (done_of HT_.out z0) ?_
          try go_wp2
          go_ret2
          exact ⟨_, y4, by (with_reducible repeat (first | apply ac | apply ab | apply aa)); exact HO183.out, y17⟩
         ·rw [if_neg gn] at H
          have c32b0 : (a1_0 == 2) = false := qF gn
          have c32b1 : (a1_0 != 2) = true := nT gn
          obtain ⟨ra, ud, H⟩ := oA_ H
          try dsimp only at H
          by_cases gF : ra = true
          ·subst gF
           rw [if_pos rfl] at H
           obtain ⟨y185, hy185⟩ : ∃ y_ : List (S61), y_ = (([(⟨a1_1, (⟨#[]⟩ : ByteArray), (⟨#[]⟩ : ByteArray)⟩ : S61), (⟨0, a1_3, (⟨#[]⟩ : ByteArray)⟩ : S61), (⟨wrap64 (a1_2 - a1_1), (⟨#[]⟩ : ByteArray), (⟨#[]⟩ : ByteArray)⟩ : S61), (⟨0, (⟨#[47]⟩ : ByteArray), (⟨#[]⟩ : ByteArray)⟩ : S61), (⟨wrap64 ((a0.size : Int) - a1_2), (⟨#[]⟩ : ByteArray), (⟨#[]⟩ : ByteArray)⟩ : S61)] : List (S61))) := ⟨_, rfl⟩
           replace H : ((spec_l3Normal.f kj21 y185).bind fun nY => (some (nY, true))) = some (r1, r2) := by first | (rw [hy185]; with_reducible exact H) | (have H2_ := (Option.bind_some _ _).symm.trans H; rw [hy185]; with_reducible exact H2_) | (have H2_ := (Option.bind_some _ _).symm.trans H; with_reducible exact H2_) | with_reducible exact H | (rw [hy185]; exact H) | exact H
           have Ny185 := aM hy185
           clear hy185
           obtain ⟨nY, A39, H⟩ := oA_ H
           try dsimp only at H
           simp only [Option.some.injEq, Prod.mk.injEq] at H
           obtain ⟨rfl, rfl⟩ := H
           obtain ⟨hcz40_0, hcz40_1, hcz40_2, hcz40_3, hfz40_0, hfz40_1, hfz40_2, hfz40_3⟩ := cc4 aE.out
           go_wp2_with (first | ((with_reducible refine av (f := 73) rfl ?_); refine ay (some 70) rfl rfl Try.func73 z0 rfl #[.string a1_3] rfl z14 ?_; (with_reducible refine (spec_l1Name.calls a1_3 true _ ud.out).mono ?_); rintro e w' ⟨rfl, ⟨nd, rfl⟩⟩; refine ⟨_, rfl, ?_⟩) | ((with_reducible refine aw (N := 91) rfl ?_); (try (refine gate_guard (by rfl) ?_; dsimp only)); refine Kd.R_lit k61 _ 61 ?hg (N := 91) ?hd (xs := ([(⟨a1_1, (⟨#[]⟩ : ByteArray), (⟨#[]⟩ : ByteArray)⟩ : S61), (⟨0, a1_3, (⟨#[]⟩ : ByteArray)⟩ : S61), (⟨wrap64 (a1_2 - a1_1), (⟨#[]⟩ : ByteArray), (⟨#[]⟩ : ByteArray)⟩ : S61), (⟨0, (⟨#[47]⟩ : ByteArray), (⟨#[]⟩ : ByteArray)⟩ : S61), (⟨wrap64 ((a0.size : Int) - a1_2), (⟨#[]⟩ : ByteArray), (⟨#[]⟩ : ByteArray)⟩ : S61)] : List (S61))) (inner := [.int .i64 a1_1, .string ⟨#[]⟩, .string ⟨#[]⟩, .int .i64 0, .string a1_3, .string ⟨#[]⟩, .int .i64 (wrap64 (a1_2 - a1_1)), .string ⟨#[]⟩, .string ⟨#[]⟩, .int .i64 0, .string (⟨#[47]⟩ : ByteArray), .string ⟨#[]⟩, .int .i64 (wrap64 ((a0.size : Int) - a1_2)), .string ⟨#[]⟩, .string ⟨#[]⟩]) (ok := fun _ => True) (okp := fun _ => True) ?hr ?hp (fun _ hk => hk) trivial (Below.refl _ _) (Nat.le_refl _) (by simp) ?_; (case hd => rfl); (case hg => rfl); (case hr => first | (go_simp; done) | (go_simp; rfl)); (case hp => exact (Reps.c3 (show Kd.M k61 _ _ _ (⟨a1_1, (⟨#[]⟩ : ByteArray), (⟨#[]⟩ : ByteArray)⟩ : S61) [.int .i64 a1_1, .string ⟨#[]⟩, .string ⟨#[]⟩] from (k61_mkM _ _ _ (⟨a1_1, (⟨#[]⟩ : ByteArray), (⟨#[]⟩ : ByteArray)⟩ : S61) )) (Reps.c3 (show Kd.M k61 _ _ _ (⟨0, a1_3, (⟨#[]⟩ : ByteArray)⟩ : S61) [.int .i64 0, .string a1_3, .string ⟨#[]⟩] from (k61_mkM _ _ _ (⟨0, a1_3, (⟨#[]⟩ : ByteArray)⟩ : S61) )) (Reps.c3 (show Kd.M k61 _ _ _ (⟨wrap64 (a1_2 - a1_1), (⟨#[]⟩ : ByteArray), (⟨#[]⟩ : ByteArray)⟩ : S61) [.int .i64 (wrap64 (a1_2 - a1_1)), .string ⟨#[]⟩, .string ⟨#[]⟩] from (k61_mkM _ _ _ (⟨wrap64 (a1_2 - a1_1), (⟨#[]⟩ : ByteArray), (⟨#[]⟩ : ByteArray)⟩ : S61) )) (Reps.c3 (show Kd.M k61 _ _ _ (⟨0, (⟨#[47]⟩ : ByteArray), (⟨#[]⟩ : ByteArray)⟩ : S61) [.int .i64 0, .string (⟨#[47]⟩ : ByteArray), .string ⟨#[]⟩] from (k61_mkM _ _ _ (⟨0, (⟨#[47]⟩ : ByteArray), (⟨#[]⟩ : ByteArray)⟩ : S61) )) (Reps.c3 (show Kd.M k61 _ _ _ (⟨wrap64 ((a0.size : Int) - a1_2), (⟨#[]⟩ : ByteArray), (⟨#[]⟩ : ByteArray)⟩ : S61) [.int .i64 (wrap64 ((a0.size : Int) - a1_2)), .string ⟨#[]⟩, .string ⟨#[]⟩] from (k61_mkM _ _ _ (⟨wrap64 ((a0.size : Int) - a1_2), (⟨#[]⟩ : ByteArray), (⟨#[]⟩ : ByteArray)⟩ : S61) )) (Reps.none _ _))))))); intro v186 w41 ho42 hb hg_ hnew_; clear hg_ hnew_; (first | rw [← Ny185.out] at ho42 | (simp only [Int.reduceToNat] at ho42; rw [← Ny185.out] at ho42)); have iM := aM (az ho42 (aq z16)); replace aE := aM (bK_ aE.out hb); replace HB := aM (ap z16 hb); clear hb ho42; obtain ⟨Ao43, co43, eo43⟩ := Kd.R_slice iM.out; subst eo43) | ((with_reducible refine av (f := 74) rfl ?_); refine ay (some 92) rfl rfl Try.func74 z0 rfl #[.slice Ao43 y185.length co43] rfl z14 ?_; (with_reducible refine (spec_l3Normal.calls kj21 _ _ y185 nY _ ?side1 ?side2 A39.out).mono ?_); (case side1 => repeat (first | exact (ah iM.out).2.2 | (with_reducible refine Kd.C_alloc ?_ _) | (with_reducible refine Kd.C_drewN ?_ _) | (with_reducible refine Kd.C_drew ?_))); (case side2 => exact (ah iM.out).2.1); rintro e w44 ⟨v189, rfl, ho0, hb⟩; refine ⟨_, rfl, ?_⟩; have HO190 := aM (az (Kd.R_new' ho0 (Kd.R_lt (kR_ iM.out))) (aq z16)); replace iM := aM (Kd.R_elder' (kR_ iM.out) (Kd.R_base ho0) hb); replace aE := aM (bK_ aE.out hb); replace HB := aM (ap z16 hb); (try clear hb); (try clear ho0)))
           go_ret2
           exact ⟨_, y4, by (with_reducible repeat (first | apply ac | apply ab | apply aa)); exact ag HO190.out (fun _ hk => trivial), y17⟩
          ·replace gF := Bool.eq_false_iff.mpr gF
           subst gF
           rw [if_neg nF_] at H
           simp only [Option.some.injEq, Prod.mk.injEq] at H
           obtain ⟨rfl, rfl⟩ := H
           obtain ⟨hcz45_0, hcz45_1, hcz45_2, hcz45_3, hfz45_0, hfz45_1, hfz45_2, hfz45_3⟩ := cc4 aE.out
           go_wp2_with (first | ((with_reducible refine av (f := 73) rfl ?_); refine ay (some 70) rfl rfl Try.func73 z0 rfl #[.string a1_3] rfl z14 ?_; (with_reducible refine (spec_l1Name.calls a1_3 false _ ud.out).mono ?_); rintro e w' ⟨rfl, ⟨nd, rfl⟩⟩; refine ⟨_, rfl, ?_⟩))
           go_ret2
           exact ⟨_, y4, y20, y17⟩
     ·exact absurd (HX33.out.mpr HKD.out) dX
 ·exact absurd (A3.out.symm.trans HTR.out) (fun e_ => c4 (sI e_))
set_option maxHeartbeats 8000000 in
set_option maxRecDepth 100000 in
theorem spec_l8Op.calls5 (k : Nat) (a0 : ByteArray) (a1_0 : Int) (a1_1 : Int) (a1_2 : Int) (a1_3 : ByteArray) (r1 : List (S61)) (r2 : Bool) (w : World) (HTR : Aside0 (spec_l1In.f a1_1 0 (a0.size : Int) = some true)) (HKD : Aside0 (a1_0 = 5)) (h : spec_l8Op.f k a0 a1_0 a1_1 a1_2 a1_3 = some (r1, r2)) :
  Calls Try.prog 53 #[.string a0, .agg #[.int .i64 a1_0, .int .i64 a1_1, .int .i64 a1_2, .string a1_3]] w fun e w' => ∃ v0_ : Value, e = .returned (.tuple #[v0_, .bool r2]) ∧ Kd.R k61 61 w' w.heap.size (fun _ => True) v0_ r1 ∧ Below w.heap.size w w' := by
 have hu29 := Try.underlying29
 have hu61 := Try.underlying61
 have HB := aM (Below.refl w.heap.size w)
 have H : ((spec_l1In.f a1_1 0 (a0.size : Int)).bind fun di => (if di = true then (if a1_0 = 1 then ((spec_l3Splice.f k a0 a1_1 a1_1 a1_3).bind fun dP => (if a1_3.toList = ([] : List UInt8) then (some (dP, false)) else ((spec_GoodText.f k a1_3).bind fun eY => (some (dP, eY))))) else (if a1_0 = 2 then (spec_l8Op.j0 k a0 a1_0 (a1_0 == 2) a1_0 a1_1 a1_2 a1_3) else (spec_l8Op.j0 k a0 a1_0 (a1_0 == 3) a1_0 a1_1 a1_2 a1_3))) else (some (([] : List (S61)), false)))) = some (r1, r2) := h
 clear h
 obtain ⟨di, A3, H⟩ := oA_ H
 try dsimp only at H
 by_cases c4 : di = true
 ·subst c4
  rw [if_pos rfl] at H
  by_cases c5 : a1_0 = 1
  ·exact absurd c5 (by have := HKD.out; omega)
  ·rw [if_neg c5] at H
   have c5b0 : (a1_0 == 1) = false := qF c5
   have c5b1 : (a1_0 != 1) = true := nT c5
   have e6 := aM H
   clear H
   go_enter Try.func53, Try.ntmps53
   go_upto_if 33 with (first | ((with_reducible refine aw (N := 3) rfl ?_); (try (refine gate_guard (by rfl) ?_; dsimp only)); refine ax ?hg (N := 3) ?hd (cs := #[.int .i64 a1_0, .int .i64 a1_1, .int .i64 a1_2, .string a1_3]) (t := 29) ?hr ?_; (case hd => rfl); (case hg => rfl); (case hr => first | (go_simp; done) | (go_simp; rfl)); intro aT hg w18 hbox hb; have aE := aM (hbox); have jc := aM ((by rw [hg]; exact (aq z13) : w.heap.size ≤ aT)); have jf := aM ((by rw [hg]; exact (aq z13) : w.heap.size ≤ aT)); replace HB := aM (ap z13 hb); clear hb hbox hg; obtain ⟨dH, dG, dE, dD, dz, dy, dx, dw⟩ := cc4 aE.out) | ((with_reducible refine av (f := 71) rfl ?_); refine ay (some 11) rfl rfl Try.func71 z0 rfl #[.int .i64 a1_1, .int .i64 0, .int .i64 (a0.size : Int)] rfl z14 ?_; (with_reducible refine (spec_l1In.calls a1_1 0 (a0.size : Int) true _ A3.out).mono ?_); rintro e w' ⟨rfl, ⟨nd, rfl⟩⟩; refine ⟨_, rfl, ?_⟩))
   (try simp only [Act.put, sA, sB, sC])
   go_cut [33] (fun v33 wc => ∃ (kq : Nat) (x33_16 : Bool), v33 = .bool x33_16 ∧ Aside0 (x33_16 = true ↔ (a1_0 = 2 ∨ a1_0 = 3)) ∧ Aside0 (spec_l8Op.j0 kq a0 a1_0 x33_16 a1_0 a1_1 a1_2 a1_3 = some (r1, r2)) ∧ Aside0 (kq ≤ k) ∧ Aside0 (wc.heap[aT]? = some (.cells #[.int .i64 a1_0, .int .i64 a1_1, .int .i64 a1_2, .string a1_3] 29 (0, 0))) ∧ Aside0 (Below w.heap.size w wc))
   case first =>
    have H := e6.out
    clear e6
    by_cases cE : a1_0 = 2
    ·rw [if_pos cE] at H
     have c20b0 : (a1_0 == 2) = true := qT cE
     have c20b1 : (a1_0 != 2) = false := nF cE
     clear cE
     (first | rw [c20b0] | (simp only [i64_w, i32_w]; rw [c20b0]) | skip)
     have H' := aM H
     clear H
     go_wp2
     go_meet
     case rel => exact ⟨_, ((a1_0 == 2)), z1, ⟨⟨fun h_ => .inl (beq_iff_eq.mp h_), fun _ => c20b0⟩⟩, H', ⟨y0⟩, ⟨y13⟩, ⟨y17⟩⟩
    ·rw [if_neg cE] at H
     have c20b0 : (a1_0 == 2) = false := qF cE
     have c20b1 : (a1_0 != 2) = true := nT cE
     (first | rw [c20b0] | (simp only [i64_w, i32_w]; rw [c20b0]) | skip)
     have H' := aM H
     clear H
     go_wp2
     go_meet
     case rel => exact ⟨_, ((a1_0 == 3)), z1, ⟨⟨fun h_ => .inr (beq_iff_eq.mp h_), fun h_ => h_.elim (fun e_ => absurd (qT e_) (by rw [c20b0]; decide)) (fun e_ => qT e_)⟩⟩, H', ⟨y0⟩, ⟨y13⟩, ⟨y17⟩⟩
   case rest =>
    clear e6
    try clear c4
    try clear c5
    try clear c5b0
    try clear c5b1
    try clear dH
    try clear dG
    try clear dE
    try clear dD
    try clear dz
    try clear dy
    try clear dx
    try clear dw
    obtain ⟨kq, x33_16, rfl, HX33, HA, mg, aE, HB⟩ := hcut
    cases kq with
    | zero => exact absurd HA.out (by simp [spec_l8Op.j0])
    | succ kj16 =>
     have H := HA.out
     clear HA
     simp only [spec_l8Op.j0] at H
     by_cases dX : x33_16 = true
     ·exact absurd (HX33.out.mp dX) (by have := HKD.out; omega)
     ·replace dX := Bool.eq_false_iff.mpr dX
      subst dX
      rw [if_neg nF_] at H
      by_cases d4 : a1_0 = 5
      ·rw [if_pos d4] at H
       have c46b0 : (a1_0 == 5) = true := qT d4
       have c46b1 : (a1_0 != 5) = false := nF d4
       clear d4
       obtain ⟨⟨t191, t192⟩, A47, H⟩ := oA_ H
       try dsimp only at H
       simp only [Option.some.injEq, Prod.mk.injEq] at H
       obtain ⟨rfl, rfl⟩ := H
       obtain ⟨hcz48_0, hcz48_1, hcz48_2, hcz48_3, hfz48_0, hfz48_1, hfz48_2, hfz48_3⟩ := cc4 aE.out
       go_wp2_with (first | ((with_reducible refine av (f := 75) rfl ?_); refine ay (some 98) rfl rfl Try.func75 z0 rfl #[.string a0, .int .i64 a1_1] rfl z14 ?_; (with_reducible refine (spec_l8Split.calls kj16 a0 a1_1 t191 t192 _ A47.out).mono ?_); rintro e w49 ⟨v193, rfl, ho0, hb⟩; refine ⟨_, rfl, ?_⟩; have HO194 := aM (az ho0 (aq z16)); replace aE := aM (bK_ aE.out hb); replace HB := aM (ap z16 hb); (try clear hb); (try clear ho0)))
       go_ret2
       exact ⟨_, y4, by (with_reducible repeat (first | apply ac | apply ab | apply aa)); exact HO194.out, y17⟩
      ·exact absurd HKD.out d4
 ·exact absurd (A3.out.symm.trans HTR.out) (fun e_ => c4 (sI e_))
set_option maxHeartbeats 8000000 in
set_option maxRecDepth 100000 in
theorem spec_l8Op.calls6 (k : Nat) (a0 : ByteArray) (a1_0 : Int) (a1_1 : Int) (a1_2 : Int) (a1_3 : ByteArray) (r1 : List (S61)) (r2 : Bool) (w : World) (HTR : Aside0 (spec_l1In.f a1_1 0 (a0.size : Int) = some true)) (HKD : Aside0 (a1_0 = 6)) (h : spec_l8Op.f k a0 a1_0 a1_1 a1_2 a1_3 = some (r1, r2)) :
  Calls Try.prog 53 #[.string a0, .agg #[.int .i64 a1_0, .int .i64 a1_1, .int .i64 a1_2, .string a1_3]] w fun e w' => ∃ v0_ : Value, e = .returned (.tuple #[v0_, .bool r2]) ∧ Kd.R k61 61 w' w.heap.size (fun _ => True) v0_ r1 ∧ Below w.heap.size w w' := by
 have hu29 := Try.underlying29
 have hu61 := Try.underlying61
 have HB := aM (Below.refl w.heap.size w)
 have H : ((spec_l1In.f a1_1 0 (a0.size : Int)).bind fun di => (if di = true then (if a1_0 = 1 then ((spec_l3Splice.f k a0 a1_1 a1_1 a1_3).bind fun dP => (if a1_3.toList = ([] : List UInt8) then (some (dP, false)) else ((spec_GoodText.f k a1_3).bind fun eY => (some (dP, eY))))) else (if a1_0 = 2 then (spec_l8Op.j0 k a0 a1_0 (a1_0 == 2) a1_0 a1_1 a1_2 a1_3) else (spec_l8Op.j0 k a0 a1_0 (a1_0 == 3) a1_0 a1_1 a1_2 a1_3))) else (some (([] : List (S61)), false)))) = some (r1, r2) := h
 clear h
 obtain ⟨di, A3, H⟩ := oA_ H
 try dsimp only at H
 by_cases c4 : di = true
 ·subst c4
  rw [if_pos rfl] at H
  by_cases c5 : a1_0 = 1
  ·exact absurd c5 (by have := HKD.out; omega)
  ·rw [if_neg c5] at H
   have c5b0 : (a1_0 == 1) = false := qF c5
   have c5b1 : (a1_0 != 1) = true := nT c5
   have e6 := aM H
   clear H
   go_enter Try.func53, Try.ntmps53
   go_upto_if 33 with (first | ((with_reducible refine aw (N := 3) rfl ?_); (try (refine gate_guard (by rfl) ?_; dsimp only)); refine ax ?hg (N := 3) ?hd (cs := #[.int .i64 a1_0, .int .i64 a1_1, .int .i64 a1_2, .string a1_3]) (t := 29) ?hr ?_; (case hd => rfl); (case hg => rfl); (case hr => first | (go_simp; done) | (go_simp; rfl)); intro aT hg w18 hbox hb; have aE := aM (hbox); have jc := aM ((by rw [hg]; exact (aq z13) : w.heap.size ≤ aT)); have jf := aM ((by rw [hg]; exact (aq z13) : w.heap.size ≤ aT)); replace HB := aM (ap z13 hb); clear hb hbox hg; obtain ⟨dH, dG, dE, dD, dz, dy, dx, dw⟩ := cc4 aE.out) | ((with_reducible refine av (f := 71) rfl ?_); refine ay (some 11) rfl rfl Try.func71 z0 rfl #[.int .i64 a1_1, .int .i64 0, .int .i64 (a0.size : Int)] rfl z14 ?_; (with_reducible refine (spec_l1In.calls a1_1 0 (a0.size : Int) true _ A3.out).mono ?_); rintro e w' ⟨rfl, ⟨nd, rfl⟩⟩; refine ⟨_, rfl, ?_⟩))
   (try simp only [Act.put, sA, sB, sC])
   go_cut [33] (fun v33 wc => ∃ (kq : Nat) (x33_16 : Bool), v33 = .bool x33_16 ∧ Aside0 (x33_16 = true ↔ (a1_0 = 2 ∨ a1_0 = 3)) ∧ Aside0 (spec_l8Op.j0 kq a0 a1_0 x33_16 a1_0 a1_1 a1_2 a1_3 = some (r1, r2)) ∧ Aside0 (kq ≤ k) ∧ Aside0 (wc.heap[aT]? = some (.cells #[.int .i64 a1_0, .int .i64 a1_1, .int .i64 a1_2, .string a1_3] 29 (0, 0))) ∧ Aside0 (Below w.heap.size w wc))
   case first =>
    have H := e6.out
    clear e6
    by_cases cE : a1_0 = 2
    ·rw [if_pos cE] at H
     have c20b0 : (a1_0 == 2) = true := qT cE
     have c20b1 : (a1_0 != 2) = false := nF cE
     clear cE
     (first | rw [c20b0] | (simp only [i64_w, i32_w]; rw [c20b0]) | skip)
     have H' := aM H
     clear H
     go_wp2
     go_meet
     case rel => exact ⟨_, ((a1_0 == 2)), z1, ⟨⟨fun h_ => .inl (beq_iff_eq.mp h_), fun _ => c20b0⟩⟩, H', ⟨y0⟩, ⟨y13⟩, ⟨y17⟩⟩
    ·rw [if_neg cE] at H
     have c20b0 : (a1_0 == 2) = false := qF cE
     have c20b1 : (a1_0 != 2) = true := nT cE
     (first | rw [c20b0] | (simp only [i64_w, i32_w]; rw [c20b0]) | skip)
     have H' := aM H
     clear H
     go_wp2
     go_meet
     case rel => exact ⟨_, ((a1_0 == 3)), z1, ⟨⟨fun h_ => .inr (beq_iff_eq.mp h_), fun h_ => h_.elim (fun e_ => absurd (qT e_) (by rw [c20b0]; decide)) (fun e_ => qT e_)⟩⟩, H', ⟨y0⟩, ⟨y13⟩, ⟨y17⟩⟩
   case rest =>
    clear e6
    try clear c4
    try clear c5
    try clear c5b0
    try clear c5b1
    try clear dH
    try clear dG
    try clear dE
    try clear dD
    try clear dz
    try clear dy
    try clear dx
    try clear dw
    obtain ⟨kq, x33_16, rfl, HX33, HA, mg, aE, HB⟩ := hcut
    cases kq with
    | zero => exact absurd HA.out (by simp [spec_l8Op.j0])
    | succ kj16 =>
     have H := HA.out
     clear HA
     simp only [spec_l8Op.j0] at H
     by_cases dX : x33_16 = true
     ·exact absurd (HX33.out.mp dX) (by have := HKD.out; omega)
     ·replace dX := Bool.eq_false_iff.mpr dX
      subst dX
      rw [if_neg nF_] at H
      by_cases d4 : a1_0 = 5
      ·exact absurd d4 (by have := HKD.out; omega)
      ·rw [if_neg d4] at H
       have c46b0 : (a1_0 == 5) = false := qF d4
       have c46b1 : (a1_0 != 5) = true := nT d4
       by_cases nE : a1_0 = 6
       ·rw [if_pos nE] at H
        have c50b0 : (a1_0 == 6) = true := qT nE
        have c50b1 : (a1_0 != 6) = false := nF nE
        clear nE
        by_cases nI : a1_1 = 0
        ·rw [if_pos nI] at H
         have c51b0 : (a1_1 == 0) = true := qT nI
         have c51b1 : (a1_1 != 0) = false := nF nI
         clear nI
         simp only [Option.some.injEq, Prod.mk.injEq] at H
         obtain ⟨rfl, rfl⟩ := H
         try go_wp2
         replace aE := aM (ai aE.out)
         replace HB := aM (bD HB.out)
         refine start_ (n := 40) (S := fun w' => w'.cell? ⟨aT, 0, none⟩ = some (.int .i64 a1_0) ∧ w'.cell? ⟨aT, 1, none⟩ = some (.int .i64 a1_1) ∧ w'.cell? ⟨aT, 2, none⟩ = some (.int .i64 a1_2) ∧ w'.cell? ⟨aT, 3, none⟩ = some (.string a1_3)) (ds := []) #[false, false, false, false, false, false, false, false, false, false, false, false, false, false, false, false, false, false, false, false, false, false, false, false, false, false, false, false, false, false, false, false, false, false, false, false, false, false, false, false] z0 rfl rfl ⟨(bC aE.out 0).trans rfl, (bC aE.out 1).trans rfl, (bC aE.out 2).trans rfl, (bC aE.out 3).trans rfl⟩ (fun hHeld => ?_); refine with_tabW spec_l8Op.tab18 spec_l8Op.bits18 (fun HT_ HW_ => ?_)
         generalize wc.drew = w52 at aE HB hHeld ⊢
         refine pA 0 103 ?_
         refine t4_ 1 104 ?_
         refine pA 2 105 ?_
         refine pA 3 106 ?_
         refine pB 4 107 ?_
         refine pB 5 108 ?_
         refine pB 6 109 ?_
         refine pB 7 110 ?_
         refine pB 8 111 ?_
         refine pA 9 112 ?_
         refine pA 10 113 ?_
         refine pB 11 114 ?_
         refine pB 12 115 ?_
         refine pB 13 116 ?_
         refine pB 14 117 ?_
         refine pB 15 118 ?_
         refine pB 16 119 ?_
         refine pA 17 120 ?_
         refine pA 18 121 ?_
         refine pB 19 122 ?_
         refine pB 20 123 ?_
         refine pB 21 124 ?_
         refine pB 22 125 ?_
         refine pB 23 126 ?_
         refine pB 24 127 ?_
         refine pA 25 128 ?_
         refine pA 26 129 ?_
         refine pB 27 130 ?_
         refine pB 28 131 ?_
         refine pB 29 132 ?_
         refine pB 30 133 ?_
         refine pB 31 134 ?_
         refine pB 32 135 ?_
         refine pB 33 136 ?_
         refine pB 34 137 ?_
         refine pB 35 138 ?_
         refine pB 36 139 ?_
         refine pB 37 140 ?_
         refine pB 38 141 ?_
         refine pA 39 142 ?_
         refine done_ (done_of HT_.out z0) ?_
         try go_wp2
         go_ret2
         exact ⟨_, y4, y20, y17⟩
        ·rw [if_neg nI] at H
         have c51b0 : (a1_1 == 0) = false := qF nI
         have c51b1 : (a1_1 != 0) = true := nT nI
         by_cases gm : a1_1 = (a0.size : Int)
         ·rw [if_pos gm] at H
          have c53b0 : (a1_1 == (a0.size : Int)) = true := qT gm
          have c53b1 : (a1_1 != (a0.size : Int)) = false := nF gm
          clear gm
          simp only [Option.some.injEq, Prod.mk.injEq] at H
          obtain ⟨rfl, rfl⟩ := H
          try go_wp2
          replace aE := aM (ai aE.out)
          replace HB := aM (bD HB.out)
          refine start_ (n := 40) (S := fun w' => w'.cell? ⟨aT, 0, none⟩ = some (.int .i64 a1_0) ∧ w'.cell? ⟨aT, 1, none⟩ = some (.int .i64 a1_1) ∧ w'.cell? ⟨aT, 2, none⟩ = some (.int .i64 a1_2) ∧ w'.cell? ⟨aT, 3, none⟩ = some (.string a1_3)) (ds := []) #[false, false, false, false, false, false, false, false, false, false, false, false, false, false, false, false, false, false, false, false, false, false, false, false, false, false, false, false, false, false, false, false, false, false, false, false, false, false, false, false] z0 rfl rfl ⟨(bC aE.out 0).trans rfl, (bC aE.out 1).trans rfl, (bC aE.out 2).trans rfl, (bC aE.out 3).trans rfl⟩ (fun hHeld => ?_); refine with_tabW spec_l8Op.tab18 spec_l8Op.bits18 (fun HT_ HW_ => ?_)
          generalize wc.drew = w54 at aE HB hHeld ⊢
          refine pA 0 103 ?_
          refine t4_ 1 104 ?_
          refine pA 2 105 ?_
          refine pA 3 106 ?_
          refine pA 4 107 ?_
          refine pA 6 109 ?_
          refine pA 7 110 ?_
          refine t4_ 5 108 ?_
          refine pA 8 111 ?_
          refine pA 9 112 ?_
          refine pA 10 113 ?_
          refine pB 11 114 ?_
          refine pB 12 115 ?_
          refine pB 13 116 ?_
          refine pB 14 117 ?_
          refine pB 15 118 ?_
          refine pB 16 119 ?_
          refine pA 17 120 ?_
          refine pA 18 121 ?_
          refine pB 19 122 ?_
          refine pB 20 123 ?_
          refine pB 21 124 ?_
          refine pB 22 125 ?_
          refine pB 23 126 ?_
          refine pB 24 127 ?_
          refine pA 25 128 ?_
          refine pA 26 129 ?_
          refine pB 27 130 ?_
          refine pB 28 131 ?_
          refine pB 29 132 ?_
          refine pB 30 133 ?_
          refine pB 31 134 ?_
          refine pB 32 135 ?_
          refine pB 33 136 ?_
          refine pB 34 137 ?_
          refine pB 35 138 ?_
          refine pB 36 139 ?_
          refine pB 37 140 ?_
          refine pB 38 141 ?_
          refine pA 39 142 ?_
          refine done_ (done_of HT_.out z0) ?_
          try go_wp2
          go_ret2
          exact ⟨_, y4, y20, y17⟩
         ·rw [if_neg gm] at H
          have c53b0 : (a1_1 == (a0.size : Int)) = false := qF gm
          have c53b1 : (a1_1 != (a0.size : Int)) = true := nT gm
          obtain ⟨cg, i2⟩ : ∃ j_ : Int, (wrap64 (a1_1 - 1)) = j_ := ⟨_, rfl⟩
          replace H : (if 0 ≤ (cg) then (if (cg) < (a0.size : Int) then (if (bt a0 (cg)) = 47 then (if 0 ≤ a1_1 then (if a1_1 < (a0.size : Int) then ((spec_l1Open.f (bt a0 a1_1)).bind fun nX => (if nX = true then ((spec_l1Match.f kj16 a0 (cg)).bind fun dh => (if 0 ≤ dh then (if dh < (a0.size : Int) then (if (bt a0 dh) = (bt a0 a1_1) then ((spec_l3Splice.f kj16 a0 (cg) (wrap64 (a1_1 + 1)) (⟨#[]⟩ : ByteArray)).bind fun nW => (some (nW, true))) else (some (([] : List (S61)), false))) else (none)) else (none))) else (some (([] : List (S61)), false)))) else (none)) else (none)) else (some (([] : List (S61)), false))) else (none)) else (none)) = some (r1, r2) := by first | (rw [i2] at H; exact H) | (simp only [i2] at H ⊢; exact H)
          have hji55w : (IntKind.i64.wrap (a1_1 - 1)) = cg := (i64_w _).trans i2
          by_cases ia : 0 ≤ (cg)
          ·rw [if_pos ia] at H
           have c56b0 : decide (0 ≤ (cg)) = true := dT ia
           clear ia
           by_cases gB : (cg) < (a0.size : Int)
           ·rw [if_pos gB] at H
            have c57b0 : decide ((cg) < (a0.size : Int)) = true := dT gB
            clear gB
            by_cases nD : (bt a0 (cg)) = 47
            ·rw [if_pos nD] at H
             have c59b0 : ((bt a0 (cg)) == 47) = true := qT nD
             have c59b1 : ((bt a0 (cg)) != 47) = false := nF nD
             clear nD
             by_cases i7 : 0 ≤ a1_1
             ·rw [if_pos i7] at H
              have c60b0 : decide (0 ≤ a1_1) = true := dT i7
              clear i7
              by_cases kd : a1_1 < (a0.size : Int)
              ·rw [if_pos kd] at H
               have c61b0 : decide (a1_1 < (a0.size : Int)) = true := dT kd
               clear kd
               obtain ⟨nX, rM, H⟩ := oA_ H
               try dsimp only at H
               by_cases nH : nX = true
               ·subst nH
                rw [if_pos rfl] at H
                obtain ⟨dh, qo, H⟩ := oA_ H
                try dsimp only at H
                by_cases k4 : 0 ≤ dh
                ·rw [if_pos k4] at H
                 have c66b0 : decide (0 ≤ dh) = true := dT k4
                 clear k4
                 by_cases nC : dh < (a0.size : Int)
                 ·rw [if_pos nC] at H
                  have c67b0 : decide (dh < (a0.size : Int)) = true := dT nC
                  clear nC
                  by_cases pm : (bt a0 dh) = (bt a0 a1_1)
                  ·rw [if_pos pm] at H
                   have c70b0 : ((bt a0 dh) == (bt a0 a1_1)) = true := qT pm
                   have c70b1 : ((bt a0 dh) != (bt a0 a1_1)) = false := nF pm
                   clear pm
                   obtain ⟨nW, A71, H⟩ := oA_ H
                   try dsimp only at H
                   simp only [Option.some.injEq, Prod.mk.injEq] at H
                   obtain ⟨rfl, rfl⟩ := H
                   try go_wp2
                   replace aE := aM (ai aE.out)
                   replace HB := aM (bD HB.out)
                   have p58 : 0 ≤ ((cg) : Int) := oD z2
                   have q58 : (cg) < (a0.size : Int) := oD z2
                   have hx58 := bt_at a0 (cg)
                   replace p58 := eq_true p58
                   replace q58 := eq_true q58
                   have p62 : 0 ≤ (a1_1 : Int) := oD z2
                   have q62 : a1_1 < (a0.size : Int) := oD z2
                   have hx62 := bt_at a0 a1_1
                   replace p62 := eq_true p62
                   replace q62 := eq_true q62
                   refine start_ (n := 40) (S := fun w' => w'.cell? ⟨aT, 0, none⟩ = some (.int .i64 a1_0) ∧ w'.cell? ⟨aT, 1, none⟩ = some (.int .i64 a1_1) ∧ w'.cell? ⟨aT, 2, none⟩ = some (.int .i64 a1_2) ∧ w'.cell? ⟨aT, 3, none⟩ = some (.string a1_3)) (ds := []) #[false, false, false, false, false, false, false, false, false, false, false, false, false, false, false, false, false, false, false, false, false, false, false, false, false, false, false, false, false, false, false, false, false, false, false, false, false, false, false, false] z0 rfl rfl ⟨(bC aE.out 0).trans rfl, (bC aE.out 1).trans rfl, (bC aE.out 2).trans rfl, (bC aE.out 3).trans rfl⟩ (fun hHeld => ?_); refine with_tabW spec_l8Op.tab18 spec_l8Op.bits18 (fun HT_ HW_ => ?_)
                   generalize wc.drew = w72 at aE HB hHeld ⊢
                   refine pA 0 103 ?_
                   refine t4_ 1 104 ?_
                   refine pA 2 105 ?_
                   refine pA 3 106 ?_
                   refine pA 4 107 ?_
                   refine pA 6 109 ?_
                   refine pA 7 110 ?_
                   refine t4_ 5 108 ?_
                   refine pA 8 111 ?_
                   refine pA 9 112 ?_
                   refine pA 10 113 ?_
                   refine pA 11 114 ?_
                   refine pA 12 115 ?_
                   refine t4_ 13 116 ?_
                   refine pA 14 117 ?_
                   refine t4_ 15 118 ?_
                   refine pA 16 119 ?_
                   refine pA 17 120 ?_
                   refine pA 18 121 ?_
                   refine pA 19 122 ?_
                   refine pA 20 123 ?_
                   refine t4_ 21 124 ?_
                   refine t4_ 22 125 ?_
                   refine one_ (i := 23) (N := some 126) #[true, true, true, true, true, true, true, true, true, true, true, true, true, true, true, true, true, true, true, true, true, true, true, true, false, false, false, false, false, false, false, false, false, false, false, false, false, false, false, false] rfl rfl (one_of HT_.out z0) (by decide) (fun K hK => ?_)
                   refine goes_ Try.func29 z0 rfl #[.int .u8 (bt a0 a1_1)] (by rfl) rfl rfl z14 ?_
                   with_reducible refine (spec_l1Open.calls (bt a0 a1_1) true _ rM.out).mono ?_
                   rintro e w' ⟨rfl, ⟨nd, rfl⟩⟩
                   refine ⟨_, rfl, ?_⟩
                   refine hK.out _ _ ⟨(bC aE.out 0).trans rfl, (bC aE.out 1).trans rfl, (bC aE.out 2).trans rfl, (bC aE.out 3).trans rfl⟩ (fun hHeld => ?_)
                   clear hK K
                   refine norm_ (a' := ?_) ?_ ?_
                   rotate_left
                   ·show Act.put _ (some 126) _ = _
                    simp only [Act.put, sA, sB, sC, i64_w, i32_w]
                    rfl
                   refine pA 24 127 ?_
                   refine pA 25 128 ?_
                   refine pA 26 129 ?_
                   refine pA 27 130 ?_
                   refine pA 28 131 ?_
                   refine pA 29 132 ?_
                   refine pA 34 137 ?_
                   refine pA 35 138 ?_
                   refine t4_ 30 133 ?_
                   refine pA 31 134 ?_
                   refine t4_ 36 139 ?_
                   refine t4_ 37 140 ?_
                   refine one_ (i := 32) (N := some 135) #[true, true, true, true, true, true, true, true, true, true, true, true, true, true, true, true, true, true, true, true, true, true, true, true, true, true, true, true, true, true, true, true, true, false, true, true, true, true, false, false] rfl rfl (one_of HT_.out z0) (by decide) (fun K hK => ?_)
                   refine goes_ Try.func31 z0 rfl #[.string a0, .int .i64 cg] (by rfl) rfl rfl (by (try simp only [List.map_toArray, List.map_cons, List.map_nil]); first | done | (simp only [i2]; rfl) | rfl | (simp only [List.length_drop, List.length_take]; rfl)) ?_
                   with_reducible refine (spec_l1Match.calls kj16 a0 cg dh _ qo.out).mono ?_
                   rintro e w' ⟨rfl, ⟨nd, rfl⟩⟩
                   refine ⟨_, rfl, ?_⟩
                   have p68 : 0 ≤ (dh : Int) := oD z2
                   have q68 : dh < (a0.size : Int) := oD z2
                   have hx68 := bt_at a0 dh
                   replace p68 := eq_true p68
                   replace q68 := eq_true q68
                   have p69 : 0 ≤ (a1_1 : Int) := oD z2
                   have q69 : a1_1 < (a0.size : Int) := oD z2
                   have hx69 := bt_at a0 a1_1
                   replace p69 := eq_true p69
                   replace q69 := eq_true q69
                   refine hK.out _ _ ⟨(bC aE.out 0).trans rfl, (bC aE.out 1).trans rfl, (bC aE.out 2).trans rfl, (bC aE.out 3).trans rfl⟩ (fun hHeld => ?_)
                   clear hK K
                   refine norm_ (a' := ?_) ?_ ?_
                   rotate_left
                   ·show Act.put _ (some 135) _ = _
                    simp only [Act.put, sA, sB, sC, i64_w, i32_w]
                    rfl
                   refine t4_ 33 136 ?_
                   refine pA 38 141 ?_
                   refine pA 39 142 ?_
                   refine done_ (done_of HT_.out z0) ?_
                   obtain ⟨hcz73_0, hcz73_1, hcz73_2, hcz73_3, hfz73_0, hfz73_1, hfz73_2, hfz73_3⟩ := cc4 aE.out
                   try go_wp2_with (first | ((with_reducible refine av (f := 72) rfl ?_); refine ay (some 150) rfl rfl Try.func72 z0 rfl #[.string a0, .int .i64 cg, .int .i64 (wrap64 (a1_1 + 1)), .string ⟨#[]⟩] rfl (by (try simp only [List.map_toArray, List.map_cons, List.map_nil]); first | done | (simp only [i2]; rfl) | rfl | (simp only [List.length_drop, List.length_take]; rfl)) ?_; (with_reducible refine (spec_l3Splice.calls kj16 a0 cg (wrap64 (a1_1 + 1)) (⟨#[]⟩ : ByteArray) nW _ A71.out).mono ?_); rintro e w74 ⟨v198, rfl, ho0, hb⟩; refine ⟨_, rfl, ?_⟩; have HO199 := aM (az ho0 (aq z16)); replace aE := aM (bK_ aE.out hb); replace HB := aM (ap z16 hb); (try clear hb); (try clear ho0)))
                   go_ret2
                   exact ⟨_, y26, by (with_reducible repeat (first | apply ac | apply ab | apply aa)); exact HO199.out, y17⟩
                  ·rw [if_neg pm] at H
                   have c70b0 : ((bt a0 dh) == (bt a0 a1_1)) = false := qF pm
                   have c70b1 : ((bt a0 dh) != (bt a0 a1_1)) = true := nT pm
                   simp only [Option.some.injEq, Prod.mk.injEq] at H
                   obtain ⟨rfl, rfl⟩ := H
                   try go_wp2
                   replace aE := aM (ai aE.out)
                   replace HB := aM (bD HB.out)
                   have p58 : 0 ≤ ((cg) : Int) := oD z2
                   have q58 : (cg) < (a0.size : Int) := oD z2
                   have hx58 := bt_at a0 (cg)
                   replace p58 := eq_true p58
                   replace q58 := eq_true q58
                   have p62 : 0 ≤ (a1_1 : Int) := oD z2
                   have q62 : a1_1 < (a0.size : Int) := oD z2
                   have hx62 := bt_at a0 a1_1
                   replace p62 := eq_true p62
                   replace q62 := eq_true q62
                   refine start_ (n := 40) (S := fun w' => w'.cell? ⟨aT, 0, none⟩ = some (.int .i64 a1_0) ∧ w'.cell? ⟨aT, 1, none⟩ = some (.int .i64 a1_1) ∧ w'.cell? ⟨aT, 2, none⟩ = some (.int .i64 a1_2) ∧ w'.cell? ⟨aT, 3, none⟩ = some (.string a1_3)) (ds := []) #[false, false, false, false, false, false, false, false, false, false, false, false, false, false, false, false, false, false, false, false, false, false, false, false, false, false, false, false, false, false, false, false, false, false, false, false, false, false, false, false] z0 rfl rfl ⟨(bC aE.out 0).trans rfl, (bC aE.out 1).trans rfl, (bC aE.out 2).trans rfl, (bC aE.out 3).trans rfl⟩ (fun hHeld => ?_); refine with_tabW spec_l8Op.tab18 spec_l8Op.bits18 (fun HT_ HW_ => ?_)
                   generalize wc.drew = w75 at aE HB hHeld ⊢
                   refine pA 0 103 ?_
                   refine t4_ 1 104 ?_
                   refine pA 2 105 ?_
                   refine pA 3 106 ?_
                   refine pA 4 107 ?_
                   refine pA 6 109 ?_
                   refine pA 7 110 ?_
                   refine t4_ 5 108 ?_
                   refine pA 8 111 ?_
                   refine pA 9 112 ?_
                   refine pA 10 113 ?_
                   refine pA 11 114 ?_
                   refine pA 12 115 ?_
                   refine t4_ 13 116 ?_
                   refine pA 14 117 ?_
                   refine t4_ 15 118 ?_
                   refine pA 16 119 ?_
                   refine pA 17 120 ?_
                   refine pA 18 121 ?_
                   refine pA 19 122 ?_
                   refine pA 20 123 ?_
                   refine t4_ 21 124 ?_
                   refine t4_ 22 125 ?_
                   refine one_ (i := 23) (N := some 126) #[true, true, true, true, true, true, true, true, true, true, true, true, true, true, true, true, true, true, true, true, true, true, true, true, false, false, false, false, false, false, false, false, false, false, false, false, false, false, false, false] rfl rfl (one_of HT_.out z0) (by decide) (fun K hK => ?_)
                   refine goes_ Try.func29 z0 rfl #[.int .u8 (bt a0 a1_1)] (by rfl) rfl rfl z14 ?_
                   with_reducible refine (spec_l1Open.calls (bt a0 a1_1) true _ rM.out).mono ?_
                   rintro e w' ⟨rfl, ⟨nd, rfl⟩⟩
                   refine ⟨_, rfl, ?_⟩
                   refine hK.out _ _ ⟨(bC aE.out 0).trans rfl, (bC aE.out 1).trans rfl, (bC aE.out 2).trans rfl, (bC aE.out 3).trans rfl⟩ (fun hHeld => ?_)
                   clear hK K
                   refine norm_ (a' := ?_) ?_ ?_
                   rotate_left
                   ·show Act.put _ (some 126) _ = _
                    simp only [Act.put, sA, sB, sC, i64_w, i32_w]
                    rfl
                   refine pA 24 127 ?_
                   refine pA 25 128 ?_
                   refine pA 26 129 ?_
                   refine pA 27 130 ?_
                   refine pA 28 131 ?_
                   refine pA 29 132 ?_
                   refine pA 34 137 ?_
                   refine pA 35 138 ?_
                   refine t4_ 30 133 ?_
                   refine pA 31 134 ?_
                   refine t4_ 36 139 ?_
                   refine t4_ 37 140 ?_
                   refine one_ (i := 32) (N := some 135) #[true, true, true, true, true, true, true, true, true, true, true, true, true, true, true, true, true, true, true, true, true, true, true, true, true, true, true, true, true, true, true, true, true, false, true, true, true, true, false, false] rfl rfl (one_of HT_.out z0) (by decide) (fun K hK => ?_)
                   refine goes_ Try.func31 z0 rfl #[.string a0, .int .i64 cg] (by rfl) rfl rfl (by (try simp only [List.map_toArray, List.map_cons, List.map_nil]); first | done | (simp only [i2]; rfl) | rfl | (simp only [List.length_drop, List.length_take]; rfl)) ?_
                   with_reducible refine (spec_l1Match.calls kj16 a0 cg dh _ qo.out).mono ?_
                   rintro e w' ⟨rfl, ⟨nd, rfl⟩⟩
                   refine ⟨_, rfl, ?_⟩
                   have p68 : 0 ≤ (dh : Int) := oD z2
                   have q68 : dh < (a0.size : Int) := oD z2
                   have hx68 := bt_at a0 dh
                   replace p68 := eq_true p68
                   replace q68 := eq_true q68
                   have p69 : 0 ≤ (a1_1 : Int) := oD z2
                   have q69 : a1_1 < (a0.size : Int) := oD z2
                   have hx69 := bt_at a0 a1_1
                   replace p69 := eq_true p69
                   replace q69 := eq_true q69
                   refine hK.out _ _ ⟨(bC aE.out 0).trans rfl, (bC aE.out 1).trans rfl, (bC aE.out 2).trans rfl, (bC aE.out 3).trans rfl⟩ (fun hHeld => ?_)
                   clear hK K
                   refine norm_ (a' := ?_) ?_ ?_
                   rotate_left
                   ·show Act.put _ (some 135) _ = _
                    simp only [Act.put, sA, sB, sC, i64_w, i32_w]
                    rfl
                   refine t4_ 33 136 ?_
                   refine pA 38 141 ?_
                   refine pA 39 142 ?_
                   refine done_ (done_of HT_.out z0) ?_
                   try go_wp2
                   go_ret2
                   exact ⟨_, y26, y20, y17⟩
                 ·rw [if_neg nC] at H
                  exact absurd H (by simp)
                ·rw [if_neg k4] at H
                 exact absurd H (by simp)
               ·replace nH := Bool.eq_false_iff.mpr nH
                subst nH
                rw [if_neg nF_] at H
                simp only [Option.some.injEq, Prod.mk.injEq] at H
                obtain ⟨rfl, rfl⟩ := H
                try go_wp2
                replace aE := aM (ai aE.out)
                replace HB := aM (bD HB.out)
                have p58 : 0 ≤ ((cg) : Int) := oD z2
                have q58 : (cg) < (a0.size : Int) := oD z2
                have hx58 := bt_at a0 (cg)
                replace p58 := eq_true p58
                replace q58 := eq_true q58
                have p62 : 0 ≤ (a1_1 : Int) := oD z2
                have q62 : a1_1 < (a0.size : Int) := oD z2
                have hx62 := bt_at a0 a1_1
                replace p62 := eq_true p62
                replace q62 := eq_true q62
                refine start_ (n := 40) (S := fun w' => w'.cell? ⟨aT, 0, none⟩ = some (.int .i64 a1_0) ∧ w'.cell? ⟨aT, 1, none⟩ = some (.int .i64 a1_1) ∧ w'.cell? ⟨aT, 2, none⟩ = some (.int .i64 a1_2) ∧ w'.cell? ⟨aT, 3, none⟩ = some (.string a1_3)) (ds := []) #[false, false, false, false, false, false, false, false, false, false, false, false, false, false, false, false, false, false, false, false, false, false, false, false, false, false, false, false, false, false, false, false, false, false, false, false, false, false, false, false] z0 rfl rfl ⟨(bC aE.out 0).trans rfl, (bC aE.out 1).trans rfl, (bC aE.out 2).trans rfl, (bC aE.out 3).trans rfl⟩ (fun hHeld => ?_); refine with_tabW spec_l8Op.tab18 spec_l8Op.bits18 (fun HT_ HW_ => ?_)
                generalize wc.drew = w76 at aE HB hHeld ⊢
                refine pA 0 103 ?_
                refine t4_ 1 104 ?_
                refine pA 2 105 ?_
                refine pA 3 106 ?_
                refine pA 4 107 ?_
                refine pA 6 109 ?_
                refine pA 7 110 ?_
                refine t4_ 5 108 ?_
                refine pA 8 111 ?_
                refine pA 9 112 ?_
                refine pA 10 113 ?_
                refine pA 11 114 ?_
                refine pA 12 115 ?_
                refine t4_ 13 116 ?_
                refine pA 14 117 ?_
                refine t4_ 15 118 ?_
                refine pA 16 119 ?_
                refine pA 17 120 ?_
                refine pA 18 121 ?_
                refine pA 19 122 ?_
                refine pA 20 123 ?_
                refine t4_ 21 124 ?_
                refine t4_ 22 125 ?_
                refine one_ (i := 23) (N := some 126) #[true, true, true, true, true, true, true, true, true, true, true, true, true, true, true, true, true, true, true, true, true, true, true, true, false, false, false, false, false, false, false, false, false, false, false, false, false, false, false, false] rfl rfl (one_of HT_.out z0) (by decide) (fun K hK => ?_)
                refine goes_ Try.func29 z0 rfl #[.int .u8 (bt a0 a1_1)] (by rfl) rfl rfl z14 ?_
                with_reducible refine (spec_l1Open.calls (bt a0 a1_1) false _ rM.out).mono ?_
                rintro e w' ⟨rfl, ⟨nd, rfl⟩⟩
                refine ⟨_, rfl, ?_⟩
                refine hK.out _ _ ⟨(bC aE.out 0).trans rfl, (bC aE.out 1).trans rfl, (bC aE.out 2).trans rfl, (bC aE.out 3).trans rfl⟩ (fun hHeld => ?_)
                clear hK K
                refine norm_ (a' := ?_) ?_ ?_
                rotate_left
                ·show Act.put _ (some 126) _ = _
                 simp only [Act.put, sA, sB, sC, i64_w, i32_w]
                 rfl
                refine pA 24 127 ?_
                refine pA 25 128 ?_
                refine pA 26 129 ?_
                refine pB 27 130 ?_
                refine pB 28 131 ?_
                refine pB 29 132 ?_
                refine pB 30 133 ?_
                refine pB 31 134 ?_
                refine pB 32 135 ?_
                refine pB 33 136 ?_
                refine pB 34 137 ?_
                refine pB 35 138 ?_
                refine pB 36 139 ?_
                refine pB 37 140 ?_
                refine pB 38 141 ?_
                refine pA 39 142 ?_
                refine done_ (done_of HT_.out z0) ?_
                try go_wp2
                go_ret2
                exact ⟨_, y26, y20, y17⟩
              ·rw [if_neg kd] at H
               exact absurd H (by simp)
             ·rw [if_neg i7] at H
              exact absurd H (by simp)
            ·rw [if_neg nD] at H
             have c59b0 : ((bt a0 (cg)) == 47) = false := qF nD
             have c59b1 : ((bt a0 (cg)) != 47) = true := nT nD
             simp only [Option.some.injEq, Prod.mk.injEq] at H
             obtain ⟨rfl, rfl⟩ := H
             try go_wp2
             replace aE := aM (ai aE.out)
             replace HB := aM (bD HB.out)
             have p58 : 0 ≤ ((cg) : Int) := oD z2
             have q58 : (cg) < (a0.size : Int) := oD z2
             have hx58 := bt_at a0 (cg)
             replace p58 := eq_true p58
             replace q58 := eq_true q58
             refine start_ (n := 40) (S := fun w' => w'.cell? ⟨aT, 0, none⟩ = some (.int .i64 a1_0) ∧ w'.cell? ⟨aT, 1, none⟩ = some (.int .i64 a1_1) ∧ w'.cell? ⟨aT, 2, none⟩ = some (.int .i64 a1_2) ∧ w'.cell? ⟨aT, 3, none⟩ = some (.string a1_3)) (ds := []) #[false, false, false, false, false, false, false, false, false, false, false, false, false, false, false, false, false, false, false, false, false, false, false, false, false, false, false, false, false, false, false, false, false, false, false, false, false, false, false, false] z0 rfl rfl ⟨(bC aE.out 0).trans rfl, (bC aE.out 1).trans rfl, (bC aE.out 2).trans rfl, (bC aE.out 3).trans rfl⟩ (fun hHeld => ?_); refine with_tabW spec_l8Op.tab18 spec_l8Op.bits18 (fun HT_ HW_ => ?_)
             generalize wc.drew = w77 at aE HB hHeld ⊢
             refine pA 0 103 ?_
             refine t4_ 1 104 ?_
             refine pA 2 105 ?_
             refine pA 3 106 ?_
             refine pA 4 107 ?_
             refine pA 6 109 ?_
             refine pA 7 110 ?_
             refine t4_ 5 108 ?_
             refine pA 8 111 ?_
             refine pA 9 112 ?_
             refine pA 10 113 ?_
             refine pA 11 114 ?_
             refine pA 12 115 ?_
             refine t4_ 13 116 ?_
             refine pA 14 117 ?_
             refine t4_ 15 118 ?_
             refine pA 16 119 ?_
             refine pA 17 120 ?_
             refine pA 18 121 ?_
             refine pB 19 122 ?_
             refine pB 20 123 ?_
             refine pB 21 124 ?_
             refine pB 22 125 ?_
             refine pB 23 126 ?_
             refine pB 24 127 ?_
             refine pA 25 128 ?_
             refine pA 26 129 ?_
             refine pB 27 130 ?_
             refine pB 28 131 ?_
             refine pB 29 132 ?_
             refine pB 30 133 ?_
             refine pB 31 134 ?_
             refine pB 32 135 ?_
             refine pB 33 136 ?_
             refine pB 34 137 ?_
             refine pB 35 138 ?_
             refine pB 36 139 ?_
             refine pB 37 140 ?_
             refine pB 38 141 ?_
             refine pA 39 142 ?_
             refine done_ (done_of HT_.out z0) ?_
             try go_wp2
             go_ret2
             exact ⟨_, y26, y20, y17⟩
           ·rw [if_neg gB] at H
            exact absurd H (by simp)
          ·rw [if_neg ia] at H
           exact absurd H (by simp)
       ·exact absurd HKD.out nE
 ·exact absurd (A3.out.symm.trans HTR.out) (fun e_ => c4 (sI e_))
set_option maxHeartbeats 8000000 in
set_option maxRecDepth 100000 in
theorem spec_l8Op.callsO (k : Nat) (a0 : ByteArray) (a1_0 : Int) (a1_1 : Int) (a1_2 : Int) (a1_3 : ByteArray) (r1 : List (S61)) (r2 : Bool) (w : World) (HTR : Aside0 (spec_l1In.f a1_1 0 (a0.size : Int) = some true)) (HKD : Aside0 (a1_0 ≠ 1 ∧ a1_0 ≠ 2 ∧ a1_0 ≠ 3 ∧ a1_0 ≠ 5 ∧ a1_0 ≠ 6)) (h : spec_l8Op.f k a0 a1_0 a1_1 a1_2 a1_3 = some (r1, r2)) :
  Calls Try.prog 53 #[.string a0, .agg #[.int .i64 a1_0, .int .i64 a1_1, .int .i64 a1_2, .string a1_3]] w fun e w' => ∃ v0_ : Value, e = .returned (.tuple #[v0_, .bool r2]) ∧ Kd.R k61 61 w' w.heap.size (fun _ => True) v0_ r1 ∧ Below w.heap.size w w' := by
 have hu29 := Try.underlying29
 have hu61 := Try.underlying61
 have HB := aM (Below.refl w.heap.size w)
 have H : ((spec_l1In.f a1_1 0 (a0.size : Int)).bind fun di => (if di = true then (if a1_0 = 1 then ((spec_l3Splice.f k a0 a1_1 a1_1 a1_3).bind fun dP => (if a1_3.toList = ([] : List UInt8) then (some (dP, false)) else ((spec_GoodText.f k a1_3).bind fun eY => (some (dP, eY))))) else (if a1_0 = 2 then (spec_l8Op.j0 k a0 a1_0 (a1_0 == 2) a1_0 a1_1 a1_2 a1_3) else (spec_l8Op.j0 k a0 a1_0 (a1_0 == 3) a1_0 a1_1 a1_2 a1_3))) else (some (([] : List (S61)), false)))) = some (r1, r2) := h
 clear h
 obtain ⟨di, A3, H⟩ := oA_ H
 try dsimp only at H
 by_cases c4 : di = true
 ·subst c4
  rw [if_pos rfl] at H
  by_cases c5 : a1_0 = 1
  ·exact absurd c5 (by have := HKD.out; omega)
  ·rw [if_neg c5] at H
   have c5b0 : (a1_0 == 1) = false := qF c5
   have c5b1 : (a1_0 != 1) = true := nT c5
   have e6 := aM H
   clear H
   go_enter Try.func53, Try.ntmps53
   go_upto_if 33 with (first | ((with_reducible refine aw (N := 3) rfl ?_); (try (refine gate_guard (by rfl) ?_; dsimp only)); refine ax ?hg (N := 3) ?hd (cs := #[.int .i64 a1_0, .int .i64 a1_1, .int .i64 a1_2, .string a1_3]) (t := 29) ?hr ?_; (case hd => rfl); (case hg => rfl); (case hr => first | (go_simp; done) | (go_simp; rfl)); intro aT hg w18 hbox hb; have aE := aM (hbox); have jc := aM ((by rw [hg]; exact (aq z13) : w.heap.size ≤ aT)); have jf := aM ((by rw [hg]; exact (aq z13) : w.heap.size ≤ aT)); replace HB := aM (ap z13 hb); clear hb hbox hg; obtain ⟨dH, dG, dE, dD, dz, dy, dx, dw⟩ := cc4 aE.out) | ((with_reducible refine av (f := 71) rfl ?_); refine ay (some 11) rfl rfl Try.func71 z0 rfl #[.int .i64 a1_1, .int .i64 0, .int .i64 (a0.size : Int)] rfl z14 ?_; (with_reducible refine (spec_l1In.calls a1_1 0 (a0.size : Int) true _ A3.out).mono ?_); rintro e w' ⟨rfl, ⟨nd, rfl⟩⟩; refine ⟨_, rfl, ?_⟩))
   (try simp only [Act.put, sA, sB, sC])
   go_cut [33] (fun v33 wc => ∃ (kq : Nat) (x33_16 : Bool), v33 = .bool x33_16 ∧ Aside0 (x33_16 = true ↔ (a1_0 = 2 ∨ a1_0 = 3)) ∧ Aside0 (spec_l8Op.j0 kq a0 a1_0 x33_16 a1_0 a1_1 a1_2 a1_3 = some (r1, r2)) ∧ Aside0 (kq ≤ k) ∧ Aside0 (wc.heap[aT]? = some (.cells #[.int .i64 a1_0, .int .i64 a1_1, .int .i64 a1_2, .string a1_3] 29 (0, 0))) ∧ Aside0 (Below w.heap.size w wc))
   case first =>
    have H := e6.out
    clear e6
    by_cases cE : a1_0 = 2
    ·rw [if_pos cE] at H
     have c20b0 : (a1_0 == 2) = true := qT cE
     have c20b1 : (a1_0 != 2) = false := nF cE
     clear cE
     (first | rw [c20b0] | (simp only [i64_w, i32_w]; rw [c20b0]) | skip)
     have H' := aM H
     clear H
     go_wp2
     go_meet
     case rel => exact ⟨_, ((a1_0 == 2)), z1, ⟨⟨fun h_ => .inl (beq_iff_eq.mp h_), fun _ => c20b0⟩⟩, H', ⟨y0⟩, ⟨y13⟩, ⟨y17⟩⟩
    ·rw [if_neg cE] at H
     have c20b0 : (a1_0 == 2) = false := qF cE
     have c20b1 : (a1_0 != 2) = true := nT cE
     (first | rw [c20b0] | (simp only [i64_w, i32_w]; rw [c20b0]) | skip)
     have H' := aM H
     clear H
     go_wp2
     go_meet
     case rel => exact ⟨_, ((a1_0 == 3)), z1, ⟨⟨fun h_ => .inr (beq_iff_eq.mp h_), fun h_ => h_.elim (fun e_ => absurd (qT e_) (by rw [c20b0]; decide)) (fun e_ => qT e_)⟩⟩, H', ⟨y0⟩, ⟨y13⟩, ⟨y17⟩⟩
   case rest =>
    clear e6
    try clear c4
    try clear c5
    try clear c5b0
    try clear c5b1
    try clear dH
    try clear dG
    try clear dE
    try clear dD
    try clear dz
    try clear dy
    try clear dx
    try clear dw
    obtain ⟨kq, x33_16, rfl, HX33, HA, mg, aE, HB⟩ := hcut
    cases kq with
    | zero => exact absurd HA.out (by simp [spec_l8Op.j0])
    | succ kj16 =>
     have H := HA.out
     clear HA
     simp only [spec_l8Op.j0] at H
     by_cases dX : x33_16 = true
     ·exact absurd (HX33.out.mp dX) (by have := HKD.out; omega)
     ·replace dX := Bool.eq_false_iff.mpr dX
      subst dX
      rw [if_neg nF_] at H
      by_cases d4 : a1_0 = 5
      ·exact absurd d4 (by have := HKD.out; omega)
      ·rw [if_neg d4] at H
       have c46b0 : (a1_0 == 5) = false := qF d4
       have c46b1 : (a1_0 != 5) = true := nT d4
       by_cases nE : a1_0 = 6
       ·exact absurd nE (by have := HKD.out; omega)
       ·rw [if_neg nE] at H
        have c50b0 : (a1_0 == 6) = false := qF nE
        have c50b1 : (a1_0 != 6) = true := nT nE
        have rr := aM H
        clear H
        go_upto_region 21 with (fail)
        go_cut [163] (fun v163 wc => ∃ (kq : Nat) (x163_77 : Bool), v163 = .bool x163_77 ∧ Aside0 (spec_l8Op.j2 kq a0 x163_77 a1_0 a1_1 a1_2 a1_3 = some (r1, r2)) ∧ Aside0 (kq ≤ kj16) ∧ Aside0 (wc.heap[aT]? = some (.cells #[.int .i64 a1_0, .int .i64 a1_1, .int .i64 a1_2, .string a1_3] 29 (0, 0))) ∧ Aside0 (Below w.heap.size w wc))
        case first =>
         have H := rr.out
         clear rr
         by_cases pL : a1_1 = (a0.size : Int)
         ·rw [if_pos pL] at H
          have c79b0 : (a1_1 == (a0.size : Int)) = true := qT pL
          have c79b1 : (a1_1 != (a0.size : Int)) = false := nF pL
          clear pL
          (first | rw [c79b0] | (simp only [i64_w, i32_w]; rw [c79b0]) | skip)
          have H' := aM H
          clear H
          obtain ⟨hcz80_0, hcz80_1, hcz80_2, hcz80_3, hfz80_0, hfz80_1, hfz80_2, hfz80_3⟩ := cc4 aE.out
          go_wp2
          go_meet
          case rel => exact ⟨_, (true), z1, H', ⟨by have := mg.out; first | omega | exact Nat.le_refl _⟩, ⟨y13⟩, ⟨y17⟩⟩
         ·rw [if_neg pL] at H
          have c79b0 : (a1_1 == (a0.size : Int)) = false := qF pL
          have c79b1 : (a1_1 != (a0.size : Int)) = true := nT pL
          (first | rw [c79b0] | (simp only [i64_w, i32_w]; rw [c79b0]) | skip)
          by_cases kb : 0 ≤ a1_1
          ·rw [if_pos kb] at H
           have c81b0 : decide (0 ≤ a1_1) = true := dT kb
           clear kb
           by_cases nB : a1_1 < (a0.size : Int)
           ·rw [if_pos nB] at H
            have c82b0 : decide (a1_1 < (a0.size : Int)) = true := dT nB
            clear nB
            obtain ⟨pF, A84, H⟩ := oA_ H
            try dsimp only at H
            have H' := aM H
            clear H
            obtain ⟨jO, jN, jM, mX, ju, jt, js, mv⟩ := cc4 aE.out
            have p83 : 0 ≤ (a1_1 : Int) := oD z2
            have q83 : a1_1 < (a0.size : Int) := oD z2
            have hx83 := bt_at a0 a1_1
            replace p83 := eq_true p83
            replace q83 := eq_true q83
            go_wp2_with (first | (go_at_call 29; (with_reducible refine (spec_l1Open.calls (bt a0 a1_1) pF _ A84.out).mono ?_); rintro e w' ⟨rfl, ⟨nd, rfl⟩⟩))
            go_meet
            case rel => exact ⟨_, (!pF), z1, H', ⟨by have := mg.out; first | omega | exact Nat.le_refl _⟩, ⟨y13⟩, ⟨y17⟩⟩
           ·rw [if_neg nB] at H
            exact absurd H (by simp)
          ·rw [if_neg kb] at H
           exact absurd H (by simp)
        case rest =>
         clear rr
         try clear c5
         try clear nE
         try clear c50b0
         try clear c50b1
         obtain ⟨kq, x163_77, rfl, HA, HJ77, aE, HB⟩ := hcut
         cases kq with
         | zero => exact absurd HA.out (by simp [spec_l8Op.j2])
         | succ kj77 =>
          have H := HA.out
          clear HA
          simp only [spec_l8Op.j2] at H
          by_cases j9 : x163_77 = true
          ·subst j9
           rw [if_pos rfl] at H
           simp only [Option.some.injEq, Prod.mk.injEq] at H
           obtain ⟨rfl, rfl⟩ := H
           go_wp2
           go_ret2
           exact ⟨_, y4, y20, y17⟩
          ·replace j9 := Bool.eq_false_iff.mpr j9
           subst j9
           rw [if_neg nF_] at H
           obtain ⟨dO, rL, H⟩ := oA_ H
           try dsimp only at H
           by_cases rm : a1_0 = 4
           ·rw [if_pos rm] at H
            have c88b0 : (a1_0 == 4) = true := qT rm
            have c88b1 : (a1_0 != 4) = false := nF rm
            clear rm
            by_cases th : 0 ≤ a1_1
            ·rw [if_pos th] at H
             have c89b0 := eq_true th
             have c89b1 : decide (0 ≤ a1_1) = true := dT th
             clear th
             by_cases pl : a1_1 ≤ (wrap64 (a1_1 + 1))
             ·rw [if_pos pl] at H
              have c90b0 := eq_true pl
              have c90b1 : decide (a1_1 ≤ (wrap64 (a1_1 + 1))) = true := dT pl
              by_cases pk : (wrap64 (a1_1 + 1)) ≤ (a0.size : Int)
              ·rw [if_pos pk] at H
               have c91b0 := eq_true pk
               have c91b1 : decide ((wrap64 (a1_1 + 1)) ≤ (a0.size : Int)) = true := dT pk
               obtain ⟨y202, hy202⟩ : ∃ y_ : List (S61), y_ = (([(⟨a1_1, (⟨#[]⟩ : ByteArray), (⟨#[]⟩ : ByteArray)⟩ : S61), (⟨0, (⟨#[]⟩ : ByteArray), a0.extract (a1_1 : Int).toNat ((wrap64 (a1_1 + 1)) : Int).toNat⟩ : S61), (⟨wrap64 ((wrap64 (dO - a1_1)) - 1), (⟨#[]⟩ : ByteArray), (⟨#[]⟩ : ByteArray)⟩ : S61), (⟨0, (⟨#[]⟩ : ByteArray), (⟨#[47]⟩ : ByteArray)⟩ : S61), (⟨wrap64 ((wrap64 ((a0.size : Int) - dO)) - 1), (⟨#[]⟩ : ByteArray), (⟨#[]⟩ : ByteArray)⟩ : S61)] : List (S61))) := ⟨_, rfl⟩
               replace H : ((spec_l3Normal.f kj77 y202).bind fun nV => (some (nV, true))) = some (r1, r2) := by first | (rw [hy202]; with_reducible exact H) | (have H2_ := (Option.bind_some _ _).symm.trans H; rw [hy202]; with_reducible exact H2_) | (have H2_ := (Option.bind_some _ _).symm.trans H; with_reducible exact H2_) | with_reducible exact H | (rw [hy202]; exact H) | exact H
               have Ny202 := aM hy202
               clear hy202
               obtain ⟨nV, uk, H⟩ := oA_ H
               try dsimp only at H
               simp only [Option.some.injEq, Prod.mk.injEq] at H
               obtain ⟨rfl, rfl⟩ := H
               obtain ⟨mW, mV, mU, mT, mu, mt, ms, mr⟩ := cc4 aE.out
               try go_wp2_with (first | ((with_reducible refine av (f := 31) rfl ?_); refine ay (some 167) rfl rfl Try.func31 z0 rfl #[.string a0, .int .i64 a1_1] rfl z14 ?_; (with_reducible refine (spec_l1Match.calls kj77 a0 a1_1 dO _ rL.out).mono ?_); rintro e w' ⟨rfl, ⟨nd, rfl⟩⟩; refine ⟨_, rfl, ?_⟩))
               (try (rw [drewN_self wc]; generalize hq_ : World.drewN wc _ = wc; have aG : Aside0 (wc.heap[aT]? = some (.cells #[.int .i64 a1_0, .int .i64 a1_1, .int .i64 a1_2, .string a1_3] 29 (0, 0))) := ⟨by rw [← hq_]; exact z6⟩; have aH : Aside0 (Below w.heap.size w wc) := ⟨by rw [← hq_]; exact z16⟩; clear aE HB hq_; have aE := aG; have HB := aH; clear aG aH))
               replace aE := aM (ai aE.out)
               replace HB := aM (bD HB.out)
               refine start_ (n := 28) (S := fun w' => w'.cell? ⟨aT, 0, none⟩ = some (.int .i64 a1_0) ∧ w'.cell? ⟨aT, 1, none⟩ = some (.int .i64 a1_1) ∧ w'.cell? ⟨aT, 2, none⟩ = some (.int .i64 a1_2) ∧ w'.cell? ⟨aT, 3, none⟩ = some (.string a1_3)) (ds := []) #[false, false, false, false, false, false, false, false, false, false, false, false, false, false, false, false, false, false, false, false, false, false, false, false, false, false, false, false] z0 rfl rfl ⟨(bC aE.out 0).trans rfl, (bC aE.out 1).trans rfl, (bC aE.out 2).trans rfl, (bC aE.out 3).trans rfl⟩ (fun hHeld => ?_); refine with_tabW spec_l8Op.tab26 spec_l8Op.bits26 (fun HT_ HW_ => ?_)
               generalize wc.drew = w94 at aE HB hHeld ⊢
               refine pA 0 172 ?_
               refine pA 3 175 ?_
               refine pA 4 176 ?_
               refine pA 6 178 ?_
               refine pA 11 183 ?_
               refine pA 12 184 ?_
               refine pA 17 189 ?_
               refine pA 18 190 ?_
               refine pA 19 191 ?_
               refine pA 20 192 ?_
               refine pA 21 193 ?_
               refine pA 22 194 ?_
               refine pA 23 195 ?_
               refine t4_ 1 173 ?_
               refine pA 2 174 ?_
               refine t4_ 5 177 ?_
               refine t4_ 7 179 ?_
               refine pA 8 180 ?_
               refine pA 9 181 ?_
               refine pA 10 182 ?_
               refine t4_ 13 185 ?_
               refine pA 14 186 ?_
               refine pA 15 187 ?_
               refine pA 16 188 ?_
               refine one_ (i := 24) (N := some 196) #[true, true, true, true, true, true, true, true, true, true, true, true, true, true, true, true, true, true, true, true, true, true, true, true, true, false, false, false] rfl rfl (one_of HT_.out z0) (by decide) (fun K hK => ?_)
               refine Kd.R_lit_step k61 _ 61 ?hg (N := 196) ?hd (xs := ([(⟨a1_1, (⟨#[]⟩ : ByteArray), (⟨#[]⟩ : ByteArray)⟩ : S61), (⟨0, (⟨#[]⟩ : ByteArray), a0.extract (a1_1 : Int).toNat ((wrap64 (a1_1 + 1)) : Int).toNat⟩ : S61), (⟨wrap64 ((wrap64 (dO - a1_1)) - 1), (⟨#[]⟩ : ByteArray), (⟨#[]⟩ : ByteArray)⟩ : S61), (⟨0, (⟨#[]⟩ : ByteArray), (⟨#[47]⟩ : ByteArray)⟩ : S61), (⟨wrap64 ((wrap64 ((a0.size : Int) - dO)) - 1), (⟨#[]⟩ : ByteArray), (⟨#[]⟩ : ByteArray)⟩ : S61)] : List (S61))) (inner := [.int .i64 a1_1, .string ⟨#[]⟩, .string ⟨#[]⟩, .int .i64 0, .string ⟨#[]⟩, .string (a0.extract (a1_1 : Int).toNat ((wrap64 (a1_1 + 1)) : Int).toNat), .int .i64 (wrap64 ((wrap64 (dO - a1_1)) - 1)), .string ⟨#[]⟩, .string ⟨#[]⟩, .int .i64 0, .string ⟨#[]⟩, .string (⟨#[47]⟩ : ByteArray), .int .i64 (wrap64 ((wrap64 ((a0.size : Int) - dO)) - 1)), .string ⟨#[]⟩, .string ⟨#[]⟩]) (ok := fun _ => True) (okp := fun _ => True) ?hr ?hp (fun _ hk => hk) trivial (Below.refl _ _) (Nat.le_refl _) (by simp) ?_; (case hd => rfl); (case hg => rfl); (case hr => first | (go_simp; done) | (go_simp; rfl)); (case hp => exact (Reps.c3 (show Kd.M k61 _ _ _ (⟨a1_1, (⟨#[]⟩ : ByteArray), (⟨#[]⟩ : ByteArray)⟩ : S61) [.int .i64 a1_1, .string ⟨#[]⟩, .string ⟨#[]⟩] from (k61_mkM _ _ _ (⟨a1_1, (⟨#[]⟩ : ByteArray), (⟨#[]⟩ : ByteArray)⟩ : S61) )) (Reps.c3 (show Kd.M k61 _ _ _ (⟨0, (⟨#[]⟩ : ByteArray), a0.extract (a1_1 : Int).toNat ((wrap64 (a1_1 + 1)) : Int).toNat⟩ : S61) [.int .i64 0, .string ⟨#[]⟩, .string (a0.extract (a1_1 : Int).toNat ((wrap64 (a1_1 + 1)) : Int).toNat)] from (k61_mkM _ _ _ (⟨0, (⟨#[]⟩ : ByteArray), a0.extract (a1_1 : Int).toNat ((wrap64 (a1_1 + 1)) : Int).toNat⟩ : S61) )) (Reps.c3 (show Kd.M k61 _ _ _ (⟨wrap64 ((wrap64 (dO - a1_1)) - 1), (⟨#[]⟩ : ByteArray), (⟨#[]⟩ : ByteArray)⟩ : S61) [.int .i64 (wrap64 ((wrap64 (dO - a1_1)) - 1)), .string ⟨#[]⟩, .string ⟨#[]⟩] from (k61_mkM _ _ _ (⟨wrap64 ((wrap64 (dO - a1_1)) - 1), (⟨#[]⟩ : ByteArray), (⟨#[]⟩ : ByteArray)⟩ : S61) )) (Reps.c3 (show Kd.M k61 _ _ _ (⟨0, (⟨#[]⟩ : ByteArray), (⟨#[47]⟩ : ByteArray)⟩ : S61) [.int .i64 0, .string ⟨#[]⟩, .string (⟨#[47]⟩ : ByteArray)] from (k61_mkM _ _ _ (⟨0, (⟨#[]⟩ : ByteArray), (⟨#[47]⟩ : ByteArray)⟩ : S61) )) (Reps.c3 (show Kd.M k61 _ _ _ (⟨wrap64 ((wrap64 ((a0.size : Int) - dO)) - 1), (⟨#[]⟩ : ByteArray), (⟨#[]⟩ : ByteArray)⟩ : S61) [.int .i64 (wrap64 ((wrap64 ((a0.size : Int) - dO)) - 1)), .string ⟨#[]⟩, .string ⟨#[]⟩] from (k61_mkM _ _ _ (⟨wrap64 ((wrap64 ((a0.size : Int) - dO)) - 1), (⟨#[]⟩ : ByteArray), (⟨#[]⟩ : ByteArray)⟩ : S61) )) (Reps.none _ _)))))))
               intro v203 w95 ho96 hb hg_ hnew_
               clear hg_ hnew_
               (first | rw [← Ny202.out] at ho96 | (simp only [Int.reduceToNat] at ho96; rw [← Ny202.out] at ho96))
               have iL := aM (az ho96 (aq z16))
               replace aE := aM (bK_ aE.out hb)
               replace HB := aM (ap z16 hb)
               clear hb ho96
               obtain ⟨Ao97, td, eo97⟩ := Kd.R_slice iL.out
               (first | subst eo97 | (injection eo97 with f1_ f2_ f3_; have f4_ := f1_.symm; have f5_ := f3_.symm; clear f1_ f2_ f3_; subst f4_; subst f5_))
               refine hK.out _ _ ⟨(bC aE.out 0).trans rfl, (bC aE.out 1).trans rfl, (bC aE.out 2).trans rfl, (bC aE.out 3).trans rfl⟩ (fun hHeld => ?_)
               clear hK K
               refine norm_ (a' := ?_) ?_ ?_
               rotate_left
               ·show Act.put _ (some 196) _ = _
                simp only [Act.put, sA, sB, sC, i64_w, i32_w]
                rfl
               refine one_ (i := 25) (N := some 197) #[true, true, true, true, true, true, true, true, true, true, true, true, true, true, true, true, true, true, true, true, true, true, true, true, true, true, false, false] rfl rfl (one_of HT_.out z0) (by decide) (fun K hK => ?_)
               refine goes_ Try.func74 z0 rfl #[.slice Ao97 y202.length td] (by rfl) rfl rfl z14 ?_
               with_reducible refine (spec_l3Normal.calls kj77 _ _ y202 nV _ ?side1 ?side2 uk.out).mono ?_
               (case side1 => repeat (first | exact (ah iL.out).2.2 | (with_reducible refine Kd.C_alloc ?_ _) | (with_reducible refine Kd.C_drewN ?_ _) | (with_reducible refine Kd.C_drew ?_)))
               (case side2 => exact (ah iL.out).2.1)
               rintro e w98 ⟨v206, rfl, ho0, hb⟩
               refine ⟨_, rfl, ?_⟩
               have HO207 := aM (az (Kd.R_new' ho0 (Kd.R_lt (kR_ iL.out))) (aq z16))
               replace iL := aM (Kd.R_elder' (kR_ iL.out) (Kd.R_base ho0) hb)
               replace aE := aM (bK_ aE.out hb)
               replace HB := aM (ap z16 hb)
               (try clear hb)
               skip
               skip
               skip
               (try clear ho0)
               refine hK.out _ _ ⟨(bC aE.out 0).trans rfl, (bC aE.out 1).trans rfl, (bC aE.out 2).trans rfl, (bC aE.out 3).trans rfl⟩ (fun hHeld => ?_)
               clear hK K
               refine norm_ (a' := ?_) ?_ ?_
               rotate_left
               ·show Act.put _ (some 197) _ = _
                simp only [Act.put, sA, sB, sC, i64_w, i32_w]
                rfl
               refine pA 26 4 ?_
               refine pA 27 5 ?_
               refine done_ (done_of HT_.out z0) ?_
               try go_wp2
               go_ret2
               exact ⟨_, y4, by (with_reducible repeat (first | apply ac | apply ab | apply aa)); exact ag HO207.out (fun _ hk => trivial), y17⟩
              ·rw [if_neg pk] at H
               exact absurd H (by simp)
             ·rw [if_neg pl] at H
              exact absurd H (by simp)
            ·rw [if_neg th] at H
             exact absurd H (by simp)
           ·rw [if_neg rm] at H
            have c88b0 : (a1_0 == 4) = false := qF rm
            have c88b1 : (a1_0 != 4) = true := nT rm
            by_cases kH : a1_0 = 8
            ·rw [if_pos kH] at H
             have c99b0 : (a1_0 == 8) = true := qT kH
             have c99b1 : (a1_0 != 8) = false := nF kH
             clear kH
             obtain ⟨q9, gl, H⟩ := oA_ H
             try dsimp only at H
             by_cases pW : q9 = true
             ·subst pW
              rw [if_pos rfl] at H
              obtain ⟨q0, A102, H⟩ := oA_ H
              try dsimp only at H
              by_cases ow : 0 ≤ a1_1
              ·rw [if_pos ow] at H
               have c103b0 := eq_true ow
               have c103b1 : decide (0 ≤ a1_1) = true := dT ow
               clear ow
               by_cases gu : a1_1 ≤ (wrap64 (a1_1 + 1))
               ·rw [if_pos gu] at H
                have c104b0 := eq_true gu
                have c104b1 : decide (a1_1 ≤ (wrap64 (a1_1 + 1))) = true := dT gu
                by_cases eg : (wrap64 (a1_1 + 1)) ≤ (a0.size : Int)
                ·rw [if_pos eg] at H
                 have c105b0 := eq_true eg
                 have c105b1 : decide ((wrap64 (a1_1 + 1)) ≤ (a0.size : Int)) = true := dT eg
                 simp only [Option.some.injEq, Prod.mk.injEq] at H
                 obtain ⟨rfl, rfl⟩ := H
                 obtain ⟨hcz106_0, hcz106_1, hcz106_2, hcz106_3, hfz106_0, hfz106_1, hfz106_2, hfz106_3⟩ := cc4 aE.out
                 try go_wp2_with (first | ((with_reducible refine av (f := 31) rfl ?_); refine ay (some 167) rfl rfl Try.func31 z0 rfl #[.string a0, .int .i64 a1_1] rfl z14 ?_; (with_reducible refine (spec_l1Match.calls kj77 a0 a1_1 dO _ rL.out).mono ?_); rintro e w' ⟨rfl, ⟨nd, rfl⟩⟩; refine ⟨_, rfl, ?_⟩) | ((with_reducible refine av (f := 73) rfl ?_); refine ay (some 202) rfl rfl Try.func73 z0 rfl #[.string a1_3] rfl z14 ?_; (with_reducible refine (spec_l1Name.calls a1_3 true _ gl.out).mono ?_); rintro e w' ⟨rfl, ⟨nd, rfl⟩⟩; refine ⟨_, rfl, ?_⟩))
                 (try (rw [drewN_self wc]; generalize hq_ : World.drewN wc _ = wc; have aG : Aside0 (wc.heap[aT]? = some (.cells #[.int .i64 a1_0, .int .i64 a1_1, .int .i64 a1_2, .string a1_3] 29 (0, 0))) := ⟨by rw [← hq_]; exact z6⟩; have aH : Aside0 (Below w.heap.size w wc) := ⟨by rw [← hq_]; exact z16⟩; clear aE HB hq_; have aE := aG; have HB := aH; clear aG aH))
                 replace aE := aM (ai aE.out)
                 replace HB := aM (bD HB.out)
                 refine start_ (n := 21) (S := fun w' => w'.cell? ⟨aT, 0, none⟩ = some (.int .i64 a1_0) ∧ w'.cell? ⟨aT, 1, none⟩ = some (.int .i64 a1_1) ∧ w'.cell? ⟨aT, 2, none⟩ = some (.int .i64 a1_2) ∧ w'.cell? ⟨aT, 3, none⟩ = some (.string a1_3)) (ds := []) #[false, false, false, false, false, false, false, false, false, false, false, false, false, false, false, false, false, false, false, false, false] z0 rfl rfl ⟨(bC aE.out 0).trans rfl, (bC aE.out 1).trans rfl, (bC aE.out 2).trans rfl, (bC aE.out 3).trans rfl⟩ (fun hHeld => ?_); refine with_tabW spec_l8Op.tab30 spec_l8Op.bits30 (fun HT_ HW_ => ?_)
                 generalize wc.drew = w107 at aE HB hHeld ⊢
                 refine pA 0 204 ?_
                 refine pA 1 205 ?_
                 refine pA 3 207 ?_
                 refine pA 6 210 ?_
                 refine pA 9 213 ?_
                 refine pA 11 215 ?_
                 refine pA 12 216 ?_
                 refine pA 14 218 ?_
                 refine t4_ 2 206 ?_
                 refine t4_ 4 208 ?_
                 refine pA 5 209 ?_
                 refine t4_ 7 211 ?_
                 refine t4_ 10 214 ?_
                 refine t4_ 13 217 ?_
                 refine t4_ 15 219 ?_
                 refine pA 16 220 ?_
                 refine pA 17 221 ?_
                 refine pA 18 222 ?_
                 refine one_ (i := 8) (N := some 212) #[true, true, true, true, true, true, true, true, true, true, true, true, true, true, true, true, true, true, true, false, false] rfl rfl (one_of HT_.out z0) (by decide) (fun K hK => ?_)
                 refine goes_ Try.func72 z0 rfl #[.string a0, .int .i64 a1_1, .int .i64 (wrap64 (a1_1 + 1)), .string a1_3] (by rfl) rfl rfl z14 ?_
                 with_reducible refine (spec_l3Splice.calls kj77 a0 a1_1 (wrap64 (a1_1 + 1)) a1_3 q0 _ A102.out).mono ?_
                 rintro e w108 ⟨v210, rfl, ho0, hb⟩
                 refine ⟨_, rfl, ?_⟩
                 have HO211 := aM (az ho0 (aq z16))
                 replace aE := aM (bK_ aE.out hb)
                 replace HB := aM (ap z16 hb)
                 (try clear hb)
                 skip
                 skip
                 skip
                 (try clear ho0)
                 refine hK.out _ _ ⟨(bC aE.out 0).trans rfl, (bC aE.out 1).trans rfl, (bC aE.out 2).trans rfl, (bC aE.out 3).trans rfl⟩ (fun hHeld => ?_)
                 clear hK K
                 refine norm_ (a' := ?_) ?_ ?_
                 rotate_left
                 ·show Act.put _ (some 212) _ = _
                  simp only [Act.put, sA, sB, sC, i64_w, i32_w]
                  rfl
                 refine pA 19 4 ?_
                 refine pA 20 5 ?_
                 refine done_ (done_of HT_.out z0) ?_
                 try go_wp2
                 go_ret2
                 exact ⟨_, y4, by (with_reducible repeat (first | apply ac | apply ab | apply aa)); exact HO211.out, y17⟩
                ·rw [if_neg eg] at H
                 exact absurd H (by simp)
               ·rw [if_neg gu] at H
                exact absurd H (by simp)
              ·rw [if_neg ow] at H
               exact absurd H (by simp)
             ·replace pW := Bool.eq_false_iff.mpr pW
              subst pW
              rw [if_neg nF_] at H
              simp only [Option.some.injEq, Prod.mk.injEq] at H
              obtain ⟨rfl, rfl⟩ := H
              obtain ⟨hcz109_0, hcz109_1, hcz109_2, hcz109_3, hfz109_0, hfz109_1, hfz109_2, hfz109_3⟩ := cc4 aE.out
              go_wp2_with (first | ((with_reducible refine av (f := 31) rfl ?_); refine ay (some 167) rfl rfl Try.func31 z0 rfl #[.string a0, .int .i64 a1_1] rfl z14 ?_; (with_reducible refine (spec_l1Match.calls kj77 a0 a1_1 dO _ rL.out).mono ?_); rintro e w' ⟨rfl, ⟨nd, rfl⟩⟩; refine ⟨_, rfl, ?_⟩) | ((with_reducible refine av (f := 73) rfl ?_); refine ay (some 202) rfl rfl Try.func73 z0 rfl #[.string a1_3] rfl z14 ?_; (with_reducible refine (spec_l1Name.calls a1_3 false _ gl.out).mono ?_); rintro e w' ⟨rfl, ⟨nd, rfl⟩⟩; refine ⟨_, rfl, ?_⟩))
              go_ret2
              exact ⟨_, y4, y20, y17⟩
            ·rw [if_neg kH] at H
             have c99b0 : (a1_0 == 8) = false := qF kH
             have c99b1 : (a1_0 != 8) = true := nT kH
             by_cases eS : a1_0 = 7
             ·rw [if_pos eS] at H
              have c110b0 : (a1_0 == 7) = true := qT eS
              have c110b1 : (a1_0 != 7) = false := nF eS
              clear eS
              obtain ⟨⟨t212, t213⟩, rO, H⟩ := oA_ H
              try dsimp only at H
              simp only [Option.some.injEq, Prod.mk.injEq] at H
              obtain ⟨rfl, rfl⟩ := H
              obtain ⟨hcz112_0, hcz112_1, hcz112_2, hcz112_3, hfz112_0, hfz112_1, hfz112_2, hfz112_3⟩ := cc4 aE.out
              go_wp2_with (first | ((with_reducible refine av (f := 31) rfl ?_); refine ay (some 167) rfl rfl Try.func31 z0 rfl #[.string a0, .int .i64 a1_1] rfl z14 ?_; (with_reducible refine (spec_l1Match.calls kj77 a0 a1_1 dO _ rL.out).mono ?_); rintro e w' ⟨rfl, ⟨nd, rfl⟩⟩; refine ⟨_, rfl, ?_⟩) | ((with_reducible refine av (f := 76) rfl ?_); refine ay (some 232) rfl rfl Try.func76 z0 rfl #[.string a0, .int .i64 a1_1, .int .i64 (wrap64 (dO + 1)), .int .i64 a1_2] rfl z14 ?_; (with_reducible refine (spec_l8Move.calls kj77 a0 a1_1 (wrap64 (dO + 1)) a1_2 t212 t213 _ rO.out).mono ?_); rintro e w113 ⟨v214, rfl, ho0, hb⟩; refine ⟨_, rfl, ?_⟩; have HO215 := aM (az ho0 (aq z16)); replace aE := aM (bK_ aE.out hb); replace HB := aM (ap z16 hb); (try clear hb); (try clear ho0)))
              go_ret2
              exact ⟨_, y4, by (with_reducible repeat (first | apply ac | apply ab | apply aa)); exact HO215.out, y17⟩
             ·rw [if_neg eS] at H
              have c110b0 : (a1_0 == 7) = false := qF eS
              have c110b1 : (a1_0 != 7) = true := nT eS
              simp only [Option.some.injEq, Prod.mk.injEq] at H
              obtain ⟨rfl, rfl⟩ := H
              obtain ⟨hcz114_0, hcz114_1, hcz114_2, hcz114_3, hfz114_0, hfz114_1, hfz114_2, hfz114_3⟩ := cc4 aE.out
              go_wp2_with (first | ((with_reducible refine av (f := 31) rfl ?_); refine ay (some 167) rfl rfl Try.func31 z0 rfl #[.string a0, .int .i64 a1_1] rfl z14 ?_; (with_reducible refine (spec_l1Match.calls kj77 a0 a1_1 dO _ rL.out).mono ?_); rintro e w' ⟨rfl, ⟨nd, rfl⟩⟩; refine ⟨_, rfl, ?_⟩))
              go_ret2
              exact ⟨_, y4, y20, y17⟩
 ·exact absurd (A3.out.symm.trans HTR.out) (fun e_ => c4 (sI e_))
theorem spec_l8Op.calls (k : Nat) (a0 : ByteArray) (a1_0 : Int) (a1_1 : Int) (a1_2 : Int) (a1_3 : ByteArray) (r1 : List (S61)) (r2 : Bool) (w : World) (h : spec_l8Op.f k a0 a1_0 a1_1 a1_2 a1_3 = some (r1, r2)) :
  Calls Try.prog 53 #[.string a0, .agg #[.int .i64 a1_0, .int .i64 a1_1, .int .i64 a1_2, .string a1_3]] w fun e w' => ∃ v0_ : Value, e = .returned (.tuple #[v0_, .bool r2]) ∧ Kd.R k61 61 w' w.heap.size (fun _ => True) v0_ r1 ∧ Below w.heap.size w w' := by
 obtain ⟨t, ht, -⟩ := oB h
 have HT := aM ht
 clear ht
 cases t with
 | false => exact spec_l8Op.callsF k a0 a1_0 a1_1 a1_2 a1_3 r1 r2 w HT h
 | true =>
  by_cases c1 : a1_0 = 1
  · exact spec_l8Op.calls1 k a0 a1_0 a1_1 a1_2 a1_3 r1 r2 w HT ⟨c1⟩ h
  · by_cases c2 : a1_0 = 2 ∨ a1_0 = 3
    · exact spec_l8Op.calls23 k a0 a1_0 a1_1 a1_2 a1_3 r1 r2 w HT ⟨c2⟩ h
    · by_cases c5 : a1_0 = 5
      · exact spec_l8Op.calls5 k a0 a1_0 a1_1 a1_2 a1_3 r1 r2 w HT ⟨c5⟩ h
      · by_cases c6 : a1_0 = 6
        · exact spec_l8Op.calls6 k a0 a1_0 a1_1 a1_2 a1_3 r1 r2 w HT ⟨c6⟩ h
        · exact spec_l8Op.callsO k a0 a1_0 a1_1 a1_2 a1_3 r1 r2 w HT ⟨⟨c1, fun h_ => c2 (.inl h_), fun h_ => c2 (.inr h_), c5, c6⟩⟩ h

end Go.Proofs.Ytmigfgcpdelnfaa.AFnUndoneBy
